/- The page's machine: its state, how it lies in memory; stop, step. Conditions: as stated. The page's trees' values (chapters 6, 7), as plain functions. No program in sight. No condition. The page's machine (chapter 7), as plain functions: programs, objects made, stores, steps, calls, runs. No program in sight. No condition. What the page's ops come to may be again. No program in sight. No condition. Slices of trees. No program in sight. No condition. How a program lies in memory. No program in sight but its name. No condition. An empty memory and one of the object that is none are one to the page's machine: plain. No program in sight. No condition. The page's machine: step. Conditions: as stated. The page's machine: a call's frame; what a tree's walk is asked. No condition. The page's machine: a tree one of whose kids comes to nothing. Conditions: as stated. Regions that draw their order: reads, then a tail in one forced order; the reads by the cheap step. No program in sight but its name. No condition. Kids, Size, Between, Num, IsLoad: small asks. No condition. The graph's checks: Size, within. No condition. Leaf, Is, Arity, Binary: small asks of the program. No condition but those stated. -/
import Derived.Test.YtikbdplllopjlaaGreatMemApplyZz
set_option linter.unusedVariables false
set_option linter.unusedSimpArgs false
set_option maxHeartbeats 8000000
set_option maxRecDepth 100000
open Go.Proofs.Tryz
namespace Go.Proofs.YtikbdplllopjlaaGreat
open Go.RowKit
structure St where
 inp:List Int
 kind:Int
 code:Int
 out:List Int
 steps:Int
 deep:Int
 calls:Int
 mem:List MO
def lA(k:Int)(s:St):St:=if s.kind=0 then {s with kind:=k}else s
def aW(ah n:Int)(s:St):Bool×St:=
 if s.kind=0 then if n>ah-s.steps then(false,{s with steps:=ah,kind:=2})else(true,{s with steps:=s.steps+n})else(false,s)
def r8(cs:Array Value)(l:List V):Prop:=cs.size=l.length*2/\∀j v,l[j]? =some v->cs[j*2]? =some (.int .i64 v.obj)/\cs[j*2+1]? =some (.int .i64 v.n)
def iq(w:World)(b:Nat)(l:List V):Prop:=∃cs,Row w b cs 72/\r8 cs l
def vE(w:World)(ai:Nat)(v:Value)(l:List Int):Prop:=
 ∃A aA,v= .slice A l.length aA/\l.length<=aA/\aA<=9223372036854775807/\(0<l.length->∃b off,A=some ⟨b,off,none⟩/\b<ai/\∀j x,l[j]? =some x->w.cell? ⟨b,off+j,none⟩=some (.int .i64 x)/\bz x)
def uL(xs:List Value)(rb:Nat->Nat)(k:Nat)(o:MO):Prop:=
 xs[k*3]? =some (.int .i64 o.size)/\xs[k*3+1]? =some (if k=0 then .slice none 0 0 else .slice (some ⟨rb k,0,none⟩) o.l.length o.l.length)/\xs[k*3+2]? =some (.bool o.live)
structure b9 (M:List MO):Prop where
 many:M.length<=4294967296
 zero:∀o,M[0]? =some o->o=⟨0,[],false⟩
 size:∀k o,1<=k->M[k]? =some o->(o.size=1\/o.size=2\/o.size=4\/o.size=8)/\o.l.length<=64
 vals:∀o,o∈M->∀v,v∈o.l->lY M.length v
structure nY (w:World) (ai:Nat) (own:Nat->Prop) (aU:Value) (rb:Nat->Nat) (M:List MO):Prop where
 row:∃xs,w.ownsRow ai 116 3 aU M.length xs/\∀k o,M[k]? =some o->uL xs rb k o
 mine:∀k o,1<=k->M[k]? =some o->own (rb k)/\iq w (rb k) o.l
 inj:∀i j,1<=i->i<M.length->1<=j->j<M.length->rb i=rb j->i=j
 ok:b9 M
structure Rest (w:World) (ai:Nat) (own:Nat->Prop) (inv outv aU:Value) (rb:Nat->Nat) (s:St):Prop where
 inp:vE w ai inv s.inp
 out:w.ownsRow ai 2 1 outv s.out.length (s.out.map (Value.int .i64))
 rH:∀g,outv.ownBlock=some g->own g
 mem:nY w ai own aU rb s.mem
 memo:∀g,aU.ownBlock=some g->own g
 own:∀k,own k->ai<=k/\k<w.heap.size
def uS(P:Value×Value×Value)(ah:Int)(s:St)(inv outv aU:Value):Array Value:=
 #[P.1,P.2.1,P.2.2,inv,.int .i64 ah,.int .i64 s.kind,.int .i64 s.code,outv,.int .i64 s.steps,.int .i64 s.deep,aU,.int .i64 s.calls]
structure cG (w:World) (ai mc:Nat) (own:Nat->Prop) (P:Value×Value×Value) (ah:Int) (s:St) (inv outv aU:Value) (rb:Nat->Nat):Prop where
 row:Row w mc (uS P ah s inv outv aU) 82
 mine:own mc
 rest:Rest w ai own inv outv aU rb s
def cN(w:World)(ai mc:Nat)(own:Nat->Prop)(P:Value×Value×Value)(ah:Int)(s:St):Prop:=
 ∃inv outv aU rb,cG w ai mc own P ah s inv outv aU rb
theorem vE.below{w w':World}{ai:Nat}{v:Value}{l:List Int}(h:vE w ai v l)(hw:∀b o,b<ai->w'.cell? ⟨b,o,none⟩=w.cell? ⟨b,o,none⟩):vE w' ai v l:=by
 obtain⟨A,aA,hv,h1,h2,h3⟩:=h;refine⟨A,aA,hv,h1,h2,λhp=>?_⟩;obtain⟨b,off,hA,hb,hc⟩:=h3 hp;exact⟨b,off,hA,hb,λj x hj=>⟨(hw b _ hb).trans (hc j x hj).1,(hc j x hj).2⟩⟩
theorem Rest.wr{w w':World}{ai:Nat}{own F:Nat->Prop}{inv outv aU:Value}{rb:Nat->Nat}{s:St}(h:Rest w ai own inv outv aU rb s)(hw:Wr F w w')
  (hF:∀k,F k->ai<=k/\(own k->∃cs,Row w k cs 82))(hb:ai<=w.heap.size):Rest w' ai own inv outv aU rb s:=by
 have hne:∀g cs t,Row w g cs t->own g->t≠82->¬F g:=by
  intro g cs t hr ho ht hf;obtain⟨cs',eu⟩:=(hF g hf).2 ho;exact hr.ne eu ht rfl
 refine⟨h.inp.below (λb o hb'=>?_),aB h.out hw (λg hg=>?_),h.rH,?_,h.memo,λk hk=>⟨(h.own k hk).1,kL (h.own k hk).2 hw.size⟩⟩
 ·exact World.cell?_of_block (a:=⟨b,o,none⟩) (hw.block b (by omega) (λhf=>by have:=(hF b hf).1;omega))
 ·obtain⟨_,cs,hr⟩:=aC h.out hg;exact hne g cs _ hr (h.rH g hg) (by decide)
 ·obtain⟨⟨xs,hx,oC⟩,hm,hi,hk⟩:=h.mem;refine⟨⟨xs,aB hx hw (λg hg=>?_),oC⟩,λk o h1 ho=>?_,hi,hk⟩
  ·obtain⟨_,cs,hr⟩:=aC hx hg;exact hne g cs _ hr (h.memo g hg) (by decide)
  ·obtain⟨rL,cs,hr,hv⟩:=hm k o h1 ho;exact⟨rL,cs,hr.wr hw (hne _ cs _ hr rL (by decide)),hv⟩
theorem cN.below{w w':World}{ai mc:Nat}{own:Nat->Prop}{P:Value×Value×Value}{ah:Int}{s:St}(h:cN w ai mc own P ah s)(hw:Below w.heap.size w w'):cN w' ai mc own P ah s:=by
 obtain⟨inv,outv,aU,rb,hr,hm,hs⟩:=h;have hb:=(hs.own mc hm)
 exact⟨inv,outv,aU,rb,hr.below hw hr.lt,hm,hs.wr (F:=λ_=>False) (Wr.of_below hw) (λk hk=>hk.elim) (by omega)⟩
theorem cN.wr{w w':World}{ai mc:Nat}{own F:Nat->Prop}{P:Value×Value×Value}{ah:Int}{s:St}(h:cN w ai mc own P ah s)(hw:Wr F w w')(hF:∀k,F k->ai<=k/\¬own k):cN w' ai mc own P ah s:=by
 obtain⟨inv,outv,aU,rb,hr,hm,hs⟩:=h;have hb:=(hs.own mc hm)
 exact⟨inv,outv,aU,rb,hr.wr hw (λhf=>(hF mc hf).2 hm),hm,hs.wr hw (λk hk=>⟨(hF k hk).1,λho=>absurd ho (hF k hk).2⟩) (by omega)⟩
theorem Rest.same{w:World}{ai:Nat}{own:Nat->Prop}{inv outv aU:Value}{rb:Nat->Nat}{s s':St}(h:Rest w ai own inv outv aU rb s)(h1:s'.inp=s.inp)(h2:s'.out=s.out)(h3:s'.mem=s.mem):Rest w ai own inv outv aU rb s':=
 ⟨h1▸h.inp,h2▸h.out,h.rH,h3▸h.mem,h.memo,h.own⟩
theorem cG.num{w:World}{ai mc:Nat}{own:Nat->Prop}{P:Value×Value×Value}{ah:Int}{s s':St}{inv outv aU:Value}{rb:Nat->Nat}(h:cG w ai mc own P ah s inv outv aU rb)(j:Nat)(v:Value)
  (hj:(uS P ah s inv outv aU).setIfInBounds j v=uS P ah s' inv outv aU)(h1:s'.inp=s.inp)(h2:s'.out=s.out)(h3:s'.mem=s.mem):cG (w.setCell ⟨mc,j,none⟩ v) ai mc own P ah s' inv outv aU rb:=by
 obtain⟨hr,hm,hs⟩:=h;have hb:=(hs.own mc hm)
 have hw:Wr (λk=>k=mc) w (w.setCell ⟨mc,j,none⟩ v):=Wr.setCell w ⟨mc,j,none⟩ v rfl;refine⟨hj▸hr.set j v,hm,(hs.wr hw (λk hk=>?_) (by omega)).same h1 h2 h3⟩;subst hk;exact⟨hb.1,λ_=>⟨_,hr⟩⟩
theorem cG.lt{w:World}{ai mc:Nat}{own:Nat->Prop}{P:Value×Value×Value}{ah:Int}{s:St}{inv outv aU:Value}{rb:Nat->Nat}(h:cG w ai mc own P ah s inv outv aU rb):mc<w.heap.size:=h.row.lt
theorem nE(ai mc:Nat)(own:Nat->Prop)(P:Value×Value×Value)(ah k:Int)(s:St)(w:World)(hm:cN w ai mc own P ah s):
  Calls prog 50 #[.pointer (some ⟨mc,0,none⟩),.int .i64 k] w λe w'=>e= .returned (.bool false)/\cN w' ai mc own P ah (lA k s)/\Wr (λb=>b=mc) w w':=by
 obtain⟨inv,outv,aU,rb,hm⟩:=hm;have c5:w.cell? ⟨mc,5,none⟩=some (.int .i64 s.kind):=hm.row.cell rfl;have f5:w.frozen? ⟨mc,5,none⟩=false:=hm.row.free 5;unfold lA;by_cases hk:s.kind=0
 ·rw[if_pos hk];have HM:=ae (cG.num (s':={s with kind:=k}) hm 5 (.int .i64 k) rfl rfl rfl rfl);rw[hk]at c5;clear hm hk;go_enter func50,ntmps50;go_wp2;go_ret;exact⟨rfl,⟨_,_,_,_,HM.out⟩,Wr.setCell w ⟨mc,5,none⟩ _ rfl⟩
 ·rw[if_neg hk];have HM:=ae hm;have iT:(s.kind==0)=false:=by simpa using hk
  clear hm hk;go_enter func50,ntmps50;go_wp2;go_ret;exact⟨rfl,⟨_,_,_,_,HM.out⟩,Wr.refl _ _⟩
end Go.Proofs.YtikbdplllopjlaaGreat
namespace Go.Proofs.YtikbdplllopjlaaGreat
open Go.RowKit
def rI(M:List MO)(tp:List V)(lo:List Nat)(op n:Int)(l:List V):Option V:=
 if op=1 then some ⟨0,n⟩else if op=2 then some (tp.getD n.toNat ⟨0,0⟩)else if op=3 then some ⟨lo.getD n.toNat 0,0⟩else if op=4 then some ⟨n.toNat+1,0⟩else iJ M op l
mutual
def bZ(M:List MO)(tp:List V)(lo:List Nat):T->Option V
 | .node op n ks=>(aD M tp lo ks).bind (rI M tp lo op n)
def aD(M:List MO)(tp:List V)(lo:List Nat):List T->Option (List V)
 |[]=>some []
 |k::ks=>(bZ M tp lo k).bind λv=>(aD M tp lo ks).map (v::·)
end
def rB(op:Int):Nat:=if op<=4 then 0 else if 12<=op/\op<=30 then 2 else 1
mutual
def C8(nt nl ng:Nat):T->Prop
 | .node op n ks=>1<=op/\op<=36/\ks.length=rB op/\(op=2->0<=n/\n<nt)/\(op=3->0<=n/\n<nl)/\(op=4->0<=n/\n<ng)/\fY nt nl ng ks
def fY(nt nl ng:Nat):List T->Prop
 |[]=>True
 |k::ks=>C8 nt nl ng k/\fY nt nl ng ks
end
mutual
def Pr:T->Prop
 | .node _ n ks=>bz n/\e9 ks
def e9:List T->Prop
 |[]=>True
 |k::ks=>Pr k/\e9 ks
end
theorem e9.get{ks:List T}{k:Nat}{t:T}(h:e9 ks)(hk:ks[k]? =some t):Pr t:=by
 induction ks generalizing k with
 |nil=>simp at hk
 |cons a r ih=>
  simp only[e9]at h;cases k with
  |zero=>simp at hk;subst hk;exact h.1
  |succ k=>simp at hk;exact ih h.2 hk
theorem fY.get{nt nl ng:Nat}{ks:List T}{k:Nat}{t:T}(h:fY nt nl ng ks)(hk:ks[k]? =some t):C8 nt nl ng t:=by
 induction ks generalizing k with
 |nil=>simp at hk
 |cons a r ih=>
  simp only[fY]at h;cases k with
  |zero=>simp at hk;subst hk;exact h.1
  |succ k=>simp at hk;exact ih h.2 hk
section
variable {M:List MO} {tp:List V} {lo:List Nat}
theorem pZ(a b:List T):aD M tp lo (a++b)=(aD M tp lo a).bind λx=>(aD M tp lo b).map (x++·):=by
 induction a with
 |nil=>simp[aD]
 |cons t r ih=>
  simp only[List.cons_append,aD,ih];cases bZ M tp lo t<;>cases aD M tp lo r<;>cases aD M tp lo b<;>simp
theorem dH{α:Type}{l:List α}{k:Nat}{t:α}(h:l[k]? =some t):l.take (k+1)=l.take k++[t]:=by
 rw[List.take_add_one,h];rfl
theorem cE{ks:List T}{k:Nat}{l:List V}{t:T}{v:V}(h:aD M tp lo (ks.take k)=some l)(ht:ks[k]? =some t)(hv:bZ M tp lo t=some v):aD M tp lo (ks.take (k+1))=some (l++[v]):=by
 rw[dH ht,pZ,h];simp[aD,hv]
theorem cI{ks:List T}{k:Nat}{t:T}(ht:ks[k]? =some t)(hv:bZ M tp lo t=none):aD M tp lo ks=none:=by
 have hlt:k<ks.length:=by
  rcases Nat.lt_or_ge k ks.length with h|h
  ·exact h
  ·rw[List.getElem?_eq_none h]at ht;cases ht
 have e:ks=ks.take (k+1)++ks.drop (k+1):=(List.take_append_drop _ _).symm;rw[e,pZ,dH ht,pZ];cases aD M tp lo (ks.take k)<;>simp[aD,hv]
theorem aK{ks:List T}{l:List V}(h:aD M tp lo ks=some l):l.length=ks.length:=by
 induction ks generalizing l with
 |nil=>simp[aD]at h;subst h;rfl
 |cons t r ih=>
  simp only[aD]at h;cases hv:bZ M tp lo t with
  |none=>rw[hv]at h;simp at h
  |some v=>
   rw[hv]at h;cases hr:aD M tp lo r with
   |none=>rw[hr]at h;simp at h
   |some x=>rw[hr]at h;simp at h;subst h;simp[ih hr]
end
def bV:List V->List Value
 |[]=>[]
 |v::l=> .int .i64 v.obj:: .int .i64 v.n::bV l
theorem eZ(l:List V):(bV l).length=l.length*2:=by
 induction l with
 |nil=>rfl
 |cons v l ih=>simp[bV,ih];omega
theorem bP(a b:List V):bV (a++b)=bV a++bV b:=by
 induction a with
 |nil=>rfl
 |cons v l ih=>simp[bV,ih]
theorem LQ{l:List V}{j:Nat}{v:V}(h:l[j]? =some v):(bV l)[j*2]? =some (.int .i64 v.obj)/\(bV l)[j*2+1]? =some (.int .i64 v.n):=by
 induction l generalizing j with
 |nil=>simp at h
 |cons a l ih=>
  cases j with
  |zero=>simp at h;subst h;simp[bV]
  |succ j=>
   simp at h;have:=ih h;rw[show(j+1)*2=j*2+1+1 by omega];simpa [bV]using this
theorem qT{w:World}{ai:Nat}{v:Value}{l:List V}{e:TypeId}(h:w.ownsRow ai e 2 v l.length (bV l))(hp:0<l.length):∃g aA,v= .slice (some ⟨g,0,none⟩) l.length aA/\ai<=g/\g<w.heap.size/\∀j x,l[j]? =some x->bg w g (0+j*2) x:=by
 have hlt:=h.lt;obtain⟨h1,h2⟩:=h;rcases h2 with⟨_,h2⟩|⟨g,aA,cur,hv,hb,hh,h3,h4,h5,h6⟩
 ·omega
 ·subst hv;refine⟨g,aA,rfl,hb,Row.lt hh,λj x hj=>?_⟩;have hg:=LQ hj;have EA:j<l.length:=by
   rcases Nat.lt_or_ge j l.length with h|h
   ·exact h
   ·rw[List.getElem?_eq_none h]at hj;cases hj
  rw[<-h6]at hg;have e0:=hg.1;have e1:=hg.2;rw[List.getElem?_take,if_pos (by omega),Array.getElem?_toList]at e0 e1;exact⟨Row.cell hh (by simpa using e0),Row.cell hh (by simpa using e1)⟩
end Go.Proofs.YtikbdplllopjlaaGreat
namespace Go.Proofs.YtikbdplllopjlaaGreat
open Go.RowKit
structure jR where
 size:Int
 count:Int
 init:List Int
structure cM where
 op:Int
 to:Int
 size:Int
 fn:Int
 args:List T
structure bW where
 steps:List cM
 fin:Int
 cond:T
 next:Int
 els:Int
structure aP where
 params:Int
 ay:Int
 az:List jR
 blocks:List bW
structure aM where
 ax:List jR
 funcs:List aP
 main:Int
def kF(o:jR):List V:=(List.range o.count.toNat).map λi=>⟨0,match o.init[i]? with|some n=>eC o.size.toNat n|none=>0⟩
def gG(M:List MO)(o:jR):List MO:=(if M=[]then [⟨0,[],false⟩]else M)++[⟨o.size,kF o,true⟩]
def bf(M:List MO):List jR->List MO
 |[]=>M
 |o::l=>bf (gG M o) l
def cS(M:List MO)(size:Int)(a x:V):Option (List MO):=
 match qL M a size.toNat with
 |none=>none
 |some j=>if x.obj>0/\size≠8 then none else
   some (M.modify a.obj λo=>{o with l:=o.l.set j (if x.obj=0 then⟨0,eC size.toNat x.n⟩else x)})
def pN(tp:List V)(to:Int)(v:V):List V:=if 0<=to then tp.set to.toNat v else tp
def dZ(M:List MO):List Nat->List MO
 |[]=>M
 |k::l=>dZ (M.modify k λo=>{o with live:=false}) l
abbrev cC:=Int->List V->St->Option V×St
def ik(R:cC)(s:St)(tp:List V)(x:cM)(l:List V):Bool×St×List V:=
 if x.op=1 then(true,s,pN tp x.to (l.getD 0 ⟨0,0⟩))
 else if x.op=2 then match cS s.mem x.size (l.getD 0 ⟨0,0⟩) (l.getD 1 ⟨0,0⟩)with
  |some M=>(true,{s with mem:=M},tp)
  |none=>(false,{s with kind:=3},tp)
 else if x.op=3 then match R x.fn l s with
  |(some v,s')=>(true,s',pN tp x.to v)
  |(none,s')=>(false,s',tp)
 else if x.op=5 then match s.inp with
  |[]=>(true,s,pN tp x.to ⟨0,0⟩)
  |n::r=>(true,{s with inp:=r},pN tp x.to ⟨0,n⟩)
 else if(l.getD 0 ⟨0,0⟩).obj>0 then(false,{s with kind:=3},tp)
 else if x.op=6 then(false,{s with code:=(l.getD 0 ⟨0,0⟩).n,kind:=1},tp)
 else(true,{s with out:=s.out++[(l.getD 0 ⟨0,0⟩).n]},tp)
def bu(R:cC)(ah:Int)(lo:List Nat)(s:St)(tp:List V)(x:cM):Bool×St×List V:=
 if(aW ah 1 s).1=false then(false,(aW ah 1 s).2,tp)
 else match aD (aW ah 1 s).2.mem tp lo x.args with
  |none=>(false,{(aW ah 1 s).2 with kind:=3},tp)
  |some l=>ik R (aW ah 1 s).2 tp x l
def eL(R:cC)(ah:Int)(lo:List Nat)(s:St)(tp:List V):List cM->Bool×St×List V
 |[]=>(true,s,tp)
 |x::r=>match bu R ah lo s tp x with
  |(true,s',tp')=>eL R ah lo s' tp' r
  |(false,s',tp')=>(false,s',tp')
inductive Goes where
 |over
 |next (k:Int)
 |ret (v:V)
def dN(R:cC)(ah:Int)(lo:List Nat)(s:St)(tp:List V)(b:bW):Goes×St×List V:=
 match eL R ah lo s tp b.steps with
 |(false,s',tp')=>(.over,s',tp')
 |(true,s1,PT)=>
  if(aW ah 1 s1).1=false then(.over,(aW ah 1 s1).2,PT)
  else if b.fin=1 then(.next b.next,(aW ah 1 s1).2,PT)
  else match bZ (aW ah 1 s1).2.mem PT lo b.cond with
   |none=>(.over,{(aW ah 1 s1).2 with kind:=3},PT)
   |some v=>if b.fin=3 then(.ret v,(aW ah 1 s1).2,PT)
    else(.next (if v=⟨0,0⟩then b.els else b.next),(aW ah 1 s1).2,PT)
def JW:bW:=⟨[],0,.node 0 0 [],0,0⟩
def jv:aP:=⟨0,0,[],[]⟩
def eQ(R:cC)(ah:Int)(lo:List Nat)(bs:List bW):Nat->Int->St->List V->Option V×St
 |0,_,s,_=>(none,s)
 |g+1,k,s,tp=>match dN R ah lo s tp (bs.getD k.toNat JW)with
  |(.over,s',_)=>(none,s')
  |(.next k',s',tp')=>eQ R ah lo bs g k' s' tp'
  |(.ret v,s',_)=>(some v,{s' with mem:=dZ s'.mem lo,calls:=s'.calls-1})
def aS:List jR->Int
 |[]=>0
 |o::l=>o.count+aS l
def eE(M:List MO)(n:Nat):List Nat:=(List.range n).map λi=>(if M=[]then 1 else M.length)+i
def gm(n:Nat)(args:List V):List V:=args++List.replicate (n-args.length) ⟨0,0⟩
def mF(p:aM)(ah:Int):Nat->cC
 |0,_,_,s=>(none,lA 4 s)
 |d+1,fn,args,s=>
  let g:=p.funcs.getD fn.toNat jv
  let s1:={s with calls:=s.calls+1,deep:=max s.deep (s.calls+1)}
  if(aW ah (aS g.az) s1).1=false then(none,(aW ah (aS g.az) s1).2)
  else
   let s2:=(aW ah (aS g.az) s1).2
   eQ (mF p ah d) ah (eE s2.mem g.az.length) g.blocks (ah-s2.steps+1).toNat 0 {s2 with mem:=bf s2.mem g.az} (gm g.ay.toNat args)
structure sX where
 kind:Int
 code:Int
 out:List Int
 steps:Int
 deep:Int
def mP(r:Option V×St):sX:=
 let s:=match r.1 with
  |some v=>{r.2 with kind:=if v.obj>0 then 3 else 1,code:=v.n}
  |none=>r.2
 if s.kind=3 then⟨3,0,[],0,0⟩else⟨s.kind,s.code,s.out,s.steps,s.deep⟩
def wV(p:aM)(inp:List Int)(ah:Int):sX:=
 mP (mF p ah 64 p.main [] ⟨inp,0,0,[],0,0,0,bf [] p.ax⟩)
end Go.Proofs.YtikbdplllopjlaaGreat
namespace Go.Proofs.YtikbdplllopjlaaGreat
open Go.RowKit
theorem JK(n:Int):bz (wrap64 n):=by unfold wrap64 bz;omega
theorem Pf(op:BinOp)(x y:Int):bz (bits op .i64 x y):=by
 unfold bits bz;simp only[IntKind.wrap_i64];omega
theorem Nd(t:Bool):bz (wT t):=by unfold bz;exact fR t
theorem Qw{a b:Int}(ha:bz a):bz (a.tmod b):=by
 unfold bz at*;have h:((a.tmod b).natAbs:Int)<=a.natAbs:=by
  rw[Int.natAbs_tmod]
  exact_mod_cast Nat.mod_le _ _
 by_cases hz:0<=a
 ·have:=Int.tmod_nonneg b hz;omega
 ·have hs:a.tmod b<=0:=by
   have h1:=Int.tmod_nonneg b (show 0<= -a by omega);rw[Int.neg_tmod]at h1;omega
  omega
theorem RI{op a b:Int}(ha:bz a):bz (xL op a b):=by
 unfold xL pO qR uO uN
 (repeat' split)<;>first|exact JK _|exact ha|exact Qw ha|(unfold bz;omega)
theorem Hl{a:Int}(ha:bz a)(k:Nat):bz (a/2^k):=by
 have hp:(0:Int)<2^k:=Int.pow_pos (by decide);unfold bz at*;constructor
 ·exact(Int.le_ediv_iff_mul_le hp).2 (by
   have:(-9223372036854775808:Int)*2^k<= -9223372036854775808*1:=Int.mul_le_mul_of_nonpos_left (by decide) (by omega);omega)
 ·have:=Int.ediv_le_ediv hp ha.2;refine Int.le_trans this ?_;exact Int.ediv_le_self _ (by decide)
theorem Ah{op a b:Int}(ha:bz a):bz (bO op a b):=by
 unfold bO
 (repeat' split)<;>first|exact JK _|exact Pf _ _ _|exact Hl ha _|exact RI ha|exact Nd _
theorem Qt{op n:Int}(h:bz n):bz (EH op n):=TY op n h.1 h.2
theorem Fb{op n:Int}(h:bz n):bz (iP op n):=by
 unfold iP;split
 ·exact h
 ·exact DX _ _ _ h.1 h.2
theorem rM{s:Nat}{n:Int}(h:bz n):bz (eC s n):=by
 unfold eC;split
 ·exact h
 ·exact DX _ _ _ h.1 h.2
theorem lY.num{n:Nat}{x:Int}(hn:0<n)(h:bz x):lY n ⟨0,x⟩:=⟨hn,λh=>absurd rfl h,h⟩
section
variable {M:List MO}
theorem b9.obj(h:b9 M){k:Nat}(hk:k<M.length):0<=(aF M k).size/\(aF M k).size<=8/\(aF M k).l.length<=64:=by
 have hg:=oz hk;by_cases h0:k=0
 ·subst h0;rw[h.zero _ hg];simp
 ·have:=h.size k _ (by omega) hg;omega
theorem AJ(h:b9 M){a:V}(ha:lY M.length a)(hp:a.obj≠0){n:Int}{r:V}(hr:dD M a n=some r):lY M.length r:=by
 unfold dD at hr;split at hr
 ·rename_i hc;obtain⟨_,h1,h2⟩:=hc;simp only[Option.some.injEq]at hr;subst hr;have hb:=h.obj ha.1;have:=MO.gQ hb.1 hb.2.1 hb.2.2;have:=ha.2.1 hp;exact⟨ha.1,λ_=>by simp only;omega,by unfold bz;simp only;omega⟩
 ·cases hr
theorem VA(h:b9 M){op:Int}{a b r:V}(ha:lY M.length a)(hb:lY M.length b)(hr:gR bO M op a b=some r):lY M.length r:=by
 have hn:0<M.length:=Nat.lt_of_le_of_lt (Nat.zero_le _) ha.1;unfold gR at hr;by_cases h0:a.obj=0/\b.obj=0
 ·rw[if_pos h0]at hr;simp only[Option.some.injEq]at hr;subst hr;exact lY.num hn (Ah ha.2.2)
 ·rw[if_neg h0]at hr;by_cases h1:op=12/\a.obj=0
  ·rw[if_pos h1]at hr;exact AJ h hb (by omega) hr
  ·rw[if_neg h1]at hr;by_cases h2:op=12/\b.obj=0
   ·rw[if_pos h2]at hr;exact AJ h ha (by omega) hr
   ·rw[if_neg h2]at hr;by_cases h3:op=13/\b.obj=0
    ·rw[if_pos h3]at hr;split at hr
     ·cases hr
     ·exact AJ h ha (by omega) hr
    ·rw[if_neg h3]at hr
     (repeat' split at hr)<;>first|(cases hr;done)|(simp only[Option.some.injEq]at hr;subst hr;exact lY.num hn (Ah (by first|exact ha.2.2|(unfold bz;omega))))|(simp only[Option.some.injEq]at hr;subst hr;exact lY.num hn (Ah (by split<;>(unfold bz;omega))))
theorem QP(h:b9 M){op:Int}{a r:V}(ha:lY M.length a)(hr:nJ M op a=some r):lY M.length r:=by
 have hn:0<M.length:=Nat.lt_of_le_of_lt (Nat.zero_le _) ha.1;unfold nJ at hr;cases hF:qL M a (gp op)with
 |none=>rw[hF]at hr;cases hr
 |some j=>
  rw[hF]at hr;have hj:=(Eb hF (ha.2.1 (oH hF)).1).2.2.2;have hv:lY M.length ((aF M a.obj).l.getD j ⟨0,0⟩):=by
   refine h.vals (aF M a.obj) (List.mem_of_getElem? (oz ha.1)) _ ?_;rw[List.getD_eq_getElem?_getD,List.getElem?_eq_getElem hj];exact List.getElem_mem hj
  simp only at hr;generalize (aF M a.obj).l.getD j ⟨0,0⟩=v at hv hr
  (repeat' split at hr)
  ·simp only[Option.some.injEq]at hr;subst hr;exact hv
  ·cases hr
  ·simp only[Option.some.injEq]at hr;subst hr;exact lY.num hn (Fb hv.2.2)
theorem xF{l:List V}{n:Nat}(hn:0<n)(hl:∀v,v∈l->lY n v)(j:Nat):lY n (l.getD j ⟨0,0⟩):=by
 rw[List.getD_eq_getElem?_getD];cases hj:l[j]? with
 |none=>exact lY.num hn (by unfold bz;omega)
 |some v=>exact hl v (List.mem_of_getElem? hj)
theorem Po(h:b9 M)(hn:0<M.length){op:Int}{l:List V}{r:V}(hl:∀v,v∈l->lY M.length v)(hr:iJ M op l=some r):lY M.length r:=by
 unfold iJ at hr;have h0:=xF hn hl 0;have h1:=xF hn hl 1;split at hr
 ·exact QP h h0 hr
 ·split at hr
  ·split at hr
   ·simp only[Option.some.injEq]at hr;subst hr;exact lY.num hn (Qt h0.2.2)
   ·cases hr
  ·exact VA h h0 h1 hr
structure dW (M:List MO) (tp:List V) (lo:List Nat) (ng:Nat):Prop where
 ay:∀v,v∈tp->lY M.length v
 az:∀x,x∈lo->x<M.length
 ax:ng<M.length
mutual
theorem DO{tp:List V}{lo:List Nat}{ng:Nat}(h:b9 M)(hf:dW M tp lo ng):∀(t:T){r:V},Pr t->C8 tp.length lo.length ng t->bZ M tp lo t=some r->lY M.length r
 | .node op n ks,r,hi,ht,hr=>by
  have hn:0<M.length:=Nat.lt_of_le_of_lt (Nat.zero_le _) hf.ax;simp only[Pr]at hi;simp only[C8]at ht;obtain⟨t1,t2,t3,t4,t5,t6,t7⟩:=ht;simp only[bZ]at hr;cases GN:aD M tp lo ks with
  |none=>rw[GN]at hr;cases hr
  |some l=>
   rw[GN]at hr;have hl:=iF h hf ks hi.2 t7 GN;simp only[Option.bind_some,rI]at hr
   (repeat' split at hr)
   ·simp only[Option.some.injEq]at hr;subst hr;exact lY.num hn hi.1
   ·simp only[Option.some.injEq]at hr;subst hr;exact xF hn hf.ay _
   ·simp only[Option.some.injEq]at hr;subst hr;have:=t5 (by assumption);refine⟨hf.az _ ?_,λ_=>by simp,by unfold bz;simp⟩;rw[List.getD_eq_getElem?_getD,List.getElem?_eq_getElem (by omega)];exact List.getElem_mem _
   ·simp only[Option.some.injEq]at hr;subst hr;have:=t6 (by assumption);have:=hf.ax;exact⟨by simp only;omega,λ_=>by simp,by unfold bz;simp⟩
   ·exact Po h hn hl hr
theorem iF{tp:List V}{lo:List Nat}{ng:Nat}(h:b9 M)(hf:dW M tp lo ng):∀(ks:List T){l:List V},e9 ks->fY tp.length lo.length ng ks->aD M tp lo ks=some l->∀v,v∈l->lY M.length v
 |[],l,_,_,hr=>by simp[aD]at hr;subst hr;intro v hv;cases hv
 |k::ks,l,hi,ht,hr=>by
  simp only[e9]at hi;simp only[fY]at ht;simp only[aD]at hr;cases hk:bZ M tp lo k with
  |none=>rw[hk]at hr;cases hr
  |some v=>
   rw[hk]at hr;cases GN:aD M tp lo ks with
   |none=>rw[GN]at hr;simp at hr
   |some x=>
    rw[GN]at hr;simp at hr;subst hr;have h1:=DO h hf k hi.1 ht.1 hk;have h2:=iF h hf ks hi.2 ht.2 GN;intro u hu;cases hu with
    |head=>exact h1
    |tail _ hu=>exact h2 u hu
end
end
end Go.Proofs.YtikbdplllopjlaaGreat
namespace Go.Proofs.YtikbdplllopjlaaGreat
open Go.RowKit
def bC(w:World)(B:Nat)(ks:List T)(A:Option Addr)(n:Nat):Prop:=
 ks.length=n/\n<=9223372036854775807/\(0<n->∃b off,A=some ⟨b,off,none⟩/\b<B/\cU w (dP B) ks b off)
theorem bC.get{w:World}{B n:Nat}{ks:List T}{A:Option Addr}(h:bC w B ks A n){k:Nat}(hk:k<n):
  ∃b off t v0 v1 v2,A=some ⟨b,off,none⟩/\b<B/\ks[k]? =some t/\w.cell? ⟨b,off+k*3,none⟩=some v0/\w.cell? ⟨b,off+k*3+1,none⟩=some v1/\w.cell? ⟨b,off+k*3+2,none⟩=some v2/\aX w (dP B) t v0 v1 v2:=by
 obtain⟨hl,_,hA⟩:=h;obtain⟨b,off,hA,hb,hK⟩:=hA (by omega);have mO:ks[k]? =some (ks[k]'(by omega)):=List.getElem?_eq_getElem (by omega);obtain⟨v0,v1,v2,h0,h1,h2,ht⟩:=hK.get mO;exact⟨b,off,_,v0,v1,v2,hA,hb,mO,h0,h1,h2,ht⟩
theorem bC.below{w w':World}{B B' n:Nat}{ks:List T}{A:Option Addr}(h:bC w B ks A n)(hb:Below B w w')(hB:B<=B'):bC w' B' ks A n:=by
 obtain⟨h0,h1,h2⟩:=h;refine⟨h0,h1,λhp=>?_⟩;obtain⟨b,off,hA,hlt,hk⟩:=h2 hp;exact⟨b,off,hA,by omega,cU.keep (λb off(hc:b<B)=>⟨kL hc hB,λj=>hb.cell (p:=⟨b,j,none⟩) hc⟩) ks (λj=>hb.cell (p:=⟨b,j,none⟩) hlt) hk⟩
theorem B7{α:Type}{xs ys:List α}(hl:xs.length=ys.length)(h:∀j,j<xs.length->xs[j]? =ys[j]?):xs=ys:=by
 apply List.ext_getElem?;intro i;by_cases hi:i<xs.length
 ·exact h i hi
 ·rw[List.getElem?_eq_none (by omega),List.getElem?_eq_none (by omega)]
theorem bC.gI{w:World}{B:Nat}{op n:Int}{ks:List T}{v0 v1 v2:Value}(h:aX w (dP B) (.node op n ks) v0 v1 v2):
  ∃A aA len,v0= .int .i64 op/\v1= .int .i64 n/\bz op/\bz n/\v2= .slice A len aA/\bC w B ks A len:=by
 simp only[aX]at h;obtain⟨h0,h1,h2,h3,h4,A,aA,h5,h6⟩:=h;exact⟨A,aA,ks.length,h0,h1,h2,h3,h5,rfl,h4,h6⟩
end Go.Proofs.YtikbdplllopjlaaGreat
namespace Go.Proofs.YtikbdplllopjlaaGreat
open Go.RowKit
def aL{α:Type}(w:World)(B sz:Nat)(E:(Nat->Option Value)->α->Prop)(l:List α)(v:Value):Prop:=
 ∃A aA,v= .slice A l.length aA/\l.length<=9223372036854775807/\(0<l.length->∃b off,A=some ⟨b,off,none⟩/\b<B/\∀i x,l[i]? =some x->E (λj=>w.cell? ⟨b,off+i*sz+j,none⟩) x)
theorem aL.below{α:Type}{w w':World}{B B' sz:Nat}{E E':(Nat->Option Value)->α->Prop}{l:List α}{v:Value}(h:aL w B sz E l v)(hb:Below B w w')(hB:B<=B')(hE:∀c x,E c x->E' c x):aL w' B' sz E' l v:=by
 obtain⟨A,aA,h0,h1,h2⟩:=h;refine⟨A,aA,h0,h1,λhp=>?_⟩;obtain⟨b,off,hA,hlt,hx⟩:=h2 hp;refine⟨b,off,hA,by omega,λi x hi=>?_⟩;have e:(λj=>w'.cell? ⟨b,off+i*sz+j,none⟩)=λj=>w.cell? ⟨b,off+i*sz+j,none⟩:=by funext j;exact hb.cell (p:=⟨b,_,none⟩) hlt
 rw[e];exact hE _ _ (hx i x hi)
theorem aL.get{α:Type}{w:World}{B sz:Nat}{E:(Nat->Option Value)->α->Prop}{l:List α}{A:Option Addr}{n aA k:Nat}(h:aL w B sz E l (.slice A n aA))(hk:k<n):
  ∃b off x,A=some ⟨b,off,none⟩/\b<B/\l[k]? =some x/\E (λj=>w.cell? ⟨b,off+k*sz+j,none⟩) x:=by
 obtain⟨A',cap',h0,h1,h2⟩:=h;injection h0 with e1 e2 e3;subst e1 e2;obtain⟨b,off,hA,hlt,hx⟩:=h2 (by omega);exact⟨b,off,_,hA,hlt,List.getElem?_eq_getElem hk,hx k _ (List.getElem?_eq_getElem hk)⟩
theorem aL.len{α:Type}{w:World}{B sz:Nat}{E:(Nat->Option Value)->α->Prop}{l:List α}{A:Option Addr}{n aA:Nat}(h:aL w B sz E l (.slice A n aA)):l.length=n/\n<=9223372036854775807:=by
 obtain⟨A',cap',h0,h1,_⟩:=h;injection h0 with e1 e2 e3;subst e2;exact⟨rfl,h1⟩
def bE(w:World)(B:Nat)(l:List Int)(v:Value):Prop:=aL w B 1 (λc x=>c 0=some (.int .i64 x)/\bz x) l v
def rf(w:World)(B:Nat)(c:Nat->Option Value)(o:jR):Prop:=
 c 0=some (.int .i64 o.size)/\c 1=some (.int .i64 o.count)/\(∃v,c 2=some v/\bE w B o.init v)/\bz o.size/\bz o.count
def oI(w:World)(B:Nat)(l:List T)(v:Value):Prop:=∃A n aA,v= .slice A n aA/\bC w B l A n
def gA(w:World)(B:Nat)(c:Nat->Option Value)(x:cM):Prop:=
 c 0=some (.int .i64 x.op)/\c 1=some (.int .i64 x.to)/\c 2=some (.int .i64 x.size)/\c 3=some (.int .i64 x.fn)/\(∃v,c 4=some v/\oI w B x.args v)/\bz x.op/\bz x.to/\bz x.size/\bz x.fn
def dX(w:World)(B:Nat)(c:Nat->Option Value)(b:bW):Prop:=
 (∃v,c 0=some v/\aL w B 5 (gA w B) b.steps v)/\c 1=some (.int .i64 b.fin)/\(∃v0 v1 v2,c 2=some v0/\c 3=some v1/\c 4=some v2/\aX w (dP B) b.cond v0 v1 v2)/\c 5=some (.int .i64 b.next)/\c 6=some (.int .i64 b.els)/\bz b.fin/\bz b.next/\bz b.els
def dV(w:World)(B:Nat)(c:Nat->Option Value)(g:aP):Prop:=
 c 0=some (.int .i64 g.params)/\c 1=some (.int .i64 g.ay)/\(∃v,c 2=some v/\aL w B 3 (rf w B) g.az v)/\(∃v,c 3=some v/\aL w B 7 (dX w B) g.blocks v)/\bz g.params/\bz g.ay
def kJ(w:World)(B:Nat)(c:Nat->Option Value)(p:aM):Prop:=
 (∃v,c 0=some v/\aL w B 3 (rf w B) p.ax v)/\(∃v,c 1=some v/\aL w B 4 (dV w B) p.funcs v)/\c 2=some (.int .i64 p.main)/\bz p.main
section
variable {w w':World} {B B':Nat}
theorem bE.below{l:List Int}{v:Value}(h:bE w B l v)(hb:Below B w w')(hB:B<=B'):bE w' B' l v:=aL.below h hb hB λ_ _ h=>h
theorem oI.below{l:List T}{v:Value}(h:oI w B l v)(hb:Below B w w')(hB:B<=B'):oI w' B' l v:=by
 obtain⟨A,n,aA,h0,h1⟩:=h;exact⟨A,n,aA,h0,h1.below hb hB⟩
theorem rf.below{c:Nat->Option Value}{o:jR}(h:rf w B c o)(hb:Below B w w')(hB:B<=B'):rf w' B' c o:=by
 obtain⟨h0,h1,⟨v,h2,h3⟩,h4⟩:=h;exact⟨h0,h1,⟨v,h2,h3.below hb hB⟩,h4⟩
theorem gA.below{c:Nat->Option Value}{x:cM}(h:gA w B c x)(hb:Below B w w')(hB:B<=B'):gA w' B' c x:=by
 obtain⟨h0,h1,h2,h3,⟨v,h4,h5⟩,h6⟩:=h;exact⟨h0,h1,h2,h3,⟨v,h4,h5.below hb hB⟩,h6⟩
theorem dX.below{c:Nat->Option Value}{b:bW}(h:dX w B c b)(hb:Below B w w')(hB:B<=B'):dX w' B' c b:=by
 obtain⟨⟨v,h0,h1⟩,h2,⟨v0,v1,v2,h3,h4,h5,h6⟩,h7⟩:=h;exact⟨⟨v,h0,h1.below hb hB λ_ _ h=>h.below hb hB⟩,h2,⟨v0,v1,v2,h3,h4,h5,h6.below hb hB⟩,h7⟩
theorem dV.below{c:Nat->Option Value}{g:aP}(h:dV w B c g)(hb:Below B w w')(hB:B<=B'):dV w' B' c g:=by
 obtain⟨h0,h1,⟨v,h2,h3⟩,⟨u,h4,h5⟩,h6⟩:=h;exact⟨h0,h1,⟨v,h2,h3.below hb hB λ_ _ h=>h.below hb hB⟩,⟨u,h4,h5.below hb hB λ_ _ h=>h.below hb hB⟩,h6⟩
theorem kJ.below{c:Nat->Option Value}{p:aM}(h:kJ w B c p)(hb:Below B w w')(hB:B<=B'):kJ w' B' c p:=by
 obtain⟨⟨v,h0,h1⟩,⟨u,h2,h3⟩,h4⟩:=h;exact⟨⟨v,h0,h1.below hb hB λ_ _ h=>h.below hb hB⟩,⟨u,h2,h3.below hb hB λ_ _ h=>h.below hb hB⟩,h4⟩
end
end Go.Proofs.YtikbdplllopjlaaGreat
namespace Go.Proofs.YtikbdplllopjlaaGreat
open Go.RowKit
def au(M:List MO):List MO:=if M=[]then [⟨0,[],false⟩]else M
theorem jf(M:List MO)(o:jR):gG M o=au M++[⟨o.size,kF o,true⟩]:=rfl
theorem dY(M:List MO):0<(au M).length:=by
 unfold au;split
 ·simp
 ·rename_i h;cases M with|nil=>exact absurd rfl h|cons a l=>simp
theorem lJ{M:List MO}(h:b9 M):b9 (au M):=by
 unfold au;split
 ·refine⟨by simp,λo ho=>by simpa using ho.symm,λk o hk ho=>?_,λo ho v hv=>?_⟩
  ·rw[List.getElem?_eq_none (by simp;omega)]at ho;cases ho
  ·simp at ho;subst ho;simp at hv
 ·exact h
theorem qy(M:List MO)(k:Nat):aF (au M) k=aF M k:=by
 unfold au;split
 ·rename_i h;subst h;unfold aF;cases k<;>rfl
 ·rfl
theorem pQ(M:List MO):au (au M)=au M:=by
 have h:=dY M;generalize au M=N at h;unfold au;rw[if_neg (by rintro rfl;simp at h)]
theorem Gp(M:List MO)(a:V)(s:Nat):qL (au M) a s=qL M a s:=by unfold qL;simp only[qy]
theorem Hy(M:List MO)(op:Int)(a:V):nJ (au M) op a=nJ M op a:=by unfold nJ;simp only[qy,Gp]
theorem E6(M:List MO)(a:V)(n:Int):dD (au M) a n=dD M a n:=by unfold dD;simp only[qy]
theorem L9(M:List MO)(a b:V):nX (au M) a b=nX M a b:=by unfold nX;simp only[qy]
theorem Mz(two:Int->Int->Int->Int)(M:List MO)(op:Int)(a b:V):gR two (au M) op a b=gR two M op a b:=by unfold gR;simp only[qy,E6,L9]
theorem Nw(M:List MO)(tp:List V)(lo:List Nat)(op n:Int)(l:List V):rI (au M) tp lo op n l=rI M tp lo op n l:=by
 unfold rI iJ;simp only[Hy,Mz]
mutual
theorem vB(M:List MO)(tp:List V)(lo:List Nat):∀t,bZ (au M) tp lo t=bZ M tp lo t
 | .node op n ks=>by
  rw[bZ,bZ,eN M tp lo ks]
  congr 1
  funext l
  exact Nw M tp lo op n l
theorem eN(M:List MO)(tp:List V)(lo:List Nat):∀ks,aD (au M) tp lo ks=aD M tp lo ks
 |[]=>rfl
 |k::ks=>by rw[aD,aD,vB M tp lo k,eN M tp lo ks]
end
theorem jE{M:List MO}(h:0<M.length):au M=M:=by
 unfold au;rw[if_neg (by rintro rfl;simp at h)]
theorem lY.Pm{M:List MO}{v:V}(h:lY (au M).length v):CJ M.length v:=by
 refine⟨λh0=>?_,h.2⟩;have h1:=h.1;unfold au at h1;split at h1
 ·simp at h1;omega
 ·exact h1
theorem Hs(M:List MO):(au M).length<=M.length+1:=by
 unfold au;split
 ·simp
 ·omega
theorem b9.Ag{M:List MO}(h:b9 (au M)):b9 M:=by
 unfold au at h;split at h
 ·rename_i hM;subst hM;exact⟨by simp,λo h=>by simp at h,λk o _ h=>by simp at h,λo h=>by simp at h⟩
 ·exact h
theorem cG.drew{w:World}{ai mc:Nat}{own:Nat->Prop}{P:Value×Value×Value}{ah:Int}{s:St}{inv outv aU:Value}{rb:Nat->Nat}(h:cG w ai mc own P ah s inv outv aU rb)(n:Nat):cG (w.drewN n) ai mc own P ah s inv outv aU rb:=by
 have hw:Wr (λ_=>False) w (w.drewN n):=Wr.of_below (below_drewN (bI _ _) n);exact⟨h.row,h.mine,h.rest.wr hw (λk hk=>hk.elim) (by have:=h.rest.own mc h.mine;omega)⟩
theorem EE(F:Nat->Prop)(w:World)(n:Nat):Wr F w (w.drewN n):=Wr.of_below (below_drewN (bI _ _) n)
theorem Wr.cell1(w:World)(b j:Nat)(v:Value):Wr (λk=>k=b) w (w.setCell ⟨b,j,none⟩ v):=Wr.setCell w ⟨b,j,none⟩ v rfl
theorem eD(ai mc:Nat)(own:Nat->Prop)(P:Value×Value×Value)(ah k:Int)(s:St)(w:World)(hm:cN w ai mc own P ah s)(hs0:0<=s.steps)(hs1:s.steps<=ah)(hf:ah<=1000000000)(iZ:0<=k)(bA:k<=1000000000):
  Calls prog 51 #[.pointer (some ⟨mc,0,none⟩),.int .i64 k] w λe w'=>e= .returned (.bool (aW ah k s).1)/\cN w' ai mc own P ah (aW ah k s).2/\Wr (λb=>b=mc) w w':=by
 obtain⟨inv,outv,aU,rb,hm⟩:=hm;have c4:w.cell? ⟨mc,4,none⟩=some (.int .i64 ah):=hm.row.cell rfl;have c5:w.cell? ⟨mc,5,none⟩=some (.int .i64 s.kind):=hm.row.cell rfl;have c8:w.cell? ⟨mc,8,none⟩=some (.int .i64 s.steps):=hm.row.cell rfl;have f8:w.frozen? ⟨mc,8,none⟩=false:=hm.row.free 8;unfold aW;by_cases hk:s.kind=0
 ·rw[if_pos hk];rw[hk]at c5;by_cases hn:ah-s.steps<k
  ·rw[if_pos hn];have GM:decide (ah-s.steps<k)=true:=by simpa using hn
   have HM:=ae (λnq=>cG.num (s':={s with steps:=ah}) (hm.drew nq) 8 (.int .i64 ah) rfl rfl rfl rfl);have HS:=ae (λW hM=>nE ai mc own P ah 2 {s with steps:=ah} W ⟨inv,outv,aU,rb,hM⟩);have iT:=ae hk;clear hm hn hk;go_enter func51,ntmps51;go_wp2_with fail;go_quiet (fail);go_wp2_with(go_at_call 50;refine(HS _ (HM _)).mono ?_;rintro e w' ⟨rfl,U6,YB⟩);go_ret;refine⟨rfl,?_,?_⟩
   ·simpa [lA,iT.out]using U6
   ·exact((EE _ w _).trans (Wr.cell1 _ mc 8 _) (λi hi=>aH hi)).trans YB (λi hi=>aH hi)
  ·rw[if_neg hn];have GM:decide (ah-s.steps<k)=false:=by simpa using hn
   have HM:=ae (λnq=>cG.num (s':={s with steps:=s.steps+k}) (hm.drew nq) 8 (.int .i64 (s.steps+k)) rfl rfl rfl rfl);clear hm hn hk;go_enter func51,ntmps51;go_wp2_with fail;go_quiet (fail);go_wp2_with fail;go_ret;exact⟨rfl,⟨_,_,_,_,HM _⟩,(EE _ w _).trans (Wr.cell1 _ mc 8 _) (λi hi=>aH hi)⟩
 ·rw[if_neg hk];have HM:=ae hm;have iT:(s.kind !=0)=true:=by simpa using hk
  clear hm hk;go_enter func51,ntmps51;go_wp2;go_ret;exact⟨rfl,⟨_,_,_,_,HM.out⟩,Wr.refl _ _⟩
structure bM (w:World) (fb:Nat) (G:Value×Value×Value×Value) (tb:Nat) (tp:List V) (lv:Value) (lo:List Nat):Prop where
 row:Row w fb #[G.1,G.2.1,G.2.2.1,G.2.2.2,.slice (some ⟨tb,0,none⟩) tp.length tp.length,lv] 120
 ay:iq w tb tp
 az:w.ownsRow 0 3 1 lv lo.length (lo.map λx=> .int .i64 (x:Nat))
 few:tp.length<=4294967296
theorem bM.below{w w':World}{fb tb:Nat}{G:Value×Value×Value×Value}{tp:List V}{lv:Value}{lo:List Nat}(h:bM w fb G tb tp lv lo)(hb:Below w.heap.size w w'):bM w' fb G tb tp lv lo:=by
 obtain⟨h1,⟨cs,h2,h3⟩,h4,h5⟩:=h;exact⟨h1.below hb h1.lt,⟨cs,h2.below hb h2.lt,h3⟩,aB h4 (di hb) (λ_ _ h=>h),h5⟩
theorem bM.wr{F:Nat->Prop}{w w':World}{fb tb:Nat}{G:Value×Value×Value×Value}{tp:List V}{lv:Value}{lo:List Nat}(h:bM w fb G tb tp lv lo)(hb:Wr F w w')(h1:¬F fb)(h2:¬F tb)(h3:∀g,lv.ownBlock=some g->¬F g):bM w' fb G tb tp lv lo:=by
 obtain⟨r1,⟨cs,r2,r3⟩,r4,r5⟩:=h;exact⟨r1.wr hb h1,⟨cs,r2.wr hb h2,r3⟩,aB r4 hb h3,r5⟩
def Gq(ai mc:Nat)(own:Nat->Prop)(P:Value×Value×Value)(ah:Int)(s:St)(r:Option V)(w:World)(e:Ending)(w':World):Prop:=
 match r with
 |some v=>e= .returned (aI (some v))/\Below w.heap.size w w'
 |none=>(∃x y:Int,e= .returned (.tuple #[.agg #[.int .i64 x,.int .i64 y],.bool false]))/\cN w' ai mc own P ah {s with kind:=3}/\Wr (λb=>b=mc) w w'
def z8(m:Nat)(Q:T->St->List V->List Nat->Prop):Prop:=
 ∀(t:T)(ai mc:Nat)(own:Nat->Prop)(P:Value×Value×Value)(ah:Int)(s:St)(fb tb:Nat)(G:Value×Value×Value×Value)(tp:List V)(lv:Value)(lo:List Nat)(ng:Nat)(w:World)(v0 v1 v2:Value),
  t.size<=m->cN w ai mc own P ah s->s.kind=0->bM w fb G tb tp lv lo->b9 s.mem->dW (au s.mem) tp lo ng->C8 tp.length lo.length ng t->aX w (dP ai) t v0 v1 v2->Q t s tp lo->
  Calls prog 53 #[.pointer (some ⟨mc,0,none⟩),.pointer (some ⟨fb,0,none⟩),.agg #[v0,v1,v2]] w λe w'=>Gq ai mc own P ah s (bZ s.mem tp lo t) w e w'
def r9(m:Nat):Prop:=
 ∀(t:T)(ai mc:Nat)(own:Nat->Prop)(P:Value×Value×Value)(ah:Int)(s:St)(fb tb:Nat)(G:Value×Value×Value×Value)(tp:List V)(lv:Value)(lo:List Nat)(ng:Nat)(w:World)(v0 v1 v2:Value),
  t.size<=m->cN w ai mc own P ah s->s.kind=0->bM w fb G tb tp lv lo->b9 s.mem->dW (au s.mem) tp lo ng->C8 tp.length lo.length ng t->aX w (dP ai) t v0 v1 v2->
  Calls prog 53 #[.pointer (some ⟨mc,0,none⟩),.pointer (some ⟨fb,0,none⟩),.agg #[v0,v1,v2]] w λe w'=>Gq ai mc own P ah s (bZ s.mem tp lo t) w e w'
theorem dK:(prog.info? 72).map (λi=>(i.zero,i.size,i.bytes))=some (some (.agg #[.int .i64 0,.int .i64 0]),2,16):=by kernel_rfl
theorem zZ{w wr:World}{op x:Int}{v2:Value}
  (bR:Below (w.heap.size+2) ((w.alloc (.cells #[.int .i64 op,.int .i64 x,v2] 90)).alloc (.cells #[.int .i64 0,.int .i64 0] 72)) wr):
  Row wr w.heap.size #[.int .i64 op,.int .i64 x,v2] 90/\Row wr (w.heap.size+1) #[.int .i64 0,.int .i64 0] 72:=by
 refine⟨(((Row.new w _ _).alloc _).below bR (by omega)),?_⟩;have h:=Row.new (w.alloc (.cells #[.int .i64 op,.int .i64 x,v2] 90)) #[.int .i64 0,.int .i64 0] 72;rw[World.size_alloc]at h;exact h.below bR (by omega)
theorem uJ(g j:Nat):(⟨g,0,none⟩:Addr).add j=⟨g,j,none⟩:=by simp[Addr.add];exact λh=>h.symm
theorem cK(w:World)(a b:Value)(t:TypeId)(r:Nat)(hr:r=w.heap.size):∀(j:Nat)(u:Value),[a,b][j]? =some u->(w.alloc (.cells #[a,b] t)).cell? ((⟨r,0,none⟩:Addr).add j)=some u:=by
 subst hr;intro j u hj;have xk:j<2:=by
  rcases Nat.lt_or_ge j 2 with h|h
  ·exact h
  ·rw[List.getElem?_eq_none (by simpa using h)]at hj;cases hj
 rw[uJ];exact(Row.new w #[a,b] t).cell (by simpa using hj)
theorem dS(a b:Int):∀u:Value,u∈[Value.int .i64 a,Value.int .i64 b]->u.oneCell'=true:=by
 intro u hu;simp at hu;rcases hu with rfl|rfl<;>rfl
theorem qO(w1:World)(r:Nat)(u v:Value):Wr (λk=>k=r) w1 ((w1.setCell ⟨r,0,none⟩ u).setCell ⟨r,1,none⟩ v):=
 (Wr.cell1 w1 r 0 u).trans (Wr.cell1 _ r 1 v) (λ_ h=>aH h)
theorem wQ(w1:World)(r:Nat)(u v:Value)(o:Obj):Wr (λk=>k=r) w1 (((w1.setCell ⟨r,0,none⟩ u).setCell ⟨r,1,none⟩ v).alloc o):=
 (qO w1 r u v).trans (Wr.of_below (F:=λk=>k=r) (aj _ o)) (λ_ h=>aH h)
mutual
theorem aX.KH{w:World}{C:Nat->Nat->Prop}:∀(t:T){v0 v1 v2:Value},aX w C t v0 v1 v2->Pr t
 | .node op n ks,v0,v1,v2,h=>by
  simp only[aX]at h;obtain⟨_,_,_,h3,_,A,aA,_,h6⟩:=h;refine⟨h3,?_⟩
  match ks,h6 with
  |[],_=>trivial
  |k::ks,h6=>
   obtain⟨b,off,_,_,hk⟩:=h6 (by simp);exact cU.KH (k::ks) hk
theorem cU.KH{w:World}{C:Nat->Nat->Prop}:∀(ks:List T){b off:Nat},cU w C ks b off->e9 ks
 |[],_,_,_=>trivial
 |k::ks,b,off,h=>by
  simp only[cU]at h;obtain⟨⟨v0,v1,v2,_,_,_,ht⟩,hr⟩:=h;exact⟨aX.KH k ht,cU.KH ks hr⟩
end
theorem bC.KH{w:World}{B n:Nat}{ks:List T}{A:Option Addr}(h:bC w B ks A n):e9 ks:=by
 obtain⟨hl,_,h2⟩:=h;by_cases hn:0<n
 ·obtain⟨b,off,_,_,hk⟩:=h2 hn;exact cU.KH ks hk
 ·have:ks=[]:=List.length_eq_zero_iff.1 (by omega);subst this;simp[e9]
theorem cN.QM{w:World}{ai mc:Nat}{own:Nat->Prop}{P:Value×Value×Value}{ah:Int}{s:St}(h:cN w ai mc own P ah s):
  ∃A aA,w.cell? ⟨mc,10,none⟩=some (.slice A s.mem.length aA)/\cT w w.heap.size A s.mem.length s.mem/\mc<w.heap.size:=by
 obtain⟨inv,outv,aU,rb,hr,hm,hs⟩:=h;have c10:w.cell? ⟨mc,10,none⟩=some aU:=hr.cell (j:=10) rfl;obtain⟨⟨xs,hx,oC⟩,rD,_,gu⟩:=hs.mem;obtain⟨sI,hx2⟩:=id hx;rcases hx2 with⟨rfl,h0⟩|⟨g,aA,cur,rfl,_,hg,Ck,_,_,XG⟩
 ·refine⟨none,0,by rw[h0];exact c10,⟨rfl,by omega,λk o hk=>?_⟩,hr.lt⟩;rw[List.getElem?_eq_none (by omega)]at hk;cases hk
 ·refine⟨some ⟨g,0,none⟩,aA,c10,⟨rfl,gu.many,λk o hk=>⟨g,0,rfl,Row.lt hg,?_⟩⟩,hr.lt⟩;have qg:k<s.mem.length:=by
   rcases Nat.lt_or_ge k s.mem.length with h|h
   ·exact h
   ·rw[List.getElem?_eq_none h]at hk;cases hk
  have hcell:∀j u,xs[j]? =some u->w.cell? ⟨g,0+j,none⟩=some u:=by
   intro j u hj;have:=hx.cells (g:=g) rfl j u hj;rw[uJ]at this;simpa using this
  obtain⟨h0,h1,h2⟩:=oC k o hk;by_cases hz:k=0
  ·subst hz;have:=gu.zero o hk;subst this;rw[if_pos rfl]at h1;exact⟨none,0,0,hcell _ _ h0,hcell _ _ h1,hcell _ _ h2,rfl,by omega,by simp,by simp,λj v hj=>by simp at hj⟩
  ·rw[if_neg hz]at h1;obtain⟨hs1,hs2⟩:=gu.size k o (by omega) hk;obtain⟨_,cs,hrow,jh⟩:=rD k o (by omega) hk;exact⟨_,_,_,hcell _ _ h0,hcell _ _ h1,hcell _ _ h2,rfl,hs2,by omega,by omega,λj v hj=>⟨rb k,0,rfl,hrow.lt,by rw[Nat.zero_add];exact⟨hrow.cell (jh.2 j v hj).1,hrow.cell (jh.2 j v hj).2⟩⟩⟩
theorem KF(m:Nat)(ih:r9 m):z8 (m+1) (λt s tp lo=>∃op x ks,t= .node op x ks/\aD s.mem tp lo ks=none):=by
 rintro⟨op,x,ks⟩ ai mc own P ah s fb tb G tp lv lo ng w v0 v1 v2 hm hM cA hF DF kM hT hv hQ;obtain⟨A,aA,n,rfl,rfl,hop,hx,rfl,hk⟩:=bC.gI hv;have oF:e9 ks:=(aX.KH _ hv).2;simp only[T.size]at hm;simp only[C8]at hT;obtain⟨o1,o2,o3,o4,o5,o6,o7⟩:=hT;have hB:ai<=w.heap.size:=by
  obtain⟨_,_,_,_,h⟩:=hM;have:=h.rest.own mc h.mine;omega
 have hn:=hk.2.1;have iD:n<=2:=by
  have h:=hk.1;rw[o3]at h;unfold rB at h
  (repeat' split at h)<;>omega
 have HK:=ae hk;have HM:=ae hM;have HF:=ae hF;have IH:=ae ih;have HO:=ae (And.intro DF kM);have H7:=ae o7;have H3:=ae o3;have HS:=ae hm;have HI:=ae cA;have HL:=ae (show aD s.mem tp lo ks=none from by obtain⟨_,_,_,he,hn⟩:=hQ;injection he with _ _ h3;rw[h3];exact hn);clear hQ;clear hk hM hF ih DF kM o7 o3 hm cA hv;go_enter func53,ntmps53;go_wp2_with fail;go_loopw [8,9] (λv i wr=>∃(k:Nat)(l:List V),k<=n/\i= .int .i64 k/\aD s.mem tp lo (ks.take k)=some l/\wr.ownsRow (w.heap.size+2) 72 2 v k (bV l)/\
   Below (w.heap.size+2) ((w.alloc (.cells #[.int .i64 op,.int .i64 x,.slice A n aA] 90)).alloc (.cells #[.int .i64 0,.int .i64 0] 72)) wr) (λ_ i _=>n-(intOf i).toNat)
 case atStart=>exact⟨0,[],by omega,rfl,by simp[aD],World.ownsRow_nil _ _ _ _,bI _ _⟩
 case round=>
  obtain⟨k,l,hk,rfl,cu,hown,bR⟩:=hrel;obtain⟨dw,hr1⟩:=zZ bR;have aG:Below w.heap.size w wr:=(aJ _ _ _).trans (bR.mono (by omega));have hsz:=bR.size;simp only[World.size_alloc]at hsz;have IB:=ae (show∀k,own k->ai<=k/\k<w.heap.size from by obtain⟨_,_,_,_,h⟩:=HM.out;exact h.rest.own);have c0:wr.cell? ⟨w.heap.size,0,none⟩=some (.int .i64 op):=dw.cell (j:=0) rfl;have c1:wr.cell? ⟨w.heap.size,1,none⟩=some (.int .i64 x):=dw.cell (j:=1) rfl;have c2:wr.cell? ⟨w.heap.size,2,none⟩=some (.slice A n aA):=dw.cell (j:=2) rfl;have M4:=ae (HM.below aG);have S3:=ae (HF.below aG);by_cases hlt:k<n
  ·obtain⟨b,off,t,v0,v1,v2,rfl,hb,bA,k0,k1,k2,ht⟩:=(HK.below (aG.mono hB) (aN _)).get hlt;have fH:t.size<=m:=by have:=T.dC bA;have:=HS.out;omega
   have HC:=ae (IH.out t ai mc own P ah s fb tb G tp lv lo ng wr v0 v1 v2 fH M4.out HI.out S3.out HO.1 HO.2 (H7.get bA) ht);have iw:=ae bA;have eY:(k:Int)<(n:Int):=by omega
   have HE:=ae cu;have HW:=ae hown;have HX:=ae bR;have R0:=ae dw;have R1:=ae hr1;have cV:=ae aG;clear bA ht cu hown bR dw hr1 aG;cases hv:bZ s.mem tp lo t with
   |none=>
    rw[hv]at HC;go_wp2_with fail;refine HC.mono ?_;rintro e w1 ⟨⟨x',y',rfl⟩,jy,bT⟩;have sV:mc<w.heap.size:=(IB.out mc (by obtain⟨_,_,_,_,h⟩:=HM.out;exact h.mine)).2;have S0:=R0.out.wr bT (by omega);have S1:=R1.out.wr bT (by omega);have d0:w1.cell? ⟨w.heap.size+1,0,none⟩=some (.int .i64 0):=S1.cell (j:=0) rfl;have d1:w1.cell? ⟨w.heap.size+1,1,none⟩=some (.int .i64 0):=S1.cell (j:=1) rfl;have f0:=S1.free 0;have f1:=S1.free 1;have hz1:=bT.size;have hz2:w.heap.size+1<w1.heap.size:=by omega
    have hz3:¬w.heap.size+1=w1.heap.size:=by omega
    have n9:=ae jy;have dG:=ae bT;clear jy bT S0 S1;go_wp2_with fail;refine aR (v:= .tuple #[.agg #[.int .i64 0,.int .i64 0],.bool false]) ?_ rfl ?_
    ·simp[results,results53,go_sem, *]
    ·have hnone:bZ s.mem tp lo (T.node op x ks)=none:=by simp[bZ,cI iw.out hv]
     rw[hnone];exact⟨⟨0,0,rfl⟩,n9.wr (wQ _ _ _ _ _) (λk hk=>⟨by omega,λho=>by have:=IB.out k ho;omega⟩),
      ((Wr.of_below cV.out).trans dG (λi hi=>aH hi)).trans (wQ _ _ _ _ _) (λi hi=>aT (by omega))⟩
   |some v=>
    rw[hv]at HC;obtain⟨i0,hi,hz0,hz1,hz2⟩:=info_parts dK;go_wp2_with fail;refine HC.mono ?_;rintro e w1 ⟨rfl,hb1⟩;simp only[aI];have hz:=hb1.size;have hown1:=(aB HW (di hb1) (λ_ _ h=>h))
    have bG:l.length=k:=by
     have:=aK HE.out;rw[List.length_take,HK.1]at this;omega
    go_wp2_with(at_builtin;refine wpList_append_own _ rfl (.tmp 35) (.tmp 37) 67 rfl (w.heap.size+2) 72 i0 (.agg #[.int .i64 0,.int .i64 0]) 2 16 underlying67 hi hz0 hz1 hz2 rfl (by decide) _ _ _ rfl ((hown1.alloc _).alloc _) ⟨w1.heap.size+1,0,none⟩ 1 1 [.int .i64 v.obj,.int .i64 v.n] rfl rfl ?c1 ?c2 ?c3 ?c4 ?c5 ?_)
    case c1=>exact cK _ _ _ _ _ (by simp)
    case c2=>exact dS _ _
    case c3=>have:=iD;unfold maxLen;omega
    case c4=>have:=iD;omega
    case c5=>simp;omega
    ·intro v' w2 hown2 hgrow _;have bL:=ae ((((HX.trans (hb1.mono (show w.heap.size+2<=wr.heap.size from by omega))).alloc (by omega) _).alloc (by simp;omega) _).grown hgrow (by simp;omega) (λg hg=>(HW.lt g hg).1));have rq:=ae hown2;clear hown2 hgrow hown1 hb1;go_wp2_with fail;go_roundw
     case rel=>exact⟨k+1,l++[v],by omega,by go_num,cE HE.out iw.out hv,by rw[bP];exact rq.out,bL.out⟩
     case measure=>simp[intOf];omega
  ·obtain rfl:k=n:=by omega
   rw[show ks.take k=ks from by rw[<-HK.1,List.take_length],HL.out]at cu;cases cu
theorem Ar{P:Program}{ops:Array Oper}{w:World}{Q:Act->Prop}:∀{l:List Oper}{a:Act},wpQuiet P ops (λw'=>w'=w) Q l a->wpStill P ops w Q l a:=by
 intro l
 induction l with
 |nil=>intro a h;exact h
 |cons o rest ih=>
  intro a h;unfold wpQuiet at h;unfold wpStill;split
  ·rename_i hw;rw[if_pos hw]at h;obtain⟨v,h1,h2⟩:=h;have h3:=h1 w rfl;unfold Oper.quietAt at h3;unfold Oper.still;generalize (execOp a.eval o).run P w=r at*;cases r with
   |ok n w'=>
    cases n<;>simp only[Oper.quietUpon]at h3<;>simp only[Oper.stillUpon]
    case value u=>obtain⟨e1,e2⟩:=h3;subst e2;exact⟨e1,ih h2⟩
    case skip=>obtain⟨e1,e2⟩:=h3;subst e2;exact⟨e1,ih h2⟩
    case enter f args=>exact⟨h3.1,v,h3.2,ih h2⟩
   |halt x w'=>simp only[Oper.quietUpon]at h3
  ·rename_i hw;rw[if_neg hw]at h;exact ih h
theorem bJ{P:Program}{id:Nat}{Q:Exit->Act->World->Prop}{a:Act}{w:World}{l:List Oper}(n:Nat)(hm:P.follows .mixedOrders=true)(hB:Region.lexTailB .any l.toArray n=true)
  (h:wpQuiet P l.toArray (λw'=>w'=w.drew) (λa'=>wpList P l.toArray Q (l.drop n) a' w.drew) (l.take n) a):(Code.region id l.toArray true).wp P Q a w:=
 fB n hm hB (Ar h)
theorem Wf{P:Program}{c:Code}{a:Act}{w:World}{R:Exit->Act->World->Prop}(h:∀Q:Exit->Act->World->Prop,(∀e a w,R e a w->Q e a w)->Code.wp P c Q a w):Code.wp P c R a w:=
 h R (λ_ _ _ h=>h)
theorem ak{P:Program}{c:Code}{a:Act}{w:World}{R:Exit->Act->World->Prop}(h:∀Q:Exit->Act->World->Prop,Hid (∀e a w,R e a w->Q e a w)->Code.wp P c Q a w):Code.wp P c R a w:=h R (λ_ _ _ h=>h)
theorem Wr.gz{F:Nat->Prop}{w w1:World}(h:Wr F w w1):Wr F w w1.drew:=h.trans (di (bI _ _).drew) (λ_ h=>h.elim)
theorem Wr.eA{F:Nat->Prop}{w w1:World}(h:Wr F w w1)(o:Obj):Wr F w (w1.alloc o):=h.trans (di (aj w1 o)) (λ_ h=>h.elim)
theorem Wr.iO{F:Nat->Prop}{w w1:World}(h:Wr F w w1)(r j:Nat)(v:Value)(hF:F r\/w.heap.size<=r):Wr F w (w1.setCell ⟨r,j,none⟩ v):=
 h.trans (Wr.setCell (F:=λb=>b=r) w1 ⟨r,j,none⟩ v rfl) (λ_ h=>h▸hF)
def rC(op:Int):Int:=if op<1\/op>36 then-1 else if op<=4 then 0 else if 12<=op/\op<=30 then 2 else 1
theorem qD(op:Int)(w:World):
  Calls prog 113 #[.int .i64 op] w λe w'=>e= .returned (.int .i64 (rC op))/\w=w':=by
 unfold rC;by_cases h1:op<1
 ·rw[if_pos (aH h1)];go_enter func113,ntmps113;go_wp2;go_ret;exact⟨rfl,rfl⟩
 ·by_cases h2:op>36
  ·rw[if_pos (aT h2)];go_enter func113,ntmps113;go_wp2;go_ret;exact⟨rfl,rfl⟩
  ·rw[if_neg (by omega)];by_cases h3:op<=4
   ·rw[if_pos h3];go_enter func113,ntmps113;go_wp2;go_ret;exact⟨rfl,rfl⟩
   ·rw[if_neg h3];have HB:=ae (Lc op w);by_cases h4:12<=op/\op<=30
    ·rw[if_pos h4];have hd:decide (12<=op/\op<=30)=true:=by simpa using h4
     rw[hd]at HB;clear hd h4;go_enter func113,ntmps113;go_wp2_with(go_at_call 123;refine HB.mono ?_;rintro e w' ⟨rfl,rfl⟩);go_ret;exact⟨rfl,rfl⟩
    ·rw[if_neg h4];have hd:decide (12<=op/\op<=30)=false:=by simpa using h4
     rw[hd]at HB;clear hd h4;go_enter func113,ntmps113;go_wp2_with(go_at_call 123;refine HB.mono ?_;rintro e w' ⟨rfl,rfl⟩);go_ret;exact⟨rfl,rfl⟩
def nG(n:Int):Bool:=decide (n=1\/n=2\/n=4\/n=8)
def iI(n a b:Int):Bool:=decide (a<=n/\n<=b)
def fN(n b:Int):Bool:=decide (0<=n/\n<=b)
theorem EO(n:Int)(w:World):
  Calls prog 34 #[.int .i64 n] w λe w'=>e= .returned (.bool (nG n))/\w=w':=by
 unfold nG;by_cases h1:n=1
 ·subst h1;go_enter func34,ntmps34;go_wp2;go_ret;exact⟨rfl,rfl⟩
 by_cases h2:n=2
 ·subst h2;go_enter func34,ntmps34;go_wp2;go_ret;exact⟨rfl,rfl⟩
 by_cases h3:n=4
 ·subst h3;go_enter func34,ntmps34;go_wp2;go_ret;exact⟨rfl,rfl⟩
 have e1:(n==1)=false:=by simpa using h1
 have e2:(n==2)=false:=by simpa using h2
 have e3:(n==4)=false:=by simpa using h3
 have HE:=ae (show decide (n=1\/n=2\/n=4\/n=8)=(n==8) by rw[Bool.eq_iff_iff];simp[h1,h2,h3]);clear h1 h2 h3;go_enter func34,ntmps34;go_wp2;go_ret;exact⟨eO HE.symm,rfl⟩
theorem rZ(n a b:Int)(w:World):
  Calls prog 20 #[.int .i64 n,.int .i64 a,.int .i64 b] w λe w'=>e= .returned (.bool (iI n a b))/\w=w':=by
 unfold iI;by_cases h1:a<=n
 ·have HE:=ae (show decide (a<=n/\n<=b)=decide (n<=b) by rw[Bool.eq_iff_iff];simp[h1]);go_enter func20,ntmps20;go_wp2;go_ret;exact⟨eO HE.symm,rfl⟩
 ·have hd:decide (a<=n)=false:=by simpa using h1
  have HE:=ae (show decide (a<=n/\n<=b)=false by simp;omega);rw[HE.out];go_enter func20,ntmps20;go_wp2;go_ret;exact⟨rfl,rfl⟩
theorem gW(n b:Int)(w:World):
  Calls prog 12 #[.int .i64 n,.int .i64 b] w λe w'=>e= .returned (.bool (fN n b))/\w=w':=by
 unfold fN;by_cases h1:0<=n
 ·have HE:=ae (show decide (0<=n/\n<=b)=decide (n<=b) by rw[Bool.eq_iff_iff];simp[h1]);go_enter func12,ntmps12;go_wp2;go_ret;exact⟨eO HE.symm,rfl⟩
 ·have hd:decide (0<=n)=false:=by simpa using h1
  have HE:=ae (show decide (0<=n/\n<=b)=false by simp;omega);rw[HE.out];go_enter func12,ntmps12;go_wp2;go_ret;exact⟨rfl,rfl⟩
theorem CY(n:Int)(w:World):
  Calls prog 58 #[.int .i64 n] w λe w'=>e= .returned (.bool (nG n))/\w=w':=by
 have h:n=1\/n=2\/n=4\/n=8\/(n≠1/\n≠2/\n≠4/\n≠8):=by omega
 rcases h with rfl|rfl|rfl|rfl|⟨h1,h2,h3,h4⟩
 all_goals
  go_enter func58,ntmps58;go_wp2;go_ret;exact⟨eO (by simp[nG, *]),rfl⟩
theorem cQ(n most:Int)(w:World):
  Calls prog 38 #[.int .i64 n,.int .i64 most] w λe w'=>e= .returned (.bool (decide (0<=n/\n<most)))/\w=w':=by
 go_enter func38,ntmps38;go_wp2
 all_goals go_ret
 all_goals exact⟨eO (by simp;try omega),rfl⟩
def JZ(op:Int):Bool:=decide (1<=op/\op<=4)
def vD(op:Int):Int:=if 1<=op/\op<=4 then 0 else if 12<=op/\op<=30 then 2 else 1
theorem Fc(op:Int)(w:World):
  Calls prog 126 #[.int .i64 op] w λe w'=>e= .returned (.bool (JZ op))/\w=w':=by
 unfold JZ;go_enter func126,ntmps126;go_wp2
 all_goals go_ret
 ·exact⟨eO (by simp[*]),rfl⟩
 ·exact⟨eO (by simp;omega),rfl⟩
theorem Us(op:Int)(w:World):
  Calls prog 124 #[.int .i64 op] w λe w'=>e= .returned (.bool (decide (1<=op/\op<=36)))/\w=w':=by
 go_enter func124,ntmps124;go_wp2
 all_goals go_ret
 ·exact⟨eO (by simp[*]),rfl⟩
 ·exact⟨eO (by simp;omega),rfl⟩
theorem Jl(op:Int)(w:World):
  Calls prog 129 #[.int .i64 op] w λe w'=>e= .returned (.bool (decide (12<=op/\op<=30)))/\w=w':=by
 go_enter func129,ntmps129;go_wp2
 all_goals go_ret
 ·exact⟨eO (by simp[*]),rfl⟩
 ·exact⟨eO (by simp;omega),rfl⟩
theorem MA(op:Int)(w:World):
  Calls prog 125 #[.int .i64 op] w λe w'=>e= .returned (.int .i64 (vD op))/\w=w':=by
 have HL:=ae (Fc op w);have HB:=ae (Jl op w);unfold vD;unfold JZ at HL;by_cases h1:1<=op/\op<=4
 ·rw[if_pos h1];rw[decide_eq_true h1]at HL;clear h1;go_enter func125,ntmps125;go_wp2_with(go_at_call 126;refine HL.mono ?_;rintro e w' ⟨rfl,rfl⟩);go_ret;exact⟨rfl,rfl⟩
 ·rw[if_neg h1];rw[decide_eq_false h1]at HL;by_cases h2:12<=op/\op<=30
  ·rw[if_pos h2];rw[decide_eq_true h2]at HB;clear h1 h2;go_enter func125,ntmps125;go_wp2_with(first|(go_at_call 126;refine HL.mono ?_;rintro e w' ⟨rfl,rfl⟩)|(go_at_call 129;refine HB.mono ?_;rintro e w' ⟨rfl,rfl⟩));go_ret;exact⟨rfl,rfl⟩
  ·rw[if_neg h2];rw[decide_eq_false h2]at HB;clear h1 h2;go_enter func125,ntmps125;go_wp2_with(first|(go_at_call 126;refine HL.mono ?_;rintro e w' ⟨rfl,rfl⟩)|(go_at_call 129;refine HB.mono ?_;rintro e w' ⟨rfl,rfl⟩));go_ret;exact⟨rfl,rfl⟩
end Go.Proofs.YtikbdplllopjlaaGreat
