/- How Go's data lie in memory: rows, slices, trees. No program in sight but its name. No condition. Regions that draw their order and whose callees at most make new blocks; small words on worlds. No program in sight but its name. No condition. Worlds whose writes lie in a set of blocks; whole blocks. No program in sight but its name. No condition. The page's memory and ops (chapters 1, 6, 7), as plain functions. No program in sight. No condition. The page's memory: how it lies, and the walks of its reading functions. Conditions: as stated. The page's memory: an element's place. Conditions: as stated. The walks of num's ops of two numbers. Plain laws of layer 1 (num): what a cut of 8, 16 or 32 bits comes to; no program in sight. No condition. The walks of the page's ops of one and of two numbers. No condition but those stated. The page's memory: loads. Conditions: as stated. -/
import Derived.Test.YtikbdplllopjlaaGreatRows
import Derived.WalkKit
import Derived.WalkSpells
import Derived.WalkLawsBesides
import Derived.Lib.Hide
import Derived.Deep.QuietTactic
import Derived.BigQuiet
import Derived.StillTailTactics
import Derived.Handy
import Derived.Deep.RegionWith
set_option linter.unusedVariables false
set_option linter.unusedSimpArgs false
set_option maxHeartbeats 8000000
set_option maxRecDepth 100000
open Go.Proofs.Tryz
namespace Go.Proofs.YtikbdplllopjlaaGreat
open Go.RowKit
theorem ae{p:Prop}(h:p):Hid p:=h
theorem aN(n:Nat):n<=n:=Nat.le_refl n
theorem aH{a b:Prop}(h:a):a\/b:=.inl h
theorem aT{a b:Prop}(h:b):a\/b:=.inr h
theorem kL{a b c:Nat}(h:a<b)(g:b<=c):a<c:=Nat.lt_of_lt_of_le h g
theorem bI(B:Nat)(w:World):Below B w w:=.refl B w
theorem aR{P:Program}{fn:Func}{R:Ending->World->Prop}{a:Act}{w:World}{v:Value}(hr:(results fn a.tmps).run P w= .ok v w)(hd:a.defers=[])(hR:R (.returned v) w):bodyPost P fn R .ret a w:=bodyPost_ret hr hd hR
theorem jU{k:IntKind}{a b:Int}(h:a=b):Ending.returned (.int k a)= .returned (.int k b):=by rw[h]
theorem eO{a b:Bool}(h:a=b):Ending.returned (.bool a)= .returned (.bool b):=by rw[h]
def bz(n:Int):Prop:= -9223372036854775808<=n/\n<=9223372036854775807
theorem cZ{n:Int}(h:(Lit.int .i64 n).wf=true):bz n:=by
 have h1:IntKind.i64.min= -9223372036854775808:=rfl;have h2:IntKind.i64.max=9223372036854775807:=rfl;simp only[Lit.wf,Bool.and_eq_true,decide_eq_true_eq]at h;unfold bz;omega
inductive T where
 |node (op n:Int) (kids:List T)
def T.op:T->Int| .node op _ _=>op
def T.n:T->Int| .node _ n _=>n
mutual
def T.size:T->Nat
 | .node _ _ ks=>1+T.sizes ks
def T.sizes:List T->Nat
 |[]=>0
 |k::ks=>k.size+T.sizes ks
end
theorem T.size_pos(t:T):0<t.size:=by cases t;simp[T.size];omega
theorem T.dC{ks:List T}{i:Nat}{k:T}(h:ks[i]? =some k):k.size<=T.sizes ks:=by
 induction ks generalizing i with
 |nil=>simp at h
 |cons a r ih=>
  cases i with
  |zero=>simp at h;subst h;simp[T.sizes]
  |succ i=>simp at h;have:=ih h;simp[T.sizes];omega
mutual
def aX(w:World)(C:Nat->Nat->Prop):T->Value->Value->Value->Prop
 | .node op n ks,v0,v1,v2=>v0= .int .i64 op/\v1= .int .i64 n/\bz op/\bz n/\ks.length<=9223372036854775807/\
   ∃A aA,v2= .slice A ks.length aA/\(0<ks.length->∃b off,A=some ⟨b,off,none⟩/\C b off/\cU w C ks b off)
def cU(w:World)(C:Nat->Nat->Prop):List T->Nat->Nat->Prop
 |[],_,_=>True
 |k::ks,b,off=>(∃v0 v1 v2,w.cell? ⟨b,off,none⟩=some v0/\w.cell? ⟨b,off+1,none⟩=some v1/\w.cell? ⟨b,off+2,none⟩=some v2/\aX w C k v0 v1 v2)/\cU w C ks b (off+3)
end
theorem cU.get{w:World}{C:Nat->Nat->Prop}{ks:List T}{b off i:Nat}{k:T}(h:cU w C ks b off)(hk:ks[i]? =some k):
  ∃v0 v1 v2,w.cell? ⟨b,off+i*3,none⟩=some v0/\w.cell? ⟨b,off+i*3+1,none⟩=some v1/\w.cell? ⟨b,off+i*3+2,none⟩=some v2/\aX w C k v0 v1 v2:=by
 induction ks generalizing i off with
 |nil=>simp at hk
 |cons a r ih=>
  simp only[cU]at h;cases i with
  |zero=>simp at hk;subst hk;simpa using h.1
  |succ i=>
   simp at hk;have:=ih h.2 hk;rw[show off+(i+1)*3=off+3+i*3 by omega];exact this
theorem cU.of{w:World}{C:Nat->Nat->Prop}{ks:List T}{b off:Nat}
  (h:∀i k,ks[i]? =some k->∃v0 v1 v2,w.cell? ⟨b,off+i*3,none⟩=some v0/\w.cell? ⟨b,off+i*3+1,none⟩=some v1/\w.cell? ⟨b,off+i*3+2,none⟩=some v2/\aX w C k v0 v1 v2):cU w C ks b off:=by
 induction ks generalizing off with
 |nil=>simp[cU]
 |cons a r ih=>
  simp only[cU];refine⟨by simpa using h 0 a rfl,ih λi k hk=>?_⟩;have:=h (i+1) k (by simpa using hk);rw[show off+(i+1)*3=off+3+i*3 by omega]at this;exact this
mutual
theorem aX.keep{w w':World}{C C':Nat->Nat->Prop}(hC:∀b off,C b off->C' b off/\∀j,w'.cell? ⟨b,j,none⟩=w.cell? ⟨b,j,none⟩):
  ∀(t:T){v0 v1 v2:Value},aX w C t v0 v1 v2->aX w' C' t v0 v1 v2
 | .node op n ks,v0,v1,v2,h=>by
  simp only[aX]at h ⊢;obtain⟨h0,h1,h2,h3,h4,A,aA,h5,h6⟩:=h;refine⟨h0,h1,h2,h3,h4,A,aA,h5,λhp=>?_⟩;obtain⟨b,off,hA,hc,hk⟩:=h6 hp;exact⟨b,off,hA,(hC b off hc).1,cU.keep hC ks (hC b off hc).2 hk⟩
theorem cU.keep{w w':World}{C C':Nat->Nat->Prop}(hC:∀b off,C b off->C' b off/\∀j,w'.cell? ⟨b,j,none⟩=w.cell? ⟨b,j,none⟩):
  ∀(ks:List T){b off:Nat},(∀j,w'.cell? ⟨b,j,none⟩=w.cell? ⟨b,j,none⟩)->cU w C ks b off->cU w' C' ks b off
 |[],b,off,_,_=>by simp[cU]
 |k::ks,b,off,hb,h=>by
  simp only[cU]at h ⊢;obtain⟨⟨v0,v1,v2,c0,c1,c2,ht⟩,hr⟩:=h;exact⟨⟨v0,v1,v2,by rw[hb];exact c0,by rw[hb];exact c1,by rw[hb];exact c2,aX.keep hC k ht⟩,cU.keep hC ks hb hr⟩
end
def dP(B:Nat):Nat->Nat->Prop:=λb _=>b<B
theorem aX.below{w w':World}{B B':Nat}{t:T}{v0 v1 v2:Value}(h:aX w (dP B) t v0 v1 v2)(hb:Below B w w')(hB:B<=B'):aX w' (dP B') t v0 v1 v2:=
 aX.keep (λb off(hc:b<B)=>⟨kL hc hB,λj=>hb.cell (p:=⟨b,j,none⟩) hc⟩) t h
theorem fB{P:Program}{id:Nat}{Q:Exit->Act->World->Prop}{a:Act}{w:World}{l:List Oper}(n:Nat)(hm:P.follows .mixedOrders=true)(hB:Region.lexTailB .any l.toArray n=true)
  (h:wpStill P l.toArray w.drew (λa'=>wpList P l.toArray Q (l.drop n) a' w.drew) (l.take n) a):(Code.region id l.toArray true).wp P Q a w:=wp_region_still_tail n hm hB h
theorem aY{W w1:World}(hb:Below W.heap.size W w1):(∀b o,b<W.heap.size->w1.cell? ⟨b,o,none⟩=W.cell? ⟨b,o,none⟩)/\(∀b o,b<W.heap.size->w1.frozen? ⟨b,o,none⟩=W.frozen? ⟨b,o,none⟩):=
 ⟨λb o h=>hb.cell (p:=⟨b,o,none⟩) h,λb o h=>hb.frozen (p:=⟨b,o,none⟩) h⟩
def oL(W:World):Type:={u:World//Below W.heap.size W u}
instance(W:World):Nonempty (oL W):=⟨⟨W,bI _ _⟩⟩
theorem cP{P:Program}{id:Nat}{Q:Exit->Act->World->Prop}{a:Act}{W:World}{l:List Oper}(hm:P.follows .mixedOrders=true)(hB:Region.lexB .any l.toArray=true)
  (h:(∀(u:oL W)(b o:Nat),b<W.heap.size->u.1.cell? ⟨b,o,none⟩=W.cell? ⟨b,o,none⟩)->wpQuiet P l.toArray (λw'=>∃u:oL W,w'=u.1) (λa'=>∀u:oL W,Q .normal a' u.1) l a):(Code.region id l.toArray true).wp P Q a W:=by
 have h':=h (λu b o hb=>u.2.cell (p:=⟨b,o,none⟩) hb);refine wp_region_quiet (C:=λw'=>∃u:oL W,w'=u.1) hm hB ⟨⟨W.drew,(bI _ _).drew⟩,rfl⟩ ?_;have e:(λa'=>∀w',(∃u:oL W,w'=u.1)->Q .normal a' w')=(λa'=>∀u:oL W,Q .normal a' u.1):=by
  funext a'
  exact propext ⟨λhh u=>hh _ ⟨u,rfl⟩,λhh w'⟨u,hu⟩=>by rw[hu];exact hh u⟩
 rw[e];simpa using h'
theorem eP{P:Program}{f:FuncId}{args:Array Value}{W:World}{u:oL W}{v:Value}
  (h:Calls P f args u.1 λe w'=>e= .returned v/\Below u.1.heap.size u.1 w'):Calls P f args u.1 λe w''=>e= .returned v/\∃u':oL W,w''=u'.1:=
 h.mono λ_ w'⟨he,hb⟩=>⟨he,⟨w',u.2.trans (hb.mono u.2.size)⟩,rfl⟩
theorem iH{P:Program}{f:FuncId}{args:Array Value}{W:World}{u:oL W}{v:Value}
  (h:Calls P f args u.1 λe w'=>e= .returned v/\u.1=w'):Calls P f args u.1 λe w''=>e= .returned v/\∃u':oL W,w''=u'.1:=
 h.mono λ_ _⟨he,hb⟩=>⟨he,u,hb.symm⟩
theorem kG{P:Program}{f:FuncId}{args:Array Value}{W:World}{u:oL W}{v:Value}
  (h:Calls P f args u.1 λe w'=>e= .returned v/\∃n,w'=u.1.drewN n):Calls P f args u.1 λe w''=>e= .returned v/\∃u':oL W,w''=u'.1:=
 h.mono λ_ w'⟨he,n,hb⟩=>⟨he,⟨w',by rw[hb];exact below_drewN u.2 n⟩,rfl⟩
theorem aJ(w:World)(o1 o2:Obj):Below w.heap.size w ((w.alloc o1).alloc o2):=((bI _ _).alloc (aN _) o1).alloc (by simp) o2
theorem ag{w w':World}{B b o:Nat}{u:Value}(h:w.cell? ⟨b,o,none⟩=some u)(hb:Below B w w')(hlt:b<B):w'.cell? ⟨b,o,none⟩=some u:=(hb.cell (p:=⟨b,o,none⟩) hlt).trans h
theorem aj(w:World)(o1:Obj):Below w.heap.size w (w.alloc o1):=(bI _ _).alloc (aN _) o1
theorem ET{P:Program}{f:FuncId}{args:Array Value}{w:World}{a n:Nat}{v:Value}
  (h:Calls P f args (w.drewN (a+n)) λe w'=>e= .returned v/\∃m,w'=(w.drewN (a+n)).drewN m):Calls P f args (w.drewN (a+n)) λe w''=>e= .returned v/\∃m,w''=w.drewN (a+m):=
 h.mono λ_ _⟨he,m,hm⟩=>⟨he,n+m,by rw[hm,World.drewN_drewN,Nat.add_assoc]⟩
theorem bY{B:Nat}{w W:World}(h:Below B w W)(hB:B<=W.heap.size)(u:oL W):Below B w u.1:=h.trans (u.2.mono hB)
theorem aO(w:World)(o1 o2 o3:Obj):Below w.heap.size w (((w.alloc o1).alloc o2).alloc o3):=(aJ w o1 o2).alloc (by simp;omega) o3
structure Wr (F:Nat->Prop) (w w':World):Prop where
 os:w'.os=w.os
 tape:w'.tape=w.tape
 output:w'.output=w.output
 size:w.heap.size<=w'.heap.size
 block:∀k,k<w.heap.size->¬F k->w'.heap[k]? =w.heap[k]?
theorem Wr.refl(F:Nat->Prop)(w:World):Wr F w w:=⟨rfl,rfl,rfl,aN _,λ_ _ _=>rfl⟩
theorem Wr.trans{F G:Nat->Prop}{a b c:World}(h:Wr F a b)(k:Wr G b c)(hG:∀i,G i->F i\/a.heap.size<=i):Wr F a c:=
 ⟨k.os.trans h.os,k.tape.trans h.tape,k.output.trans h.output,Nat.le_trans h.size k.size,λi hi hf=>(k.block i (kL hi h.size) (λhg=>by rcases hG i hg with h1|h1;exact hf h1;omega)).trans (h.block i hi hf)⟩
theorem Wr.mono{F G:Nat->Prop}{a b:World}(h:Wr F a b)(hG:∀i,F i->G i\/a.heap.size<=i):Wr G a b:=
 (Wr.refl G a).trans h hG
theorem Wr.of_below{F:Nat->Prop}{w w':World}(h:Below w.heap.size w w'):Wr F w w':=⟨h.os,h.tape,h.output,h.size,λk hk _=>h.block k hk⟩
theorem di{w w':World}(h:Below w.heap.size w w'):Wr (λ_=>False) w w':=Wr.of_below h
theorem Wr.below{F:Nat->Prop}{w w':World}{B:Nat}(h:Wr F w w')(hB:B<=w.heap.size)(hF:∀k,F k->B<=k):Below B w w':=
 ⟨h.os,h.tape,h.output,h.size,λk hk=>h.block k (by omega) (λhf=>by have:=hF k hf;omega)⟩
theorem Wr.setCell{F:Nat->Prop}(w:World)(a:Addr)(v:Value)(hF:F a.block):Wr F w (w.setCell a v):=
 ⟨rfl,rfl,rfl,by simp,λk _ hf=>heap_setCell_other w a k v (λe=>hf (e▸hF))⟩
theorem Wr.grown{F:Nat->Prop}{w w':World}{row:Option Nat}(hg:w.grownBy w' row)(hr:∀k,row=some k->F k):Wr F w w':=
 ⟨hg.os,hg.tape,hg.output,hg.size,λk hk hf=>hg.block k hk (λe=>hf (hr k e.symm))⟩
def Row(w:World)(g:Nat)(cs:Array Value)(t:TypeId):Prop:=w.heap[g]? =some (.cells cs t (0,0))
theorem Row.lt{w:World}{g:Nat}{cs:Array Value}{t:TypeId}(h:Row w g cs t):g<w.heap.size:=by
 rcases Nat.lt_or_ge g w.heap.size with h'|h'
 ·exact h'
 ·unfold Row at h;rw[Array.getElem?_eq_none h']at h;cases h
theorem Row.cell{w:World}{g:Nat}{cs:Array Value}{t:TypeId}{v:Value}{j:Nat}(h:Row w g cs t)(hj:cs[j]? =some v):w.cell? ⟨g,j,none⟩=some v:=(cell_of_row w g j cs t (0,0) h).trans hj
theorem Row.free{w:World}{g:Nat}{cs:Array Value}{t:TypeId}(h:Row w g cs t)(j:Nat):w.frozen? ⟨g,j,none⟩=false:=frozen_of_row w g j cs t h
theorem Row.set{w:World}{g:Nat}{cs:Array Value}{t:TypeId}(h:Row w g cs t)(j:Nat)(v:Value):Row (w.setCell ⟨g,j,none⟩ v) g (cs.setIfInBounds j v) t:=heap_setCell_same w g j cs t v h
theorem Row.other{w:World}{g g':Nat}{cs:Array Value}{t:TypeId}(h:Row w g cs t)(hne:g≠g')(j:Nat)(v:Value):Row (w.setCell ⟨g',j,none⟩ v) g cs t:=(heap_setCell_other w ⟨g',j,none⟩ g v hne).trans h
theorem Row.wr{F:Nat->Prop}{w w':World}{g:Nat}{cs:Array Value}{t:TypeId}(h:Row w g cs t)(hw:Wr F w w')(hF:¬F g):Row w' g cs t:=(hw.block g h.lt hF).trans h
theorem Row.below{B:Nat}{w w':World}{g:Nat}{cs:Array Value}{t:TypeId}(h:Row w g cs t)(hw:Below B w w')(hB:g<B):Row w' g cs t:=(hw.block g hB).trans h
theorem Row.new(w:World)(cs:Array Value)(t:TypeId):Row (w.alloc (.cells cs t)) w.heap.size cs t:=heap_alloc_new w _
theorem Row.new'{w:World}{g:Nat}(cs:Array Value)(t:TypeId)(hg:g=w.heap.size):Row (w.alloc (.cells cs t)) g cs t:=hg▸Row.new w cs t
theorem Row.alloc{w:World}{g:Nat}{cs:Array Value}{t:TypeId}(h:Row w g cs t)(o:Obj):Row (w.alloc o) g cs t:=(Below.heap_alloc w o g h.lt).trans h
theorem Row.drew{w:World}{g:Nat}{cs:Array Value}{t:TypeId}(h:Row w g cs t):Row w.drew g cs t:=h
theorem Row.ne{w:World}{g g':Nat}{cs cs':Array Value}{t t':TypeId}(h:Row w g cs t)(h':Row w g' cs' t')(ht:t≠t'):g≠g':=by
 rintro rfl;unfold Row at h h';rw[h]at h';simp at h';exact ht h'.2
theorem aB{F:Nat->Prop}{w w':World}{ai:Nat}{e:TypeId}{size:Nat}{v:Value}{n:Nat}{xs:List Value}(h:w.ownsRow ai e size v n xs)(hw:Wr F w w')(hF:∀g,v.ownBlock=some g->¬F g):w'.ownsRow ai e size v n xs:=by
 obtain⟨h1,h2⟩:=h;refine⟨h1,?_⟩;rcases h2 with h2|⟨g,aA,cur,hv,hg,hh,r⟩
 ·exact aH h2
 ·subst hv;exact aT ⟨g,aA,cur,rfl,hg,Row.wr hh hw (hF g rfl),r⟩
theorem aC{w:World}{ai:Nat}{e:TypeId}{size:Nat}{v:Value}{n:Nat}{xs:List Value}{g:Nat}(h:w.ownsRow ai e size v n xs)(hg:v.ownBlock=some g):ai<=g/\∃cs,Row w g cs e:=by
 obtain⟨_,h2⟩:=h;rcases h2 with⟨h2,_⟩|⟨g',aA,cur,hv,hb,hh,_⟩
 ·subst h2;cases hg
 ·subst hv;simp only[Value.ownBlock,Option.some.injEq]at hg;subst hg;exact⟨hb,cur,hh⟩
structure V where
 obj:Nat
 n:Int
deriving DecidableEq
structure MO where
 size:Int
 l:List V
 live:Bool
def MO.bytes(o:MO):Int:=o.size*o.l.length
def aF(M:List MO)(k:Nat):MO:=M.getD k ⟨0,[],false⟩
def dD(M:List MO)(a:V)(n:Int):Option V:=
 if(aF M a.obj).live=true/\¬n< -a.n/\¬n>(aF M a.obj).bytes-a.n then some ⟨a.obj,a.n+n⟩else none
def nX(M:List MO)(a b:V):Bool:=
 (aF M a.obj).live && (aF M b.obj).live && (decide (a.obj=b.obj)||(decide (a.n<(aF M a.obj).bytes)&& decide (b.n<(aF M b.obj).bytes)))
def gR(two:Int->Int->Int->Int)(M:List MO)(op:Int)(a b:V):Option V:=
 if a.obj=0/\b.obj=0 then some ⟨0,two op a.n b.n⟩
 else if op=12/\a.obj=0 then dD M b a.n
 else if op=12/\b.obj=0 then dD M a b.n
 else if op=13/\b.obj=0 then if b.n= -9223372036854775808 then none else dD M a (-b.n)
 else if op=25\/op=26 then
  if a.obj=0/\a.n≠0\/b.obj=0/\b.n≠0 then none
  else if a.obj>0/\b.obj>0/\nX M a b=false then none
  else some ⟨0,two op (if a=b then 1 else 0) 1⟩
 else if a.obj≠b.obj\/(aF M a.obj).live=false\/(op≠13/\¬(27<=op/\op<=30))then none
 else some ⟨0,two op a.n b.n⟩
def bg(w:World)(b off:Nat)(v:V):Prop:=w.cell? ⟨b,off,none⟩=some (.int .i64 v.obj)/\w.cell? ⟨b,off+1,none⟩=some (.int .i64 v.n)
def Ed(w:World)(B:Nat)(A:Option Addr)(l:List V):Prop:=
 ∀j v,l[j]? =some v->∃b off,A=some ⟨b,off,none⟩/\b<B/\bg w b (off+j*2) v
def YY(w:World)(B mb mo k:Nat)(o:MO):Prop:=
 ∃A len aA,w.cell? ⟨mb,mo+k*3,none⟩=some (.int .i64 o.size)/\w.cell? ⟨mb,mo+k*3+1,none⟩=some (.slice A len aA)/\w.cell? ⟨mb,mo+k*3+2,none⟩=some (.bool o.live)/\
  o.l.length=len/\len<=64/\0<=o.size/\o.size<=8/\Ed w B A o.l
def cT(w:World)(B:Nat)(A:Option Addr)(n:Nat)(M:List MO):Prop:=
 M.length=n/\n<=4294967296/\∀k o,M[k]? =some o->∃mb mo,A=some ⟨mb,mo,none⟩/\mb<B/\YY w B mb mo k o
theorem oz{M:List MO}{k:Nat}(h:k<M.length):M[k]? =some (aF M k):=by
 unfold aF;rw[List.getD_eq_getElem?_getD,List.getElem?_eq_getElem h];rfl
theorem cT.get{w:World}{B n:Nat}{A:Option Addr}{M:List MO}(h:cT w B A n M){k:Nat}(hk:k<n):
  ∃mb mo,A=some ⟨mb,mo,none⟩/\mb<B/\YY w B mb mo k (aF M k):=
 h.2.2 k _ (oz (by rw[h.1];exact hk))
theorem MO.gQ{o:MO}(h0:0<=o.size)(h1:o.size<=8)(h2:o.l.length<=64):0<=o.bytes/\o.bytes<=512:=by
 unfold MO.bytes;constructor
 ·exact Int.mul_nonneg h0 (by omega)
 ·have h3:o.size*(o.l.length:Int)<=8*(o.l.length:Int):=Int.mul_le_mul_of_nonneg_right h1 (by omega);omega
theorem jW(pb po:Nat)(A:Option Addr)(n aA k B:Nat)(M:List MO)(w:World)(hc:w.cell? ⟨pb,po,none⟩=some (.slice A n aA))(hM:cT w B A n M)(hk:k<n):
  Calls prog 105 #[.pointer (some ⟨pb,po,none⟩),.int .i64 k] w λe w'=>e= .returned (.int .i64 (aF M k).bytes)/\∃m,w'=w.drewN m:=by
 obtain⟨mb,mo,rfl,_,A',len,cap',c0,c1,_,hl,hl2,hs0,hs1,_⟩:=hM.get hk;have hn:=hM.2.1;have hb:=MO.gQ hs0 hs1 (by omega:(aF M k).l.length<=64);have dO:(aF M k).size*(len:Int)=(aF M k).bytes:=by unfold MO.bytes;rw[hl]
 have HB:=ae dO;have qV:-9223372036854775808<=(aF M k).size*(len:Int)/\(aF M k).size*(len:Int)<=9223372036854775807:=by rw[dO];omega
 obtain⟨Fq,Bc⟩:=qV;have iZ:(0:Int)<=(k:Int):=by omega
 have bA:(k:Int)<(n:Int):=by omega
 clear hM dO hl hb;go_enter func105,ntmps105;go_wp2_with fail;go_quiet (fail);go_wp2_with fail;go_ret;exact⟨jU HB.out,_,rfl⟩
theorem bg.below{w w':World}{B b off:Nat}{v:V}(h:bg w b off v)(hb:Below B w w')(hlt:b<B):bg w' b off v:=
 ⟨(hb.cell (p:=⟨b,off,none⟩) hlt).trans h.1,(hb.cell (p:=⟨b,off+1,none⟩) hlt).trans h.2⟩
theorem Ed.below{w w':World}{B B':Nat}{A:Option Addr}{l:List V}(h:Ed w B A l)(hb:Below B w w')(hB:B<=B'):Ed w' B' A l:=by
 intro j v hj;obtain⟨b,off,hA,hlt,hc⟩:=h j v hj;exact⟨b,off,hA,by omega,hc.below hb hlt⟩
theorem cT.below{w w':World}{B B' n:Nat}{A:Option Addr}{M:List MO}(h:cT w B A n M)(hb:Below B w w')(hB:B<=B'):cT w' B' A n M:=by
 refine⟨h.1,h.2.1,λk o hk=>?_⟩;obtain⟨mb,mo,hA,hlt,A',len,aA,c0,c1,c2,h1,h2,h3,h4,h5⟩:=h.2.2 k o hk;exact⟨mb,mo,hA,by omega,A',len,aA,(hb.cell (p:=⟨mb,mo+k*3,none⟩) hlt).trans c0,(hb.cell (p:=⟨mb,mo+k*3+1,none⟩) hlt).trans c1,(hb.cell (p:=⟨mb,mo+k*3+2,none⟩) hlt).trans c2,h1,h2,h3,h4,h5.below hb hB⟩
theorem Hr(pb po:Nat)(A:Option Addr)(n aA k B:Nat)(x m:Int)(M:List MO)(w:World)(hB:B<=w.heap.size)(aZ:pb<w.heap.size)(hc:w.cell? ⟨pb,po,none⟩=some (.slice A n aA))(hM:cT w B A n M)(hk:k<n)(hd:(aF M k).live=false):
  Calls prog 109 #[.pointer (some ⟨pb,po,none⟩),.agg #[.int .i64 k,.int .i64 x],.int .i64 m] w λe w'=>e= .returned (.tuple #[.agg #[.int .i64 0,.int .i64 0],.bool false])/\Below w.heap.size w w':=by
 obtain⟨mb,mo,rfl,gK,A',len,cap',c0,c1,c2,hl,hl2,hs0,hs1,_⟩:=hM.get hk;have eW:mb<w.heap.size:=by omega
 rw[hd]at c2;have iZ:(0:Int)<=(k:Int):=by omega
 have bA:(k:Int)<(n:Int):=by omega
 have hn:=hM.2.1;clear hM hd hl;go_enter func109,ntmps109;go_wp2_with fail;go_quiet (fail);go_wp2_with fail;refine aR (v:= .tuple #[.agg #[.int .i64 0,.int .i64 0],.bool false]) ?_ rfl ⟨rfl,?_⟩
 ·simp[results,results109,go_sem]
 ·exact((below_drewN (aJ _ _ _) _).setCell (by simp) _).setCell (by simp) _
theorem K2(pb po:Nat)(A:Option Addr)(n aA k B:Nat)(x m:Int)(M:List MO)(w:World)(hB:B<=w.heap.size)(aZ:pb<w.heap.size)(hc:w.cell? ⟨pb,po,none⟩=some (.slice A n aA))(hM:cT w B A n M)(hk:k<n)(hd:(aF M k).live=true)
  (hx0:0<=x)(hx1:x<=512)(hm:m< -x):
  Calls prog 109 #[.pointer (some ⟨pb,po,none⟩),.agg #[.int .i64 k,.int .i64 x],.int .i64 m] w λe w'=>e= .returned (.tuple #[.agg #[.int .i64 0,.int .i64 0],.bool false])/\Below w.heap.size w w':=by
 obtain⟨mb,mo,rfl,gK,A',len,cap',c0,c1,c2,hl,hl2,hs0,hs1,_⟩:=hM.get hk;have eW:mb<w.heap.size:=by omega
 rw[hd]at c2;have iZ:(0:Int)<=(k:Int):=by omega
 have bA:(k:Int)<(n:Int):=by omega
 have hn:=hM.2.1;have P9:decide (m< -x)=true:=by simpa using hm
 clear hM hd hl;go_enter func109,ntmps109;go_wp2_with fail;go_quiet (fail);go_wp2_with fail;refine aR (v:= .tuple #[.agg #[.int .i64 0,.int .i64 0],.bool false]) ?_ rfl ⟨rfl,?_⟩
 ·simp[results,results109,go_sem]
 ·exact((below_drewN (aJ _ _ _) _).setCell (by simp) _).setCell (by simp) _
theorem Hq(pb po:Nat)(A:Option Addr)(n aA k B:Nat)(x m:Int)(M:List MO)(w:World)(hB:B<=w.heap.size)(aZ:pb<w.heap.size)(hc:w.cell? ⟨pb,po,none⟩=some (.slice A n aA))(hM:cT w B A n M)(hk:k<n)(hd:(aF M k).live=true)
  (hx0:0<=x)(hx1:x<=512)(hm:¬m< -x)(hh:(aF M k).bytes-x<m):
  Calls prog 109 #[.pointer (some ⟨pb,po,none⟩),.agg #[.int .i64 k,.int .i64 x],.int .i64 m] w λe w'=>e= .returned (.tuple #[.agg #[.int .i64 0,.int .i64 0],.bool false])/\Below w.heap.size w w':=by
 obtain⟨mb,mo,rfl,gK,A',len,cap',c0,c1,c2,hl,hl2,hs0,hs1,_⟩:=hM.get hk;have eW:mb<w.heap.size:=by omega
 have qX:=MO.gQ hs0 hs1 (by omega:(aF M k).l.length<=64);rw[hd]at c2;have iZ:(0:Int)<=(k:Int):=by omega
 have bA:(k:Int)<(n:Int):=by omega
 have hn:=hM.2.1;have P9:decide (m< -x)=false:=by simpa using hm
 have hh':decide ((aF M k).bytes-x<m)=true:=by simpa using hh
 have HM:=ae hM;have HC:=ae hc;obtain⟨hb0,hb1⟩:=qX;clear hM hd hl;go_enter func109,ntmps109;go_wp2_with fail;go_quiet ((go_at_call 105;exact Calls.quiet_of (jW pb po _ n aA k w.heap.size M _ (ag HC (below_drewN (aJ _ _ _) _) aZ) ((HM.out).below (below_drewN ((aJ _ _ _).mono hB) _) hB) hk)));go_wp2_with fail;refine aR (v:= .tuple #[.agg #[.int .i64 0,.int .i64 0],.bool false]) ?_ rfl ⟨rfl,?_⟩
 ·simp[results,results109,go_sem]
 ·exact((below_drewN (aJ _ _ _) _).setCell (by simp) _).setCell (by simp) _
theorem K1(pb po:Nat)(A:Option Addr)(n aA k B:Nat)(x m:Int)(M:List MO)(w:World)(hB:B<=w.heap.size)(aZ:pb<w.heap.size)(hc:w.cell? ⟨pb,po,none⟩=some (.slice A n aA))(hM:cT w B A n M)(hk:k<n)(hd:(aF M k).live=true)
  (hx0:0<=x)(hx1:x<=512)(hm:¬m< -x)(hh:¬(aF M k).bytes-x<m):
  Calls prog 109 #[.pointer (some ⟨pb,po,none⟩),.agg #[.int .i64 k,.int .i64 x],.int .i64 m] w λe w'=>e= .returned (.tuple #[.agg #[.int .i64 k,.int .i64 (x+m)],.bool true])/\Below w.heap.size w w':=by
 obtain⟨mb,mo,rfl,gK,A',len,cap',c0,c1,c2,hl,hl2,hs0,hs1,_⟩:=hM.get hk;have eW:mb<w.heap.size:=by omega
 have qX:=MO.gQ hs0 hs1 (by omega:(aF M k).l.length<=64);rw[hd]at c2;have iZ:(0:Int)<=(k:Int):=by omega
 have bA:(k:Int)<(n:Int):=by omega
 have hn:=hM.2.1;have P9:decide (m< -x)=false:=by simpa using hm
 have hh':decide ((aF M k).bytes-x<m)=false:=by simpa using hh
 have HM:=ae hM;have HC:=ae hc;obtain⟨hb0,hb1⟩:=qX;clear hM hd hl;go_enter func109,ntmps109;go_wp2_with fail;go_quiet ((go_at_call 105;exact Calls.quiet_of (jW pb po _ n aA k w.heap.size M _ (ag HC (below_drewN (aJ _ _ _) _) aZ) ((HM.out).below (below_drewN ((aJ _ _ _).mono hB) _) hB) hk)));go_wp2_with fail;refine aR (v:= .tuple #[.agg #[.int .i64 k,.int .i64 (x+m)],.bool true]) ?_ rfl ⟨rfl,?_⟩
 ·simp[results,results109,go_sem]
 ·exact((below_drewN (aJ _ _ _) _).setCell (by simp) _).setCell (by simp) _
def aI:Option V->Value
 |some v=> .tuple #[.agg #[.int .i64 v.obj,.int .i64 v.n],.bool true]
 |none=> .tuple #[.agg #[.int .i64 0,.int .i64 0],.bool false]
theorem nz(pb po:Nat)(A:Option Addr)(n aA B:Nat)(a:V)(m:Int)(M:List MO)(w:World)(hB:B<=w.heap.size)(aZ:pb<w.heap.size)(hc:w.cell? ⟨pb,po,none⟩=some (.slice A n aA))(hM:cT w B A n M)(hk:a.obj<n)
  (hx0:0<=a.n)(hx1:a.n<=512):
  Calls prog 109 #[.pointer (some ⟨pb,po,none⟩),.agg #[.int .i64 a.obj,.int .i64 a.n],.int .i64 m] w λe w'=>e= .returned (aI (dD M a m))/\Below w.heap.size w w':=by
 unfold dD;by_cases hd:(aF M a.obj).live=true
 ·by_cases hm:m< -a.n
  ·rw[if_neg (by simp[hm])];exact K2 pb po A n aA a.obj B a.n m M w hB aZ hc hM hk hd hx0 hx1 hm
  ·by_cases hh:(aF M a.obj).bytes-a.n<m
   ·rw[if_neg (by simp[hm,hh])];exact Hq pb po A n aA a.obj B a.n m M w hB aZ hc hM hk hd hx0 hx1 hm hh
   ·rw[if_pos ⟨hd,hm,hh⟩];exact K1 pb po A n aA a.obj B a.n m M w hB aZ hc hM hk hd hx0 hx1 hm hh
 ·rw[if_neg (by simp[hd])];exact Hr pb po A n aA a.obj B a.n m M w hB aZ hc hM hk (by simpa using hd)
theorem SG(pb po s:Nat)(x:Int)(w:World):
  Calls prog 86 #[.pointer (some ⟨pb,po,none⟩),.agg #[.int .i64 0,.int .i64 x],.int .i64 s] w λe w'=>e= .returned (.tuple #[.pointer none,.bool false])/\Below w.heap.size w w':=by
 go_enter func86,ntmps86;go_wp2_with fail;go_ret2;exact⟨rfl,aj _ _⟩
theorem SI(pb po:Nat)(A:Option Addr)(n aA k B:Nat)(x s:Nat)(M:List MO)(w:World)(hB:B<=w.heap.size)(aZ:pb<w.heap.size)(hc:w.cell? ⟨pb,po,none⟩=some (.slice A n aA))(hM:cT w B A n M)(hk:k<n)(iZ:0<k)(_hx:x<=512)(_hs0':1<=s)(_hs1':s<=8)(hd:(aF M k).live=false):
  Calls prog 86 #[.pointer (some ⟨pb,po,none⟩),.agg #[.int .i64 k,.int .i64 x],.int .i64 s] w λe w'=>(e= .returned (.tuple #[.pointer none,.bool false])/\Below w.heap.size w w'):=by
 obtain⟨mb,mo,rfl,gK,A',len,cap',c0,c1,c2,hl,hl2,hs0,hs1,hrow⟩:=hM.get hk;have eW:mb<w.heap.size:=by omega
 have bA:(k:Int)<(n:Int):=by omega
 have hk2:((k:Int)==0)=false:=by simp;omega
 have hn:=hM.2.1;rw[hd]at c2;clear hd;have HM:=ae hM;have HC:=ae hc;clear hM hl hrow;go_enter func86,ntmps86;go_wp2_with fail;go_quiet (fail);go_wp2_with fail;go_quiet (fail);go_wp2_with fail;go_ret2;exact⟨rfl,below_drewN (below_drewN (aj _ _) _) _⟩
theorem SH(pb po:Nat)(A:Option Addr)(n aA k B:Nat)(x s:Nat)(M:List MO)(w:World)(hB:B<=w.heap.size)(aZ:pb<w.heap.size)(hc:w.cell? ⟨pb,po,none⟩=some (.slice A n aA))(hM:cT w B A n M)(hk:k<n)(iZ:0<k)(_hx:x<=512)(_hs0':1<=s)(_hs1':s<=8)(hd:(aF M k).live=true)(hs:¬(aF M k).size=s):
  Calls prog 86 #[.pointer (some ⟨pb,po,none⟩),.agg #[.int .i64 k,.int .i64 x],.int .i64 s] w λe w'=>(e= .returned (.tuple #[.pointer none,.bool false])/\Below w.heap.size w w'):=by
 obtain⟨mb,mo,rfl,gK,A',len,cap',c0,c1,c2,hl,hl2,hs0,hs1,hrow⟩:=hM.get hk;have eW:mb<w.heap.size:=by omega
 have bA:(k:Int)<(n:Int):=by omega
 have hk2:((k:Int)==0)=false:=by simp;omega
 have hn:=hM.2.1;rw[hd]at c2;have hs':((aF M k).size !=(s:Int))=true:=by simpa using hs
 clear hd hs;have HM:=ae hM;have HC:=ae hc;clear hM hl hrow;go_enter func86,ntmps86;go_wp2_with fail;go_quiet (fail);go_wp2_with fail;go_quiet (fail);go_wp2_with fail;go_ret2;exact⟨rfl,below_drewN (below_drewN (aj _ _) _) _⟩
theorem VD(pb po:Nat)(A:Option Addr)(n aA k B:Nat)(x s:Nat)(M:List MO)(w:World)(hB:B<=w.heap.size)(aZ:pb<w.heap.size)(hc:w.cell? ⟨pb,po,none⟩=some (.slice A n aA))(hM:cT w B A n M)(hk:k<n)(iZ:0<k)(hx:x<=512)(XL:1<=s)(Cb:s<=8)(hd:(aF M k).live=true)(hs:(aF M k).size=s)(ho:¬x%s=0):
  Calls prog 86 #[.pointer (some ⟨pb,po,none⟩),.agg #[.int .i64 k,.int .i64 x],.int .i64 s] w λe w'=>(e= .returned (.tuple #[.pointer none,.bool false])/\Below w.heap.size w w'):=by
 obtain⟨mb,mo,rfl,gK,A',len,cap',c0,c1,c2,hl,hl2,hs0,hs1,hrow⟩:=hM.get hk;have eW:mb<w.heap.size:=by omega
 have bA:(k:Int)<(n:Int):=by omega
 have hk2:((k:Int)==0)=false:=by simp;omega
 have hn:=hM.2.1;rw[hd]at c2;rw[hs]at c0;have rL:((x:Int)%(s:Int) !=0)=true:=by simp;omega
 clear hd hs;have HM:=ae hM;have HC:=ae hc;clear hM hl hrow;go_enter func86,ntmps86;go_wp2_with fail;go_quiet (fail);go_wp2_with fail;go_quiet (fail);go_wp2_with fail;go_ret2;exact⟨rfl,below_drewN (below_drewN (aj _ _) _) _⟩
theorem VE(pb po:Nat)(A:Option Addr)(n aA k B:Nat)(x s:Nat)(M:List MO)(w:World)(hB:B<=w.heap.size)(aZ:pb<w.heap.size)(hc:w.cell? ⟨pb,po,none⟩=some (.slice A n aA))(hM:cT w B A n M)(hk:k<n)(iZ:0<k)(hx:x<=512)(XL:1<=s)(Cb:s<=8)(hd:(aF M k).live=true)(hs:(aF M k).size=s)(ho:x%s=0)(hf:(aF M k).bytes<=x):
  Calls prog 86 #[.pointer (some ⟨pb,po,none⟩),.agg #[.int .i64 k,.int .i64 x],.int .i64 s] w λe w'=>(e= .returned (.tuple #[.pointer none,.bool false])/\Below w.heap.size w w'):=by
 obtain⟨mb,mo,rfl,gK,A',len,cap',c0,c1,c2,hl,hl2,hs0,hs1,hrow⟩:=hM.get hk;have eW:mb<w.heap.size:=by omega
 have bA:(k:Int)<(n:Int):=by omega
 have hk2:((k:Int)==0)=false:=by simp;omega
 have hn:=hM.2.1;rw[hd]at c2;rw[hs]at c0;have rL:((x:Int)%(s:Int) !=0)=false:=by simp;omega
 have hf':decide ((aF M k).bytes<=(x:Int))=true:=by simpa using hf
 clear hd hs ho hf;have HM:=ae hM;have HC:=ae hc;clear hM hl hrow;go_enter func86,ntmps86;go_wp2_with fail;go_quiet (fail);go_wp2_with fail;go_quiet ((go_at_call 105;exact ET (jW pb po _ n aA k w.heap.size M _ (ag HC (below_drewN (aj _ _) _) aZ) ((HM.out).below (below_drewN ((aj _ _).mono hB) _) hB) hk)));go_wp2_with fail;go_ret2;exact⟨rfl,below_drewN (below_drewN (aj _ _) _) _⟩
theorem jA{x s len:Nat}(h:x<s*len):x/s<len:=by
 exact Nat.div_lt_of_lt_mul h
theorem VC(pb po mb mo ob oo:Nat)(n aA k B len cap':Nat)(x s:Nat)(M:List MO)(w:World)(hB:B<=w.heap.size)(aZ:pb<w.heap.size)(hc:w.cell? ⟨pb,po,none⟩=some (.slice (some ⟨mb,mo,none⟩) n aA))(hM:cT w B (some ⟨mb,mo,none⟩) n M)(hk:k<n)(iZ:0<k)(hx:x<=512)(XL:1<=s)(Cb:s<=8)
  (c1:w.cell? ⟨mb,mo+k*3+1,none⟩=some (.slice (some ⟨ob,oo,none⟩) len cap'))
  (hd:(aF M k).live=true)(hs:(aF M k).size=s)(ho:x%s=0)(hf:¬(aF M k).bytes<=x):
  Calls prog 86 #[.pointer (some ⟨pb,po,none⟩),.agg #[.int .i64 k,.int .i64 x],.int .i64 s] w λe w'=>e= .returned (.tuple #[.pointer (some ⟨ob,oo+x/s*2,none⟩),.bool true])/\Below w.heap.size w w':=by
 obtain⟨GH,GG,hA,gK,A',len',cap'',c0,c1',c2,hl,hl2,hs0,hs1,hrow⟩:=hM.get hk;injection hA with hA;injection hA with zB xy;subst zB xy;rw[c1]at c1';injection c1' with c1';injection c1' with e1 e2 e3;subst e1 e2 e3;have eW:mb<w.heap.size:=by omega
 have bA:(k:Int)<(n:Int):=by omega
 have hk2:((k:Int)==0)=false:=by simp;omega
 have hn:=hM.2.1;have hlt:x<s*len:=by
  have:¬((s*len:Nat):Int)<=(x:Int):=by
   have e:((s*len:Nat):Int)=(aF M k).bytes:=by unfold MO.bytes;rw[hs,hl];simp
   rw[e];exact hf
  omega
 have hj:=jA hlt;have xk:((x/s:Nat):Int)<(len:Int):=by omega
 have Rh:(x:Int)/(s:Int)=((x/s:Nat):Int):=by simp
 rw[hd]at c2;rw[hs]at c0;have rL:((x:Int)%(s:Int) !=0)=false:=by simp;omega
 have hf':decide ((aF M k).bytes<=(x:Int))=false:=by simpa using hf
 have HM:=ae hM;have HC:=ae hc;have hj4:(x:Int)/(s:Int)<(len:Int):=by rw[Rh];exact xk
 have hj5:0<=(x:Int)/(s:Int):=by rw[Rh];exact Int.natCast_nonneg _
 have HJ:=ae Rh;have HJ2:=ae hj;clear hM hl hrow hd hs ho hf xk Rh hlt hj;go_enter func86,ntmps86;go_wp2_with fail;go_quiet (fail);go_wp2_with fail;go_quiet ((go_at_call 105;exact ET (jW pb po _ n aA k w.heap.size M _ (ag HC (below_drewN (aj _ _) _) aZ) ((HM.out).below (below_drewN ((aj _ _).mono hB) _) hB) hk)));go_wp2_with fail;go_quiet (fail);go_wp2_with fail;go_ret2;exact⟨rfl,below_drewN (below_drewN (below_drewN (aj _ _) _) _) _⟩
def qL(M:List MO)(a:V)(s:Nat):Option Nat:=
 if 0<a.obj/\(aF M a.obj).live=true/\(aF M a.obj).size=s/\a.n%s=0/\a.n<(aF M a.obj).bytes then some (a.n.toNat/s)else none
theorem Kf(pb po:Nat)(A:Option Addr)(n aA B s:Nat)(a:V)(M:List MO)(w:World)(hB:B<=w.heap.size)(aZ:pb<w.heap.size)(hc:w.cell? ⟨pb,po,none⟩=some (.slice A n aA))(hM:cT w B A n M)(hk:a.obj≠0->a.obj<n)(hx:a.obj≠0->0<=a.n/\a.n<=512)(hs0:1<=s)(hs1:s<=8)
  (hF:qL M a s=none):
  Calls prog 86 #[.pointer (some ⟨pb,po,none⟩),.agg #[.int .i64 a.obj,.int .i64 a.n],.int .i64 s] w λe w'=>e= .returned (.tuple #[.pointer none,.bool false])/\Below w.heap.size w w':=by
 obtain⟨obj,x⟩:=a;by_cases h0:obj=0
 ·subst h0;exact SG pb po s _ w
 ·have iZ:0<obj:=by omega
  obtain⟨hx0,hx⟩:=hx h0;obtain⟨x',rfl⟩:=Int.eq_ofNat_of_zero_le hx0;have hk:=hk h0;simp only at hk hx;unfold qL at hF;by_cases hd:(aF M obj).live=true
  ·by_cases hs:(aF M obj).size=s
   ·by_cases ho:x'%s=0
    ·by_cases hf:(aF M obj).bytes<=(x':Int)
     ·exact VE pb po A n aA obj B x' s M w hB aZ hc hM hk iZ (by omega) hs0 hs1 hd hs ho hf
     ·rw[if_pos ⟨iZ,hd,hs,by simp only;omega,by simp only;omega⟩]at hF;cases hF
    ·exact VD pb po A n aA obj B x' s M w hB aZ hc hM hk iZ (by omega) hs0 hs1 hd hs ho
   ·exact SH pb po A n aA obj B x' s M w hB aZ hc hM hk iZ (by omega) hs0 hs1 hd hs
  ·exact SI pb po A n aA obj B x' s M w hB aZ hc hM hk iZ (by omega) hs0 hs1 (by simpa using hd)
theorem xO(pb po mb mo ob oo:Nat)(n aA B len cap' s:Nat)(a:V)(M:List MO)(w:World)(j:Nat)(hB:B<=w.heap.size)(aZ:pb<w.heap.size)(hc:w.cell? ⟨pb,po,none⟩=some (.slice (some ⟨mb,mo,none⟩) n aA))(hM:cT w B (some ⟨mb,mo,none⟩) n M)(hk:a.obj<n)(hx0:0<=a.n)(hx:a.n<=512)(hs0:1<=s)(hs1:s<=8)
  (c1:w.cell? ⟨mb,mo+a.obj*3+1,none⟩=some (.slice (some ⟨ob,oo,none⟩) len cap'))(hF:qL M a s=some j):
  Calls prog 86 #[.pointer (some ⟨pb,po,none⟩),.agg #[.int .i64 a.obj,.int .i64 a.n],.int .i64 s] w λe w'=>e= .returned (.tuple #[.pointer (some ⟨ob,oo+j*2,none⟩),.bool true])/\Below w.heap.size w w':=by
 obtain⟨obj,x⟩:=a;obtain⟨x',rfl⟩:=Int.eq_ofNat_of_zero_le hx0;unfold qL at hF;by_cases hh:0<obj/\(aF M obj).live=true/\(aF M obj).size=s/\(x':Int)%s=0/\(x':Int)<(aF M obj).bytes
 ·rw[if_pos hh]at hF;obtain⟨iZ,hd,hs,ho,hf⟩:=hh;simp only[Int.toNat_natCast,Option.some.injEq]at hF;subst hF;simp only at hk hx;exact VC pb po mb mo ob oo n aA obj B len cap' x' s M w hB aZ hc hM hk iZ (by omega) hs0 hs1 c1 hd hs (by omega) (by omega)
 ·rw[if_neg hh]at hF;cases hF
theorem oH{M:List MO}{a:V}{s j:Nat}(h:qL M a s=some j):a.obj≠0:=by
 unfold qL at h;intro h0;simp[h0]at h
theorem Eb{M:List MO}{a:V}{s j:Nat}(hF:qL M a s=some j)(hx0:0<=a.n):0<a.obj/\(aF M a.obj).live=true/\(aF M a.obj).size=s/\j<(aF M a.obj).l.length:=by
 unfold qL at hF;by_cases hh:0<a.obj/\(aF M a.obj).live=true/\(aF M a.obj).size=s/\a.n%s=0/\a.n<(aF M a.obj).bytes
 ·rw[if_pos hh]at hF;obtain⟨iZ,hd,hz,ho,hf⟩:=hh;simp only[Option.some.injEq]at hF;subst hF;refine⟨iZ,hd,hz,jA ?_⟩;unfold MO.bytes at hf;rw[hz]at hf;have e:((s*(aF M a.obj).l.length:Nat):Int)=(s:Int)*((aF M a.obj).l.length:Int):=by simp
  have hp:0<=(s:Int)*((aF M a.obj).l.length:Int):=by rw[<-e];exact Int.natCast_nonneg _
  omega
 ·rw[if_neg hh]at hF;cases hF
theorem Uj{k:IntKind}{a b:Int}{c d:Bool}(h:a=b)(h':c=d):Ending.returned (.tuple #[.int k a,.bool c])= .returned (.tuple #[.int k b,.bool d]):=by rw[h,h']
theorem Ax{k k':IntKind}{a b:Int}{c d:Int}(h:a=b)(h':c=d):Ending.returned (.tuple #[.int k a,.int k' c])= .returned (.tuple #[.int k b,.int k' d]):=by rw[h,h']
def pO(a b:Int):Int:=if b=0 then-1 else if a= -9223372036854775808/\b= -1 then a else wrap64 (a.tdiv b)
def qR(a b:Int):Int:=if b=0 then a else if a= -9223372036854775808/\b= -1 then 0 else a.tmod b
def uO(a b:Int):Int:=if b=0 then-1 else wrap64 (IntKind.u64.wrap (a.tdiv b))
def uN(a b:Int):Int:=if b=0 then wrap64 a else wrap64 (a%b)
theorem KL(a b:Int)(w:World):
  Calls prog 130 #[.int .i64 a,.int .i64 b] w λe w'=>e= .returned (.bool (decide (a= -9223372036854775808/\b= -1)))/\w=w':=by
 go_enter func130,ntmps130;go_wp2
 all_goals go_ret
 ·exact⟨eO (by simp_all;rfl),rfl⟩
 ·exact⟨eO (by simp_all),rfl⟩
theorem KQ(a b:Int)(w:World):
  Calls prog 127 #[.int .i64 a,.int .i64 b] w λe w'=>e= .returned (.tuple #[.int .i64 (pO a b),.int .i64 (qR a b)])/\∃n,w'=w.drewN n:=by
 by_cases hb:b=0
 ·subst hb;go_enter func127,ntmps127;go_wp2;go_ret2;exact⟨Ax (by simp[pO]) (by simp[qR]),0,rfl⟩
 ·by_cases hr:a= -9223372036854775808/\b= -1
  ·obtain⟨rfl,rfl⟩:=hr;go_enter func127,ntmps127;go_wp2;go_ret2;exact⟨Ax (by simp[pO]) (by simp[qR]),0,rfl⟩
  ·have hb1:(b==0)=false:=by simpa using hb
   have hr1:decide (a= -9223372036854775808/\b= -1)=false:=by simpa using hr
   go_enter func127,ntmps127;go_wp2_with(first|(go_at_call 130;refine(KL _ _ _).mono ?_;rintro e w' ⟨rfl,rfl⟩));go_quiet (fail);go_wp2;go_ret2;exact⟨Ax (by rw[pO,if_neg hb,if_neg hr]) (by rw[qR,if_neg hb,if_neg hr]),nq,rfl⟩
theorem GX(a b:Int)(w:World)(h0:0<=a)(h1:0<=b):
  Calls prog 128 #[.int .u64 a,.int .u64 b] w λe w'=>e= .returned (.tuple #[.int .i64 (uO a b),.int .i64 (uN a b)])/\∃n,w'=w.drewN n:=by
 by_cases hb:b=0
 ·subst hb;go_enter func128,ntmps128;go_wp2;go_ret2;exact⟨Ax (by simp[uO]) (by simp[uN]),0,rfl⟩
 ·have hb1:(b==0)=false:=by simpa using hb
  go_enter func128,ntmps128;go_wp2;go_quiet (fail);go_wp2;go_ret2;exact⟨Ax (by rw[uO,if_neg hb]) (by rw[uN,if_neg hb]),nq,rfl⟩
def xL(op a b:Int):Int:=
 if op=15 then pO a b else if op=17 then qR a b else if op=16 then uO (IntKind.u64.wrap a) (IntKind.u64.wrap b)else if op=18 then uN (IntKind.u64.wrap a) (IntKind.u64.wrap b)else 0
def mR(op:Int):Bool:=decide (op=15\/op=16\/op=17\/op=18)
theorem Dk(n:Int):0<=IntKind.u64.wrap n:=wrap_u64_nonneg n
theorem Je(op a b:Int)(w:World):
  Calls prog 118 #[.int .i64 op,.int .i64 a,.int .i64 b] w λe w'=>e= .returned (.tuple #[.int .i64 (xL op a b),.bool (mR op)])/\∃n,w'=w.drewN n:=by
 have h:op=15\/op=16\/op=17\/op=18\/(op≠15/\op≠16/\op≠17/\op≠18):=by omega
 rcases h with rfl|rfl|rfl|rfl|⟨h1,h2,h3,h4⟩
 all_goals
  go_enter func118,ntmps118;go_wp2_with(first
   |(go_at_call 127;refine(KQ _ _ _).mono ?_;rintro e w' ⟨rfl,n1,rfl⟩)
   |(go_at_call 128;refine(GX _ _ _ (Dk _) (Dk _)).mono ?_;rintro e w' ⟨rfl,n2,rfl⟩))
  go_ret2;exact⟨Uj (by simp[xL, *]) (by simp[mR, *]),_,rfl⟩
def L8(op a b:Int):Bool:=
 if op=25 then a==b else if op=26 then a !=b else if op=27 then decide (a<b)else if op=28 then decide (IntKind.u64.wrap a<IntKind.u64.wrap b)else if op=29 then decide (a<=b)else decide (IntKind.u64.wrap a<=IntKind.u64.wrap b)
theorem FZ(op a b:Int)(w:World):
  Calls prog 119 #[.int .i64 op,.int .i64 a,.int .i64 b] w λe w'=>e= .returned (.bool (L8 op a b))/\w=w':=by
 have h:op=25\/op=26\/op=27\/op=28\/op=29\/(op≠25/\op≠26/\op≠27/\op≠28/\op≠29):=by omega
 rcases h with rfl|rfl|rfl|rfl|rfl|⟨h1,h2,h3,h4,h5⟩
 all_goals
  go_enter func119,ntmps119;go_wp2;go_ret;exact⟨eO (by simp[L8, *]),rfl⟩
theorem TM(b:Int):0<=bits .and .u64 (IntKind.u64.wrap b) 63:=by
 rw[IntKind.wrap_u64,u64_and _ _ (by omega) (by omega) (by omega) (by omega)];omega
def wT(t:Bool):Int:=if t then 1 else 0
def YS(b:Int):Int:=bits .and .u64 (IntKind.u64.wrap b) 63
def bO(op a b:Int):Int:=
 if op=12 then wrap64 (a+b)else if op=13 then wrap64 (a-b)else if op=14 then wrap64 (a*b)
 else if op=19 then bits .and .i64 a b else if op=20 then bits .or .i64 a b else if op=21 then bits .xor .i64 a b
 else if op=22 then wrap64 (a*2^min (YS b).toNat 64)else if op=23 then wrap64 (IntKind.u64.wrap a/2^min (YS b).toNat 64)else if op=24 then a/2^min (YS b).toNat 64
 else if mR op then xL op a b else wT (L8 op a b)
theorem qP(op a b:Int)(w:World)(h0:12<=op)(h1:op<=30):
  Calls prog 102 #[.int .i64 op,.int .i64 a,.int .i64 b] w λe w'=>e= .returned (.int .i64 (bO op a b))/\∃n,w'=w.drewN n:=by
 have h:op=12\/op=13\/op=14\/op=15\/op=16\/op=17\/op=18\/op=19\/op=20\/op=21\/op=22\/op=23\/op=24\/op=25\/op=26\/op=27\/op=28\/op=29\/op=30:=by omega
 rcases h with rfl|rfl|rfl|rfl|rfl|rfl|rfl|rfl|rfl|rfl|rfl|rfl|rfl|rfl|rfl|rfl|rfl|rfl|rfl
 all_goals
  have hb:=TM b;go_enter func102,ntmps102;go_wp2_with(first
   |(go_at_call 118;refine(Je _ _ _ _).mono ?_;rintro e w' ⟨rfl,n1,rfl⟩)
   |(go_at_call 119;refine(FZ _ _ _ _).mono ?_;rintro e w' ⟨rfl,rfl⟩))
  all_goals go_ret
  all_goals exact⟨jU (by simp[bO,YS,mR,wT, *]),_,rfl⟩
theorem NA(x k:Nat):x &&& (2^k-1)=x%2^k:=Nat.and_two_pow_sub_one_eq_mod x k
theorem JN(k:Nat)(hk:k<=64):(2:Int)^k∣ 18446744073709551616:=
 ⟨2^(64-k),by rw[<-Int.pow_add,show k+(64-k)=64 by omega];decide⟩
theorem BG(n:Int)(k:Nat)(m:Int)(hk:k<=64)(hm:m=2^k-1):bits .and .u64 (IntKind.u64.wrap n) m=n%2^k:=by
 have hp:(2:Int)^k∣ 18446744073709551616:=JN k hk;have h1:(2:Int)^k<=18446744073709551616:=Int.le_of_dvd (by decide) hp;have h0:(0:Int)<2^k:=Int.pow_pos (by decide);rw[IntKind.wrap_u64,u64_and _ _ (by omega) (by omega) (by omega) (by omega)];have Fo:m.toNat=2^k-1:=by
  have:((2^k:Nat):Int)=(2:Int)^k:=by simp
  omega
 rw[Fo,NA];have h2:((((n%18446744073709551616).toNat%2^k:Nat)):Int)=(n%18446744073709551616)%(2:Int)^k:=by
  rw[Int.natCast_emod,Int.toNat_of_nonneg (by omega)];simp
 rw[h2,Int.emod_emod_of_dvd _ hp]
theorem YU(n:Int):bits .and .u64 (IntKind.u64.wrap n) 255=n%256:=BG n 8 255 (by decide) (by decide)
theorem VG(n:Int):bits .and .u64 (IntKind.u64.wrap n) 65535=n%65536:=BG n 16 65535 (by decide) (by decide)
theorem VF(n:Int):bits .and .u64 (IntKind.u64.wrap n) 4294967295=n%4294967296:=BG n 32 4294967295 (by decide) (by decide)
theorem Ho(m:Int)(k:Nat)(t:Int)(hk:k<=64)(h0:0<=m)(h1:m<2^k)(ht0:0<=t)(Q2:t<18446744073709551616)(hd:t%2^k=0):
  bits .or .u64 m t=t+m:=by
 have hp:(2:Int)^k∣ 18446744073709551616:=JN k hk;have hle:(2:Int)^k<=18446744073709551616:=Int.le_of_dvd (by decide) hp;rw[u64_or _ _ h0 (by omega) ht0 Q2,Nat.or_comm,nat_join k]
 ·omega
 ·have:((t.toNat%2^k:Nat):Int)=0:=by
   rw[Int.natCast_emod,Int.toNat_of_nonneg ht0];simpa using hd
  omega
 ·have:((2^k:Nat):Int)=(2:Int)^k:=by simp
  omega
def jm(b:Int)(s:Bool)(n:Int):Int:=
 if s then
  if b=8 then(n+128)%256-128 else if b=16 then(n+32768)%65536-32768 else if b=32 then(n+2147483648)%4294967296-2147483648 else n
 else if b=8 then n%256 else if b=16 then n%65536 else if b=32 then n%4294967296 else n
theorem Qx(n:Int)(h:n%256/128=1):wrap64 (bits .or .u64 (n%256) (IntKind.u64.wrap 4722366482869645213440))=(n+128)%256-128:=by
 rw[IntKind.wrap_u64,Ho _ 8 _ (by decide) (by omega) (by omega) (by decide) (by decide) (by decide)];unfold wrap64;omega
theorem T8(n:Int)(h:¬n%256/128=1):wrap64 (n%256)=(n+128)%256-128:=by
 unfold wrap64;omega
theorem Nh(n:Int)(h:n%65536/32768=1):wrap64 (bits .or .u64 (n%65536) (IntKind.u64.wrap 1208925819614629174640640))=(n+32768)%65536-32768:=by
 rw[IntKind.wrap_u64,Ho _ 16 _ (by decide) (by omega) (by omega) (by decide) (by decide) (by decide)];unfold wrap64;omega
theorem Qz(n:Int)(h:¬n%65536/32768=1):wrap64 (n%65536)=(n+32768)%65536-32768:=by
 unfold wrap64;omega
theorem Ng(n:Int)(h:n%4294967296/2147483648=1):wrap64 (bits .or .u64 (n%4294967296) (IntKind.u64.wrap 79228162514264337589248983040))=(n+2147483648)%4294967296-2147483648:=by
 rw[IntKind.wrap_u64,Ho _ 32 _ (by decide) (by omega) (by omega) (by decide) (by decide) (by decide)];unfold wrap64;omega
theorem Qy(n:Int)(h:¬n%4294967296/2147483648=1):wrap64 (n%4294967296)=(n+2147483648)%4294967296-2147483648:=by
 unfold wrap64;omega
theorem zx8(n:Int):wrap64 (n%256)=n%256:=by unfold wrap64;omega
theorem zx16(n:Int):wrap64 (n%65536)=n%65536:=by unfold wrap64;omega
theorem zx32(n:Int):wrap64 (n%4294967296)=n%4294967296:=by unfold wrap64;omega
theorem i8_in(n:Int):wrap64 (IntKind.i8.wrap n)=(n+128)%256-128:=by
 simp[IntKind.wrap,IntKind.bits,IntKind.signed,wrap64];split<;>omega
theorem i16_in(n:Int):wrap64 (IntKind.i16.wrap n)=(n+32768)%65536-32768:=by
 simp[IntKind.wrap,IntKind.bits,IntKind.signed,wrap64];split<;>omega
theorem i32_in(n:Int):wrap64 (wrap32 n)=(n+2147483648)%4294967296-2147483648:=by
 unfold wrap64 wrap32;omega
theorem u16_in(n:Int):wrap64 (IntKind.u16.wrap n)=n%65536:=by
 rw[IntKind.wrap_u16];unfold wrap64;omega
def Va(kind n:Int):Int:=
 if kind=1 then jm 8 true n else if kind=2 then jm 8 false n else if kind=3 then jm 16 true n else if kind=4 then jm 16 false n else if kind=5 then jm 32 true n else if kind=6 then jm 32 false n else n
def EH(op n:Int):Int:=
 if op=31 then jm 8 true n else if op=32 then jm 16 true n else if op=33 then jm 32 true n else if op=34 then jm 8 false n else if op=35 then jm 16 false n else jm 32 false n
theorem O8(n:Int):jm 8 true n=(n+128)%256-128:=by simp[jm]
theorem Kb(n:Int):jm 16 true n=(n+32768)%65536-32768:=by simp[jm]
theorem Ka(n:Int):jm 32 true n=(n+2147483648)%4294967296-2147483648:=by simp[jm]
theorem RJ(n:Int):jm 8 false n=n%256:=by simp[jm]
theorem Pa(n:Int):jm 16 false n=n%65536:=by simp[jm]
theorem O9(n:Int):jm 32 false n=n%4294967296:=by simp[jm]
theorem DX(b:Int)(s:Bool)(n:Int)(h0:-9223372036854775808<=n)(h1:n<=9223372036854775807):-9223372036854775808<=jm b s n/\jm b s n<=9223372036854775807:=by
 unfold jm;cases s<;>simp only[if_true,if_false,Bool.false_eq_true]<;>(repeat' split)<;>omega
theorem TY(op n:Int)(h0:-9223372036854775808<=n)(h1:n<=9223372036854775807):-9223372036854775808<=EH op n/\EH op n<=9223372036854775807:=by
 unfold EH
 (repeat' split)<;>exact DX _ _ _ h0 h1
theorem Ky(t:Bool)(w:World):
  Calls prog 121 #[.bool t] w λe w'=>e= .returned (.int .i64 (wT t))/\w=w':=by
 cases t
 all_goals
  go_enter func121,ntmps121;go_wp2;go_ret;exact⟨rfl,rfl⟩
theorem Lc(op:Int)(w:World):
  Calls prog 123 #[.int .i64 op] w λe w'=>e= .returned (.bool (decide (12<=op/\op<=30)))/\w=w':=by
 go_enter func123,ntmps123;go_wp2
 all_goals go_ret
 ·exact⟨eO (by simp[*]),rfl⟩
 ·exact⟨eO (by simp;omega),rfl⟩
theorem M6(b:Int)(h0:-9223372036854775808<=b)(h1:b<=9223372036854775807)(h:b≠0):¬IntKind.u64.wrap b=0:=by
 rw[IntKind.wrap_u64];omega
theorem Qv(a:Int):a.tmod (-1)=0:=by
 rw[Int.tmod_neg];simp
theorem Dm(op a b:Int)(w:World)(h:op=12\/op=13\/op=14\/op=19\/op=20\/op=21\/op=22\/op=23\/op=24\/op=25\/op=26\/op=27\/op=28\/op=29\/op=30):
  Calls prog 108 #[.int .i64 op,.int .i64 a,.int .i64 b] w λe w'=>e= .returned (.int .i64 (bO op a b))/\w=w':=by
 rcases h with rfl|rfl|rfl|rfl|rfl|rfl|rfl|rfl|rfl|rfl|rfl|rfl|rfl|rfl|rfl
 all_goals
  have hb:=TM b;go_enter func108,ntmps108;go_wp2_with(first
   |(go_at_call 121;refine(Ky _ _).mono ?_;rintro e w' ⟨rfl,rfl⟩))
  go_ret;exact⟨jU (by simp[bO,YS,mR,L8]),rfl⟩
theorem BU(a:Int)(h0:-9223372036854775808<=a)(h1:a<=9223372036854775807):wrap64 (IntKind.u64.wrap a)=a:=by
 rw[IntKind.wrap_u64];unfold wrap64;omega
theorem zh:IntKind.u64.wrap 0=0:=by decide
theorem T4(a:Int):bO 15 a 0= -1:=by simp[bO,mR,xL,pO]
theorem T3(a:Int):bO 16 a 0= -1:=by simp[bO,mR,xL,uO,zh]
theorem T1(a:Int):bO 17 a 0=a:=by simp[bO,mR,xL,qR]
theorem TZ(a:Int)(h0:-9223372036854775808<=a)(h1:a<=9223372036854775807):bO 18 a 0=a:=by simp[bO,mR,xL,uN,zh,BU a h0 h1]
theorem T6(a:Int)(h:a= -9223372036854775808):bO 15 a (-1)=a:=by simp[bO,mR,xL,pO,h]
theorem T5(a:Int)(h:¬a= -9223372036854775808):bO 15 a (-1)=wrap64 (-a):=by simp[bO,mR,xL,pO,h]
theorem T2(a:Int):bO 17 a (-1)=0:=by
 have h:=Qv a;simp[bO,mR,xL,qR,h]
theorem ER(op a:Int)(w:World)(h0:-9223372036854775808<=a)(h1:a<=9223372036854775807)(h:op=15\/op=16\/op=17\/op=18):
  Calls prog 108 #[.int .i64 op,.int .i64 a,.int .i64 0] w λe w'=>e= .returned (.int .i64 (bO op a 0))/\w=w':=by
 rcases h with rfl|rfl|rfl|rfl
 all_goals
  go_enter func108,ntmps108;go_wp2;go_ret
 ·exact⟨jU (T4 a).symm,rfl⟩
 ·exact⟨jU (T3 a).symm,rfl⟩
 ·exact⟨jU (T1 a).symm,rfl⟩
 ·exact⟨jU (TZ a h0 h1).symm,rfl⟩
theorem KO(op a:Int)(w:World)(h:op=15\/op=17):
  Calls prog 108 #[.int .i64 op,.int .i64 a,.int .i64 (-1)] w λe w'=>e= .returned (.int .i64 (bO op a (-1)))/\w=w':=by
 rcases h with rfl|rfl
 ·by_cases ha:a= -9223372036854775808
  ·have ha':(a== -9223372036854775808)=true:=by simpa using ha
   have H:=ae (T6 a ha);clear ha;go_enter func108,ntmps108;go_wp2;go_ret;exact⟨jU H.out.symm,rfl⟩
  ·have ha':(a== -9223372036854775808)=false:=by simpa using ha
   have H:=ae (T5 a ha);clear ha;go_enter func108,ntmps108;go_wp2;go_ret;exact⟨jU H.out.symm,rfl⟩
 ·go_enter func108,ntmps108;go_wp2;go_ret;exact⟨jU (T2 a).symm,rfl⟩
theorem Hi(op a b:Int)(w:World)(h:op=15\/op=17)(hz:¬b=0)(hm:¬b= -1):
  Calls prog 108 #[.int .i64 op,.int .i64 a,.int .i64 b] w λe w'=>e= .returned (.int .i64 (bO op a b))/\w=w':=by
 have hz':(b==0)=false:=by simpa using hz
 have P9:(b== -1)=false:=by simpa using hm
 rcases h with rfl|rfl
 all_goals
  go_enter func108,ntmps108;go_wp2;go_ret;exact⟨jU (by simp[bO,mR,xL,pO,qR,hz,hm]),rfl⟩
theorem ES(op a b:Int)(w:World)(h:op=16\/op=18)(hz:¬b=0)(hu:¬IntKind.u64.wrap b=0):
  Calls prog 108 #[.int .i64 op,.int .i64 a,.int .i64 b] w λe w'=>e= .returned (.int .i64 (bO op a b))/\w=w':=by
 have hz':(b==0)=false:=by simpa using hz
 have hp:=Dk a;rcases h with rfl|rfl
 all_goals
  go_enter func108,ntmps108;go_wp2;go_ret;exact⟨jU (by simp[bO,mR,xL,uO,uN,hu]),rfl⟩
theorem dJ(op a b:Int)(w:World)(h0:12<=op)(h1:op<=30)(ha0:-9223372036854775808<=a)(ha1:a<=9223372036854775807)(hb0:-9223372036854775808<=b)(hb1:b<=9223372036854775807):
  Calls prog 108 #[.int .i64 op,.int .i64 a,.int .i64 b] w λe w'=>e= .returned (.int .i64 (bO op a b))/\w=w':=by
 by_cases hp:op=15\/op=16\/op=17\/op=18
 ·by_cases hz:b=0
  ·subst hz;exact ER op a w ha0 ha1 hp
  ·by_cases ho:op=15\/op=17
   ·by_cases hm:b= -1
    ·subst hm;exact KO op a w ho
    ·exact Hi op a b w ho hz hm
   ·exact ES op a b w (by omega) hz (M6 b hb0 hb1 hz)
 ·exact Dm op a b w (by omega)
theorem uR(n bits:Int)(s:Bool)(w:World)(hb:bits=8\/bits=16\/bits=32):
  Calls prog 66 #[.int .i64 n,.int .i64 bits,.bool s] w λe w'=>e= .returned (.int .i64 (jm bits s n))/\w=w':=by
 have h8:=YU n;have h16:=VG n;have h32:=VF n;rcases hb with rfl|rfl|rfl<;>cases s
 all_goals
  go_enter func66,ntmps66;go_wp2
  all_goals go_ret
  all_goals refine⟨jU ?_,rfl⟩
 ·exact(RJ n).symm
 ·rw[O8];exact Qx n (by simp_all)
 ·rw[O8,<-T8 n (by simp_all),zx8]
 ·exact(Pa n).symm
 ·rw[Kb];exact Nh n (by simp_all)
 ·rw[Kb,<-Qz n (by simp_all),zx16]
 ·exact(O9 n).symm
 ·rw[Ka];exact Ng n (by simp_all)
 ·rw[Ka,<-Qy n (by simp_all),zx32]
theorem AU(op:Int)(w:World):
  Calls prog 89 #[.int .i64 op] w λe w'=>e= .returned (.bool (decide (31<=op/\op<=36)))/\w=w':=by
 go_enter func89,ntmps89;go_wp2
 all_goals go_ret
 ·exact⟨eO (by simp[*]),rfl⟩
 ·exact⟨eO (by simp;omega),rfl⟩
theorem KN(op n:Int)(w:World)(h0:31<=op)(h1:op<=36):
  Calls prog 90 #[.int .i64 op,.int .i64 n] w λe w'=>e= .returned (.int .i64 (EH op n))/\w=w':=by
 have h:op=31\/op=32\/op=33\/op=34\/op=35\/op=36:=by omega
 rcases h with rfl|rfl|rfl|rfl|rfl|rfl
 all_goals
  go_enter func90,ntmps90;go_wp2_with(go_at_call 66;refine(uR _ _ _ _ (by decide)).mono ?_;rintro e w' ⟨rfl,rfl⟩);go_ret;exact⟨jU (by simp[EH]),rfl⟩
def gp(op:Int):Nat:=if op=5\/op=9 then 1 else if op=6\/op=10 then 2 else if op=7\/op=11 then 4 else 8
def iP(op n:Int):Int:=if op=8 then n else jm (8*gp op) (decide (op<=8)) n
theorem oB{op:Int}(h0:5<=op)(h1:op<=11):op=5\/op=6\/op=7\/op=8\/op=9\/op=10\/op=11:=by omega
theorem uX(op:Int)(w:World):
  Calls prog 87 #[.int .i64 op] w λe w'=>e= .returned (.bool (decide (5<=op/\op<=11)))/\w=w':=by
 go_enter func87,ntmps87;go_wp2
 all_goals go_ret
 ·exact⟨eO (by simp[*]),rfl⟩
 ·exact⟨eO (by simp;omega),rfl⟩
theorem qo(op:Int)(w:World)(h0:5<=op)(h1:op<=11):
  Calls prog 106 #[.int .i64 op] w λe w'=>e= .returned (.int .i64 (gp op))/\w=w':=by
 rcases oB h0 h1 with rfl|rfl|rfl|rfl|rfl|rfl|rfl
 all_goals
  go_enter func106,ntmps106;go_wp2;go_ret;exact⟨jU (by decide),rfl⟩
theorem uV(op n:Int)(w:World)(h0:5<=op)(h1:op<=11):
  Calls prog 107 #[.int .i64 op,.int .i64 n] w λe w'=>e= .returned (.int .i64 (iP op n))/\w=w':=by
 rcases oB h0 h1 with rfl|rfl|rfl|rfl|rfl|rfl|rfl
 all_goals
  go_enter func107,ntmps107;go_wp2_with(first
   |(go_at_call 106;refine(qo _ _ (by decide) (by decide)).mono ?_;rintro e w' ⟨rfl,rfl⟩;simp only[gp])
   |(go_at_call 66;refine(uR _ _ _ _ (by decide)).mono ?_;rintro e w' ⟨rfl,rfl⟩))
  go_ret;exact⟨jU (by simp[iP,gp]),rfl⟩
theorem fL(op:Int):1<=gp op/\gp op<=8:=by unfold gp;(repeat' split)<;>omega
def nJ(M:List MO)(op:Int)(a:V):Option V:=
 match qL M a (gp op)with
 |none=>none
 |some j=>
  let v:=(aF M a.obj).l.getD j ⟨0,0⟩
  if 0<v.obj then if op=8 then some v else none else some ⟨0,iP op v.n⟩
theorem K9(pb po:Nat)(A:Option Addr)(n aA B:Nat)(op:Int)(a:V)(M:List MO)(w:World)(hB:B<=w.heap.size)(aZ:pb<w.heap.size)(hc:w.cell? ⟨pb,po,none⟩=some (.slice A n aA))(hM:cT w B A n M)(hk:a.obj≠0->a.obj<n)(hx:a.obj≠0->0<=a.n/\a.n<=512)(h0:5<=op)(h1:op<=11)
  (hF:qL M a (gp op)=none):
  Calls prog 88 #[.pointer (some ⟨pb,po,none⟩),.int .i64 op,.agg #[.int .i64 a.obj,.int .i64 a.n]] w λe w'=>e= .returned (aI none)/\Below w.heap.size w w':=by
 have HC:=ae (λW(hb:Below w.heap.size w W)=>Kf pb po A n aA w.heap.size (gp op) a M W hb.size (kL aZ hb.size) (ag hc hb aZ) (hM.below (hb.mono hB) hB) hk hx (fL op).1 (fL op).2 hF);clear hc hM hF;go_enter func88,ntmps88;go_wp2_with fail;refine cP (by kernel_rfl) (by kernel_rfl) (λhG=>?_)
 repeat(go_big_quiet_step ((first
  |(go_at_call 106;exact iH (qo _ _ h0 h1))
  |(go_at_call 86;exact eP (HC _ (bY (aJ _ _ _) (by simp;omega) _))))))
 refine wpQuiet_nil ?_;rintro⟨w1,hb1⟩;simp only[];obtain⟨hc1,rT⟩:=aY hb1;have hz1:=hb1.size;simp only[World.size_alloc]at hz1;go_wp2_with fail;refine aR (v:=aI none) ?_ rfl ⟨rfl,?_⟩
 ·simp[results,results88,go_sem,aI,hc1]
 ·exact(((aJ _ _ _).trans (hb1.mono (by simp;omega))).setCell (by simp) _).setCell (by simp) _
theorem Hx(pb po:Nat)(mb mo:Nat)(n aA B:Nat)(op:Int)(a:V)(M:List MO)(w:World)(hB:B<=w.heap.size)(aZ:pb<w.heap.size)(hc:w.cell? ⟨pb,po,none⟩=some (.slice (some ⟨mb,mo,none⟩) n aA))(hM:cT w B (some ⟨mb,mo,none⟩) n M)(hk:a.obj<n)(hx0:0<=a.n)(hx:a.n<=512)(h0:5<=op)(h1:op<=11)
  (ob oo len cap' j:Nat)(v:V)(oD:ob<w.heap.size)(c1:w.cell? ⟨mb,mo+a.obj*3+1,none⟩=some (.slice (some ⟨ob,oo,none⟩) len cap'))(hv:bg w ob (oo+j*2) v)(hF:qL M a (gp op)=some j)(hp:0<v.obj)(ho:¬op=8):
  Calls prog 88 #[.pointer (some ⟨pb,po,none⟩),.int .i64 op,.agg #[.int .i64 a.obj,.int .i64 a.n]] w λe w'=>e= .returned (aI (none))/\Below w.heap.size w w':=by
 have eW:mb<w.heap.size:=by
  obtain⟨GH,GG,hA,hlt,_⟩:=hM.get hk;injection hA with hA;injection hA with zB _;omega
 have HC:=ae (λW(hb:Below w.heap.size w W)=>xO pb po mb mo ob oo n aA w.heap.size len cap' (gp op) a M W j hb.size (kL aZ hb.size) (ag hc hb aZ) (hM.below (hb.mono hB) hB) hk hx0 hx (fL op).1 (fL op).2 (ag c1 hb eW) hF);obtain⟨hv0,yD⟩:=hv;clear hc hM hF c1;have MT:(0:Int)<(v.obj:Int):=by omega
 have rL:(op !=8)=true:=by simpa using ho
 go_enter func88,ntmps88;go_wp2_with fail;refine cP (by kernel_rfl) (by kernel_rfl) (λhG=>?_)
 repeat(go_big_quiet_step ((first
  |(go_at_call 106;exact iH (qo _ _ h0 h1))
  |(go_at_call 86;exact eP (HC _ (bY (aJ _ _ _) (by simp;omega) _))))))
 refine wpQuiet_nil ?_;rintro⟨w1,hb1⟩;simp only[];obtain⟨hc1,rT⟩:=aY hb1;have hz1:=hb1.size;simp only[World.size_alloc]at hz1;have e0:w1.cell? ⟨ob,oo+j*2,none⟩=some (.int .i64 v.obj):=ag hv0 ((aJ _ _ _).trans (hb1.mono (by simp;omega))) oD;have e1:w1.cell? ⟨ob,oo+j*2+1,none⟩=some (.int .i64 v.n):=ag yD ((aJ _ _ _).trans (hb1.mono (by simp;omega))) oD;clear hv0 yD;go_wp2_with(go_at_call 107;refine(uV _ _ _ h0 h1).mono ?_;rintro e w' ⟨rfl,rfl⟩);refine aR (v:=aI (none)) ?_ rfl ⟨rfl,?_⟩
 ·simp[results,results88,go_sem,aI,hc1]
 ·exact(((aJ _ _ _).trans (hb1.mono (by simp;omega))).setCell (by simp) _).setCell (by simp) _
theorem Hw(pb po:Nat)(mb mo:Nat)(n aA B:Nat)(op:Int)(a:V)(M:List MO)(w:World)(hB:B<=w.heap.size)(aZ:pb<w.heap.size)(hc:w.cell? ⟨pb,po,none⟩=some (.slice (some ⟨mb,mo,none⟩) n aA))(hM:cT w B (some ⟨mb,mo,none⟩) n M)(hk:a.obj<n)(hx0:0<=a.n)(hx:a.n<=512)(h0:5<=op)(h1:op<=11)
  (ob oo len cap' j:Nat)(v:V)(oD:ob<w.heap.size)(c1:w.cell? ⟨mb,mo+a.obj*3+1,none⟩=some (.slice (some ⟨ob,oo,none⟩) len cap'))(hv:bg w ob (oo+j*2) v)(hF:qL M a (gp op)=some j)(hp:0<v.obj)(ho:op=8):
  Calls prog 88 #[.pointer (some ⟨pb,po,none⟩),.int .i64 op,.agg #[.int .i64 a.obj,.int .i64 a.n]] w λe w'=>e= .returned (aI (some v))/\Below w.heap.size w w':=by
 have eW:mb<w.heap.size:=by
  obtain⟨GH,GG,hA,hlt,_⟩:=hM.get hk;injection hA with hA;injection hA with zB _;omega
 have HC:=ae (λW(hb:Below w.heap.size w W)=>xO pb po mb mo ob oo n aA w.heap.size len cap' (gp op) a M W j hb.size (kL aZ hb.size) (ag hc hb aZ) (hM.below (hb.mono hB) hB) hk hx0 hx (fL op).1 (fL op).2 (ag c1 hb eW) hF);obtain⟨hv0,yD⟩:=hv;clear hc hM hF c1;have MT:(0:Int)<(v.obj:Int):=by omega
 have rL:(op !=8)=false:=by simpa using ho
 clear ho;go_enter func88,ntmps88;go_wp2_with fail;refine cP (by kernel_rfl) (by kernel_rfl) (λhG=>?_)
 repeat(go_big_quiet_step ((first
  |(go_at_call 106;exact iH (qo _ _ h0 h1))
  |(go_at_call 86;exact eP (HC _ (bY (aJ _ _ _) (by simp;omega) _))))))
 refine wpQuiet_nil ?_;rintro⟨w1,hb1⟩;simp only[];obtain⟨hc1,rT⟩:=aY hb1;have hz1:=hb1.size;simp only[World.size_alloc]at hz1;have e0:w1.cell? ⟨ob,oo+j*2,none⟩=some (.int .i64 v.obj):=ag hv0 ((aJ _ _ _).trans (hb1.mono (by simp;omega))) oD;have e1:w1.cell? ⟨ob,oo+j*2+1,none⟩=some (.int .i64 v.n):=ag yD ((aJ _ _ _).trans (hb1.mono (by simp;omega))) oD;clear hv0 yD;go_wp2_with(go_at_call 107;refine(uV _ _ _ h0 h1).mono ?_;rintro e w' ⟨rfl,rfl⟩);refine aR (v:=aI (some v)) ?_ rfl ⟨rfl,?_⟩
 ·simp[results,results88,go_sem,aI,hc1]
 ·exact(((aJ _ _ _).trans (hb1.mono (by simp;omega))).setCell (by simp) _).setCell (by simp) _
theorem NG(pb po:Nat)(mb mo:Nat)(n aA B:Nat)(op:Int)(a:V)(M:List MO)(w:World)(hB:B<=w.heap.size)(aZ:pb<w.heap.size)(hc:w.cell? ⟨pb,po,none⟩=some (.slice (some ⟨mb,mo,none⟩) n aA))(hM:cT w B (some ⟨mb,mo,none⟩) n M)(hk:a.obj<n)(hx0:0<=a.n)(hx:a.n<=512)(h0:5<=op)(h1:op<=11)
  (ob oo len cap' j:Nat)(v:V)(oD:ob<w.heap.size)(c1:w.cell? ⟨mb,mo+a.obj*3+1,none⟩=some (.slice (some ⟨ob,oo,none⟩) len cap'))(hv:bg w ob (oo+j*2) v)(hF:qL M a (gp op)=some j)(hp:¬0<v.obj):
  Calls prog 88 #[.pointer (some ⟨pb,po,none⟩),.int .i64 op,.agg #[.int .i64 a.obj,.int .i64 a.n]] w λe w'=>e= .returned (aI (some ⟨0,iP op v.n⟩))/\Below w.heap.size w w':=by
 have eW:mb<w.heap.size:=by
  obtain⟨GH,GG,hA,hlt,_⟩:=hM.get hk;injection hA with hA;injection hA with zB _;omega
 have HC:=ae (λW(hb:Below w.heap.size w W)=>xO pb po mb mo ob oo n aA w.heap.size len cap' (gp op) a M W j hb.size (kL aZ hb.size) (ag hc hb aZ) (hM.below (hb.mono hB) hB) hk hx0 hx (fL op).1 (fL op).2 (ag c1 hb eW) hF);obtain⟨hv0,yD⟩:=hv;clear hc hM hF c1;have MT:¬(0:Int)<(v.obj:Int):=by omega
 have P7:decide ((0:Int)<(v.obj:Int))=false:=by simpa using MT
 go_enter func88,ntmps88;go_wp2_with fail;refine cP (by kernel_rfl) (by kernel_rfl) (λhG=>?_)
 repeat(go_big_quiet_step ((first
  |(go_at_call 106;exact iH (qo _ _ h0 h1))
  |(go_at_call 86;exact eP (HC _ (bY (aJ _ _ _) (by simp;omega) _))))))
 refine wpQuiet_nil ?_;rintro⟨w1,hb1⟩;simp only[];obtain⟨hc1,rT⟩:=aY hb1;have hz1:=hb1.size;simp only[World.size_alloc]at hz1;have e0:w1.cell? ⟨ob,oo+j*2,none⟩=some (.int .i64 v.obj):=ag hv0 ((aJ _ _ _).trans (hb1.mono (by simp;omega))) oD;have e1:w1.cell? ⟨ob,oo+j*2+1,none⟩=some (.int .i64 v.n):=ag yD ((aJ _ _ _).trans (hb1.mono (by simp;omega))) oD;clear hv0 yD;go_wp2_with(go_at_call 107;refine(uV _ _ _ h0 h1).mono ?_;rintro e w' ⟨rfl,rfl⟩);refine aR (v:=aI (some ⟨0,iP op v.n⟩)) ?_ rfl ⟨rfl,?_⟩
 ·simp[results,results88,go_sem,aI,hc1]
 ·exact(((aJ _ _ _).trans (hb1.mono (by simp;omega))).setCell (by simp) _).setCell (by simp) _
theorem NH(pb po:Nat)(A:Option Addr)(n aA B:Nat)(op:Int)(a:V)(M:List MO)(w:World)(hB:B<=w.heap.size)(aZ:pb<w.heap.size)(hc:w.cell? ⟨pb,po,none⟩=some (.slice A n aA))(hM:cT w B A n M)(hk:a.obj≠0->a.obj<n)(hx:a.obj≠0->0<=a.n/\a.n<=512)(h0:5<=op)(h1:op<=11):
  Calls prog 88 #[.pointer (some ⟨pb,po,none⟩),.int .i64 op,.agg #[.int .i64 a.obj,.int .i64 a.n]] w λe w'=>e= .returned (aI (nJ M op a))/\Below w.heap.size w w':=by
 unfold nJ;cases hF:qL M a (gp op)with
 |none=>exact K9 pb po A n aA B op a M w hB aZ hc hM hk hx h0 h1 hF
 |some j=>
  obtain⟨hx0,hx⟩:=hx (oH hF);have hk:=hk (oH hF);obtain⟨_,_,_,hj⟩:=Eb hF hx0;obtain⟨mb,mo,rfl,eW,A',len,cap',_,c1,_,hl,_,_,_,hrow⟩:=hM.get hk;have mO:(aF M a.obj).l[j]? =some ((aF M a.obj).l.getD j ⟨0,0⟩):=by
   rw[List.getD_eq_getElem?_getD,List.getElem?_eq_getElem hj];rfl
  obtain⟨ob,oo,rfl,oD,hv⟩:=hrow j _ mO;simp only;generalize (aF M a.obj).l.getD j ⟨0,0⟩=v at hv;by_cases hp:0<v.obj
  ·rw[if_pos hp];by_cases ho:op=8
   ·rw[if_pos ho];exact Hw pb po mb mo n aA B op a M w hB aZ hc hM hk hx0 hx h0 h1 ob oo len cap' j v (by omega) c1 hv hF hp ho
   ·rw[if_neg ho];exact Hx pb po mb mo n aA B op a M w hB aZ hc hM hk hx0 hx h0 h1 ob oo len cap' j v (by omega) c1 hv hF hp ho
  ·rw[if_neg hp];exact NG pb po mb mo n aA B op a M w hB aZ hc hM hk hx0 hx h0 h1 ob oo len cap' j v (by omega) c1 hv hF hp
end Go.Proofs.YtikbdplllopjlaaGreat
