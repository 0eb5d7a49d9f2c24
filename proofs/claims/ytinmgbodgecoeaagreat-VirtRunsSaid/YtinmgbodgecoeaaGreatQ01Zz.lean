/- How Go's data lie in memory: rows, slices, trees. No program in sight but its name. No condition. Regions that draw their order and whose callees at most make new blocks; small words on worlds. No program in sight but its name. No condition. Worlds whose writes lie in a set of blocks; whole blocks. No program in sight but its name. No condition. The page's memory and ops (chapters 1, 6, 7), as plain functions. No program in sight. No condition. The page's memory: how it lies, and the walks of its reading functions. Conditions: as stated. The page's memory: an element's place. Conditions: as stated. The walks of num's ops of two numbers. Plain laws of layer 1 (num): what a cut of 8, 16 or 32 bits comes to; no program in sight. No condition. -/
import Derived.Test.YtinmgbodgecoeaaGreatRows
import Derived.WalkKit
import Derived.WalkSpells
import Derived.WalkLawsBesides
import Derived.Lib.Hide
import Derived.Deep.QuietTactic
import Derived.BigQuiet
import Derived.StillTailTactics
import Derived.Handy
set_option linter.unusedSimpArgs false
set_option linter.unusedVariables false
set_option maxHeartbeats 8000000
open Go.Proofs.Tryz
namespace Go.Proofs.YtinmgbodgecoeaaGreat
open Go.RowKit
theorem ae{p:Prop}(h:p):Hid p:=h
theorem aY(n:Nat):n<=n:=Nat.le_refl n
theorem aK{a b:Prop}(h:a):a\/b:=.inl h
theorem bu{a b:Prop}(h:b):a\/b:=.inr h
theorem fQ{a b c:Nat}(h:a<b)(g:b<=c):a<c:=Nat.lt_of_lt_of_le h g
theorem aV(B:Nat)(w:World):Below B w w:=.refl B w
theorem aS{P:Program}{fn:Func}{R:Ending->World->Prop}{a:Act}{w:World}{v:Value}(hr:(results fn a.tmps).run P w= .ok v w)(hd:a.defers=[])(hR:R (.returned v) w):bodyPost P fn R .ret a w:=bodyPost_ret hr hd hR
theorem kZ{k:IntKind}{a b:Int}(h:a=b):Ending.returned (.int k a)= .returned (.int k b):=by rw[h]
theorem iB{a b:Bool}(h:a=b):Ending.returned (.bool a)= .returned (.bool b):=by rw[h]
def In64(n:Int):Prop:= -9223372036854775808<=n/\n<=9223372036854775807
theorem in64_of_wf{n:Int}(h:(Lit.int .i64 n).wf=true):In64 n:=by
 have h1:IntKind.i64.min= -9223372036854775808:=rfl;have h2:IntKind.i64.max=9223372036854775807:=rfl;simp only[Lit.wf,Bool.and_eq_true,decide_eq_true_eq]at h;unfold In64;omega
inductive T where
 |node (op n:Int) (kids:List T)
theorem nI{P:Program}{id:Nat}{Q:Exit->Act->World->Prop}{a:Act}{w:World}{l:List Oper}(n:Nat)(hm:P.follows .mixedOrders=true)(hB:Region.lexTailB .any l.toArray n=true)
  (h:wpStill P l.toArray w.drew (λa'=>wpList P l.toArray Q (l.drop n) a' w.drew) (l.take n) a):(Code.region id l.toArray true).wp P Q a w:=wp_region_still_tail n hm hB h
theorem bL{W w1:World}(hb:Below W.heap.size W w1):(∀b o,b<W.heap.size->w1.cell? ⟨b,o,none⟩=W.cell? ⟨b,o,none⟩)/\(∀b o,b<W.heap.size->w1.frozen? ⟨b,o,none⟩=W.frozen? ⟨b,o,none⟩):=
 ⟨λb o h=>hb.cell (p:=⟨b,o,none⟩) h,λb o h=>hb.frozen (p:=⟨b,o,none⟩) h⟩
def qF(W:World):Type:={u:World//Below W.heap.size W u}
instance(W:World):Nonempty (qF W):=⟨⟨W,aV _ _⟩⟩
theorem eX{P:Program}{id:Nat}{Q:Exit->Act->World->Prop}{a:Act}{W:World}{l:List Oper}(hm:P.follows .mixedOrders=true)(hB:Region.lexB .any l.toArray=true)
  (h:(∀(u:qF W)(b o:Nat),b<W.heap.size->u.1.cell? ⟨b,o,none⟩=W.cell? ⟨b,o,none⟩)->wpQuiet P l.toArray (λw'=>∃u:qF W,w'=u.1) (λa'=>∀u:qF W,Q .normal a' u.1) l a):(Code.region id l.toArray true).wp P Q a W:=by
 have h':=h (λu b o hb=>u.2.cell (p:=⟨b,o,none⟩) hb);refine wp_region_quiet (C:=λw'=>∃u:qF W,w'=u.1) hm hB ⟨⟨W.drew,(aV _ _).drew⟩,rfl⟩ ?_;have e:(λa'=>∀w',(∃u:qF W,w'=u.1)->Q .normal a' w')=(λa'=>∀u:qF W,Q .normal a' u.1):=by
  funext a'
  exact propext ⟨λhh u=>hh _ ⟨u,rfl⟩,λhh w'⟨u,hu⟩=>by rw[hu];exact hh u⟩
 rw[e];simpa using h'
theorem jc{P:Program}{f:FuncId}{args:Array Value}{W:World}{u:qF W}{v:Value}
  (h:Calls P f args u.1 λe w'=>e= .returned v/\Below u.1.heap.size u.1 w'):Calls P f args u.1 λe w''=>e= .returned v/\∃u':qF W,w''=u'.1:=
 h.mono λ_ w'⟨he,hb⟩=>⟨he,⟨w',u.2.trans (hb.mono u.2.size)⟩,rfl⟩
theorem iR{P:Program}{f:FuncId}{args:Array Value}{W:World}{u:qF W}{v:Value}
  (h:Calls P f args u.1 λe w'=>e= .returned v/\u.1=w'):Calls P f args u.1 λe w''=>e= .returned v/\∃u':qF W,w''=u'.1:=
 h.mono λ_ _⟨he,hb⟩=>⟨he,u,hb.symm⟩
theorem mP{P:Program}{f:FuncId}{args:Array Value}{W:World}{u:qF W}{v:Value}
  (h:Calls P f args u.1 λe w'=>e= .returned v/\∃n,w'=u.1.drewN n):Calls P f args u.1 λe w''=>e= .returned v/\∃u':qF W,w''=u'.1:=
 h.mono λ_ w'⟨he,n,hb⟩=>⟨he,⟨w',by rw[hb];exact below_drewN u.2 n⟩,rfl⟩
theorem aB(w:World)(o1 o2:Obj):Below w.heap.size w ((w.alloc o1).alloc o2):=((aV _ _).alloc (aY _) o1).alloc (by simp) o2
theorem ag{w w':World}{B b o:Nat}{u:Value}(h:w.cell? ⟨b,o,none⟩=some u)(hb:Below B w w')(hlt:b<B):w'.cell? ⟨b,o,none⟩=some u:=(hb.cell (p:=⟨b,o,none⟩) hlt).trans h
theorem ax(w:World)(o1:Obj):Below w.heap.size w (w.alloc o1):=(aV _ _).alloc (aY _) o1
theorem FY{P:Program}{f:FuncId}{args:Array Value}{w:World}{a n:Nat}{v:Value}
  (h:Calls P f args (w.drewN (a+n)) λe w'=>e= .returned v/\∃m,w'=(w.drewN (a+n)).drewN m):Calls P f args (w.drewN (a+n)) λe w''=>e= .returned v/\∃m,w''=w.drewN (a+m):=
 h.mono λ_ _⟨he,m,hm⟩=>⟨he,n+m,by rw[hm,World.drewN_drewN,Nat.add_assoc]⟩
theorem cM{B:Nat}{w W:World}(h:Below B w W)(hB:B<=W.heap.size)(u:qF W):Below B w u.1:=h.trans (u.2.mono hB)
theorem aN(w:World)(o1 o2 o3:Obj):Below w.heap.size w (((w.alloc o1).alloc o2).alloc o3):=(aB w o1 o2).alloc (by simp;omega) o3
structure Wr (F:Nat->Prop) (w w':World):Prop where
 os:w'.os=w.os
 tape:w'.tape=w.tape
 output:w'.output=w.output
 size:w.heap.size<=w'.heap.size
 block:∀k,k<w.heap.size->¬F k->w'.heap[k]? =w.heap[k]?
theorem Wr.refl(F:Nat->Prop)(w:World):Wr F w w:=⟨rfl,rfl,rfl,aY _,λ_ _ _=>rfl⟩
theorem Wr.trans{F G:Nat->Prop}{a b c:World}(h:Wr F a b)(k:Wr G b c)(hG:∀i,G i->F i\/a.heap.size<=i):Wr F a c:=
 ⟨k.os.trans h.os,k.tape.trans h.tape,k.output.trans h.output,Nat.le_trans h.size k.size,λi hi hf=>(k.block i (fQ hi h.size) (λhg=>by rcases hG i hg with h1|h1;exact hf h1;omega)).trans (h.block i hi hf)⟩
theorem Wr.mono{F G:Nat->Prop}{a b:World}(h:Wr F a b)(hG:∀i,F i->G i\/a.heap.size<=i):Wr G a b:=
 (Wr.refl G a).trans h hG
theorem Wr.of_below{F:Nat->Prop}{w w':World}(h:Below w.heap.size w w'):Wr F w w':=⟨h.os,h.tape,h.output,h.size,λk hk _=>h.block k hk⟩
theorem eW{w w':World}(h:Below w.heap.size w w'):Wr (λ_=>False) w w':=Wr.of_below h
theorem Wr.below{F:Nat->Prop}{w w':World}{B:Nat}(h:Wr F w w')(hB:B<=w.heap.size)(hF:∀k,F k->B<=k):Below B w w':=
 ⟨h.os,h.tape,h.output,h.size,λk hk=>h.block k (by omega) (λhf=>by have:=hF k hf;omega)⟩
theorem Wr.setCell{F:Nat->Prop}(w:World)(a:Addr)(v:Value)(hF:F a.block):Wr F w (w.setCell a v):=
 ⟨rfl,rfl,rfl,by simp,λk _ hf=>heap_setCell_other w a k v (λe=>hf (e▸hF))⟩
theorem Wr.grown{F:Nat->Prop}{w w':World}{row:Option Nat}(hg:w.grownBy w' row)(hr:∀k,row=some k->F k):Wr F w w':=
 ⟨hg.os,hg.tape,hg.output,hg.size,λk hk hf=>hg.block k hk (λe=>hf (hr k e.symm))⟩
def Row(w:World)(g:Nat)(cs:Array Value)(t:TypeId):Prop:=w.heap[g]? =some (.cells cs t (0,0))
theorem Row.lt{w:World}{g:Nat}{cs:Array Value}{t:TypeId}(h:Row w g cs t):g<w.heap.size:=by
 rcases Nat.lt_or_ge g w.heap.size with h'|h'
 ·exact h'
 ·unfold Row at h;rw[Array.getElem?_eq_none h']at h;cases h
theorem Row.cell{w:World}{g:Nat}{cs:Array Value}{t:TypeId}{v:Value}{j:Nat}(h:Row w g cs t)(hj:cs[j]? =some v):w.cell? ⟨g,j,none⟩=some v:=(cell_of_row w g j cs t (0,0) h).trans hj
theorem Row.free{w:World}{g:Nat}{cs:Array Value}{t:TypeId}(h:Row w g cs t)(j:Nat):w.frozen? ⟨g,j,none⟩=false:=frozen_of_row w g j cs t h
theorem Row.set{w:World}{g:Nat}{cs:Array Value}{t:TypeId}(h:Row w g cs t)(j:Nat)(v:Value):Row (w.setCell ⟨g,j,none⟩ v) g (cs.setIfInBounds j v) t:=heap_setCell_same w g j cs t v h
theorem Row.other{w:World}{g g':Nat}{cs:Array Value}{t:TypeId}(h:Row w g cs t)(hne:g≠g')(j:Nat)(v:Value):Row (w.setCell ⟨g',j,none⟩ v) g cs t:=(heap_setCell_other w ⟨g',j,none⟩ g v hne).trans h
theorem Row.wr{F:Nat->Prop}{w w':World}{g:Nat}{cs:Array Value}{t:TypeId}(h:Row w g cs t)(hw:Wr F w w')(hF:¬F g):Row w' g cs t:=(hw.block g h.lt hF).trans h
theorem Row.below{B:Nat}{w w':World}{g:Nat}{cs:Array Value}{t:TypeId}(h:Row w g cs t)(hw:Below B w w')(hB:g<B):Row w' g cs t:=(hw.block g hB).trans h
theorem Row.new(w:World)(cs:Array Value)(t:TypeId):Row (w.alloc (.cells cs t)) w.heap.size cs t:=heap_alloc_new w _
theorem Row.new'{w:World}{g:Nat}(cs:Array Value)(t:TypeId)(hg:g=w.heap.size):Row (w.alloc (.cells cs t)) g cs t:=hg▸Row.new w cs t
theorem Row.alloc{w:World}{g:Nat}{cs:Array Value}{t:TypeId}(h:Row w g cs t)(o:Obj):Row (w.alloc o) g cs t:=(Below.heap_alloc w o g h.lt).trans h
theorem Row.drew{w:World}{g:Nat}{cs:Array Value}{t:TypeId}(h:Row w g cs t):Row w.drew g cs t:=h
theorem Row.ne{w:World}{g g':Nat}{cs cs':Array Value}{t t':TypeId}(h:Row w g cs t)(h':Row w g' cs' t')(ht:t≠t'):g≠g':=by
 rintro rfl;unfold Row at h h';rw[h]at h';simp at h';exact ht h'.2
theorem aF{F:Nat->Prop}{w w':World}{ai:Nat}{e:TypeId}{size:Nat}{v:Value}{n:Nat}{xs:List Value}(h:w.ownsRow ai e size v n xs)(hw:Wr F w w')(hF:∀g,v.ownBlock=some g->¬F g):w'.ownsRow ai e size v n xs:=by
 obtain⟨h1,h2⟩:=h;refine⟨h1,?_⟩;rcases h2 with h2|⟨g,aA,cur,hv,hg,hh,r⟩
 ·exact aK h2
 ·subst hv;exact bu ⟨g,aA,cur,rfl,hg,Row.wr hh hw (hF g rfl),r⟩
theorem aC{w:World}{ai:Nat}{e:TypeId}{size:Nat}{v:Value}{n:Nat}{xs:List Value}{g:Nat}(h:w.ownsRow ai e size v n xs)(hg:v.ownBlock=some g):ai<=g/\∃cs,Row w g cs e:=by
 obtain⟨_,h2⟩:=h;rcases h2 with⟨h2,_⟩|⟨g',aA,cur,hv,hb,hh,_⟩
 ·subst h2;cases hg
 ·subst hv;simp only[Value.ownBlock,Option.some.injEq]at hg;subst hg;exact⟨hb,cur,hh⟩
structure V where
 obj:Nat
 n:Int
deriving DecidableEq
structure MO where
 size:Int
 l:List V
 live:Bool
def MO.bytes(o:MO):Int:=o.size*o.l.length
def aG(M:List MO)(k:Nat):MO:=M.getD k ⟨0,[],false⟩
def cT(M:List MO)(a:V)(n:Int):Option V:=
 if(aG M a.obj).live=true/\¬n< -a.n/\¬n>(aG M a.obj).bytes-a.n then some ⟨a.obj,a.n+n⟩else none
def qf(M:List MO)(a b:V):Bool:=
 (aG M a.obj).live && (aG M b.obj).live && (decide (a.obj=b.obj)||(decide (a.n<(aG M a.obj).bytes)&& decide (b.n<(aG M b.obj).bytes)))
def dm(two:Int->Int->Int->Int)(M:List MO)(op:Int)(a b:V):Option V:=
 if a.obj=0/\b.obj=0 then some ⟨0,two op a.n b.n⟩
 else if op=12/\a.obj=0 then cT M b a.n
 else if op=12/\b.obj=0 then cT M a b.n
 else if op=13/\b.obj=0 then if b.n= -9223372036854775808 then none else cT M a (-b.n)
 else if op=25\/op=26 then
  if a.obj=0/\a.n≠0\/b.obj=0/\b.n≠0 then none
  else if a.obj>0/\b.obj>0/\qf M a b=false then none
  else some ⟨0,two op (if a=b then 1 else 0) 1⟩
 else if a.obj≠b.obj\/(aG M a.obj).live=false\/(op≠13/\¬(27<=op/\op<=30))then none
 else some ⟨0,two op a.n b.n⟩
def bJ(w:World)(b off:Nat)(v:V):Prop:=w.cell? ⟨b,off,none⟩=some (.int .i64 v.obj)/\w.cell? ⟨b,off+1,none⟩=some (.int .i64 v.n)
def EW(w:World)(B:Nat)(A:Option Addr)(l:List V):Prop:=
 ∀j v,l[j]? =some v->∃b off,A=some ⟨b,off,none⟩/\b<B/\bJ w b (off+j*2) v
def ObjR(w:World)(B mb mo k:Nat)(o:MO):Prop:=
 ∃A len aA,w.cell? ⟨mb,mo+k*3,none⟩=some (.int .i64 o.size)/\w.cell? ⟨mb,mo+k*3+1,none⟩=some (.slice A len aA)/\w.cell? ⟨mb,mo+k*3+2,none⟩=some (.bool o.live)/\
  o.l.length=len/\len<=64/\0<=o.size/\o.size<=8/\EW w B A o.l
def cK(w:World)(B:Nat)(A:Option Addr)(n:Nat)(M:List MO):Prop:=
 M.length=n/\n<=4294967296/\∀k o,M[k]? =some o->∃mb mo,A=some ⟨mb,mo,none⟩/\mb<B/\ObjR w B mb mo k o
theorem qj{M:List MO}{k:Nat}(h:k<M.length):M[k]? =some (aG M k):=by
 unfold aG;rw[List.getD_eq_getElem?_getD,List.getElem?_eq_getElem h];rfl
theorem cK.get{w:World}{B n:Nat}{A:Option Addr}{M:List MO}(h:cK w B A n M){k:Nat}(hk:k<n):
  ∃mb mo,A=some ⟨mb,mo,none⟩/\mb<B/\ObjR w B mb mo k (aG M k):=
 h.2.2 k _ (qj (by rw[h.1];exact hk))
theorem MO.ik{o:MO}(h0:0<=o.size)(h1:o.size<=8)(h2:o.l.length<=64):0<=o.bytes/\o.bytes<=512:=by
 unfold MO.bytes;constructor
 ·exact Int.mul_nonneg h0 (by omega)
 ·have h3:o.size*(o.l.length:Int)<=8*(o.l.length:Int):=Int.mul_le_mul_of_nonneg_right h1 (by omega);omega
theorem lO(pb po:Nat)(A:Option Addr)(n aA k B:Nat)(M:List MO)(w:World)(hc:w.cell? ⟨pb,po,none⟩=some (.slice A n aA))(hM:cK w B A n M)(hk:k<n):
  Calls prog 105 #[.pointer (some ⟨pb,po,none⟩),.int .i64 k] w λe w'=>e= .returned (.int .i64 (aG M k).bytes)/\∃m,w'=w.drewN m:=by
 obtain⟨mb,mo,rfl,_,A',len,cap',c0,c1,_,hl,hl2,hs0,hs1,_⟩:=hM.get hk;have hn:=hM.2.1;have hb:=MO.ik hs0 hs1 (by omega:(aG M k).l.length<=64);have gX:(aG M k).size*(len:Int)=(aG M k).bytes:=by unfold MO.bytes;rw[hl]
 have HB:=ae gX;have hlo:-9223372036854775808<=(aG M k).size*(len:Int)/\(aG M k).size*(len:Int)<=9223372036854775807:=by rw[gX];omega
 obtain⟨GK,Bf⟩:=hlo;have hk0:(0:Int)<=(k:Int):=by omega
 have hk1:(k:Int)<(n:Int):=by omega
 clear hM gX hl hb;go_enter func105,ntmps105;go_wp2_with fail;go_quiet (fail);go_wp2_with fail;go_ret;exact⟨kZ HB.out,_,rfl⟩
theorem bJ.below{w w':World}{B b off:Nat}{v:V}(h:bJ w b off v)(hb:Below B w w')(hlt:b<B):bJ w' b off v:=
 ⟨(hb.cell (p:=⟨b,off,none⟩) hlt).trans h.1,(hb.cell (p:=⟨b,off+1,none⟩) hlt).trans h.2⟩
theorem EW.below{w w':World}{B B':Nat}{A:Option Addr}{l:List V}(h:EW w B A l)(hb:Below B w w')(hB:B<=B'):EW w' B' A l:=by
 intro j v hj;obtain⟨b,off,hA,hlt,hc⟩:=h j v hj;exact⟨b,off,hA,by omega,hc.below hb hlt⟩
theorem cK.below{w w':World}{B B' n:Nat}{A:Option Addr}{M:List MO}(h:cK w B A n M)(hb:Below B w w')(hB:B<=B'):cK w' B' A n M:=by
 refine⟨h.1,h.2.1,λk o hk=>?_⟩;obtain⟨mb,mo,hA,hlt,A',len,aA,c0,c1,c2,h1,h2,h3,h4,h5⟩:=h.2.2 k o hk;exact⟨mb,mo,hA,by omega,A',len,aA,(hb.cell (p:=⟨mb,mo+k*3,none⟩) hlt).trans c0,(hb.cell (p:=⟨mb,mo+k*3+1,none⟩) hlt).trans c1,(hb.cell (p:=⟨mb,mo+k*3+2,none⟩) hlt).trans c2,h1,h2,h3,h4,h5.below hb hB⟩
theorem JR(pb po:Nat)(A:Option Addr)(n aA k B:Nat)(x m:Int)(M:List MO)(w:World)(hB:B<=w.heap.size)(hpb:pb<w.heap.size)(hc:w.cell? ⟨pb,po,none⟩=some (.slice A n aA))(hM:cK w B A n M)(hk:k<n)(hd:(aG M k).live=false):
  Calls prog 87 #[.pointer (some ⟨pb,po,none⟩),.agg #[.int .i64 k,.int .i64 x],.int .i64 m] w λe w'=>e= .returned (.tuple #[.agg #[.int .i64 0,.int .i64 0],.bool false])/\Below w.heap.size w w':=by
 obtain⟨mb,mo,rfl,gV,A',len,cap',c0,c1,c2,hl,hl2,hs0,hs1,_⟩:=hM.get hk;have hmb:mb<w.heap.size:=by omega
 rw[hd]at c2;have hk0:(0:Int)<=(k:Int):=by omega
 have hk1:(k:Int)<(n:Int):=by omega
 have hn:=hM.2.1;clear hM hd hl;go_enter func87,ntmps87;go_wp2_with fail;go_quiet (fail);go_wp2_with fail;refine aS (v:= .tuple #[.agg #[.int .i64 0,.int .i64 0],.bool false]) ?_ rfl ⟨rfl,?_⟩
 ·simp[results,results87,go_sem]
 ·exact((below_drewN (aB _ _ _) _).setCell (by simp) _).setCell (by simp) _
theorem MC(pb po:Nat)(A:Option Addr)(n aA k B:Nat)(x m:Int)(M:List MO)(w:World)(hB:B<=w.heap.size)(hpb:pb<w.heap.size)(hc:w.cell? ⟨pb,po,none⟩=some (.slice A n aA))(hM:cK w B A n M)(hk:k<n)(hd:(aG M k).live=true)
  (hx0:0<=x)(hx1:x<=512)(hm:m< -x):
  Calls prog 87 #[.pointer (some ⟨pb,po,none⟩),.agg #[.int .i64 k,.int .i64 x],.int .i64 m] w λe w'=>e= .returned (.tuple #[.agg #[.int .i64 0,.int .i64 0],.bool false])/\Below w.heap.size w w':=by
 obtain⟨mb,mo,rfl,gV,A',len,cap',c0,c1,c2,hl,hl2,hs0,hs1,_⟩:=hM.get hk;have hmb:mb<w.heap.size:=by omega
 rw[hd]at c2;have hk0:(0:Int)<=(k:Int):=by omega
 have hk1:(k:Int)<(n:Int):=by omega
 have hn:=hM.2.1;have hm':decide (m< -x)=true:=by simpa using hm
 clear hM hd hl;go_enter func87,ntmps87;go_wp2_with fail;go_quiet (fail);go_wp2_with fail;refine aS (v:= .tuple #[.agg #[.int .i64 0,.int .i64 0],.bool false]) ?_ rfl ⟨rfl,?_⟩
 ·simp[results,results87,go_sem]
 ·exact((below_drewN (aB _ _ _) _).setCell (by simp) _).setCell (by simp) _
theorem JQ(pb po:Nat)(A:Option Addr)(n aA k B:Nat)(x m:Int)(M:List MO)(w:World)(hB:B<=w.heap.size)(hpb:pb<w.heap.size)(hc:w.cell? ⟨pb,po,none⟩=some (.slice A n aA))(hM:cK w B A n M)(hk:k<n)(hd:(aG M k).live=true)
  (hx0:0<=x)(hx1:x<=512)(hm:¬m< -x)(hh:(aG M k).bytes-x<m):
  Calls prog 87 #[.pointer (some ⟨pb,po,none⟩),.agg #[.int .i64 k,.int .i64 x],.int .i64 m] w λe w'=>e= .returned (.tuple #[.agg #[.int .i64 0,.int .i64 0],.bool false])/\Below w.heap.size w w':=by
 obtain⟨mb,mo,rfl,gV,A',len,cap',c0,c1,c2,hl,hl2,hs0,hs1,_⟩:=hM.get hk;have hmb:mb<w.heap.size:=by omega
 have hbb:=MO.ik hs0 hs1 (by omega:(aG M k).l.length<=64);rw[hd]at c2;have hk0:(0:Int)<=(k:Int):=by omega
 have hk1:(k:Int)<(n:Int):=by omega
 have hn:=hM.2.1;have hm':decide (m< -x)=false:=by simpa using hm
 have hh':decide ((aG M k).bytes-x<m)=true:=by simpa using hh
 have HM:=ae hM;have HC:=ae hc;obtain⟨hb0,hb1⟩:=hbb;clear hM hd hl;go_enter func87,ntmps87;go_wp2_with fail;go_quiet ((go_at_call 105;exact Calls.quiet_of (lO pb po _ n aA k w.heap.size M _ (ag HC (below_drewN (aB _ _ _) _) hpb) ((HM.out).below (below_drewN ((aB _ _ _).mono hB) _) hB) hk)));go_wp2_with fail;refine aS (v:= .tuple #[.agg #[.int .i64 0,.int .i64 0],.bool false]) ?_ rfl ⟨rfl,?_⟩
 ·simp[results,results87,go_sem]
 ·exact((below_drewN (aB _ _ _) _).setCell (by simp) _).setCell (by simp) _
theorem MB(pb po:Nat)(A:Option Addr)(n aA k B:Nat)(x m:Int)(M:List MO)(w:World)(hB:B<=w.heap.size)(hpb:pb<w.heap.size)(hc:w.cell? ⟨pb,po,none⟩=some (.slice A n aA))(hM:cK w B A n M)(hk:k<n)(hd:(aG M k).live=true)
  (hx0:0<=x)(hx1:x<=512)(hm:¬m< -x)(hh:¬(aG M k).bytes-x<m):
  Calls prog 87 #[.pointer (some ⟨pb,po,none⟩),.agg #[.int .i64 k,.int .i64 x],.int .i64 m] w λe w'=>e= .returned (.tuple #[.agg #[.int .i64 k,.int .i64 (x+m)],.bool true])/\Below w.heap.size w w':=by
 obtain⟨mb,mo,rfl,gV,A',len,cap',c0,c1,c2,hl,hl2,hs0,hs1,_⟩:=hM.get hk;have hmb:mb<w.heap.size:=by omega
 have hbb:=MO.ik hs0 hs1 (by omega:(aG M k).l.length<=64);rw[hd]at c2;have hk0:(0:Int)<=(k:Int):=by omega
 have hk1:(k:Int)<(n:Int):=by omega
 have hn:=hM.2.1;have hm':decide (m< -x)=false:=by simpa using hm
 have hh':decide ((aG M k).bytes-x<m)=false:=by simpa using hh
 have HM:=ae hM;have HC:=ae hc;obtain⟨hb0,hb1⟩:=hbb;clear hM hd hl;go_enter func87,ntmps87;go_wp2_with fail;go_quiet ((go_at_call 105;exact Calls.quiet_of (lO pb po _ n aA k w.heap.size M _ (ag HC (below_drewN (aB _ _ _) _) hpb) ((HM.out).below (below_drewN ((aB _ _ _).mono hB) _) hB) hk)));go_wp2_with fail;refine aS (v:= .tuple #[.agg #[.int .i64 k,.int .i64 (x+m)],.bool true]) ?_ rfl ⟨rfl,?_⟩
 ·simp[results,results87,go_sem]
 ·exact((below_drewN (aB _ _ _) _).setCell (by simp) _).setCell (by simp) _
def aO:Option V->Value
 |some v=> .tuple #[.agg #[.int .i64 v.obj,.int .i64 v.n],.bool true]
 |none=> .tuple #[.agg #[.int .i64 0,.int .i64 0],.bool false]
theorem o7(pb po:Nat)(A:Option Addr)(n aA B:Nat)(a:V)(m:Int)(M:List MO)(w:World)(hB:B<=w.heap.size)(hpb:pb<w.heap.size)(hc:w.cell? ⟨pb,po,none⟩=some (.slice A n aA))(hM:cK w B A n M)(hk:a.obj<n)
  (hx0:0<=a.n)(hx1:a.n<=512):
  Calls prog 87 #[.pointer (some ⟨pb,po,none⟩),.agg #[.int .i64 a.obj,.int .i64 a.n],.int .i64 m] w λe w'=>e= .returned (aO (cT M a m))/\Below w.heap.size w w':=by
 unfold cT;by_cases hd:(aG M a.obj).live=true
 ·by_cases hm:m< -a.n
  ·rw[if_neg (by simp[hm])];exact MC pb po A n aA a.obj B a.n m M w hB hpb hc hM hk hd hx0 hx1 hm
  ·by_cases hh:(aG M a.obj).bytes-a.n<m
   ·rw[if_neg (by simp[hm,hh])];exact JQ pb po A n aA a.obj B a.n m M w hB hpb hc hM hk hd hx0 hx1 hm hh
   ·rw[if_pos ⟨hd,hm,hh⟩];exact MB pb po A n aA a.obj B a.n m M w hB hpb hc hM hk hd hx0 hx1 hm hh
 ·rw[if_neg (by simp[hd])];exact JR pb po A n aA a.obj B a.n m M w hB hpb hc hM hk (by simpa using hd)
theorem SU(pb po s:Nat)(x:Int)(w:World):
  Calls prog 91 #[.pointer (some ⟨pb,po,none⟩),.agg #[.int .i64 0,.int .i64 x],.int .i64 s] w λe w'=>e= .returned (.tuple #[.pointer none,.bool false])/\Below w.heap.size w w':=by
 go_enter func91,ntmps91;go_wp2_with fail;go_ret2;exact⟨rfl,ax _ _⟩
theorem SX(pb po:Nat)(A:Option Addr)(n aA k B:Nat)(x s:Nat)(M:List MO)(w:World)(hB:B<=w.heap.size)(hpb:pb<w.heap.size)(hc:w.cell? ⟨pb,po,none⟩=some (.slice A n aA))(hM:cK w B A n M)(hk:k<n)(hk0:0<k)(_hx:x<=512)(_hs0':1<=s)(_hs1':s<=8)(hd:(aG M k).live=false):
  Calls prog 91 #[.pointer (some ⟨pb,po,none⟩),.agg #[.int .i64 k,.int .i64 x],.int .i64 s] w λe w'=>(e= .returned (.tuple #[.pointer none,.bool false])/\Below w.heap.size w w'):=by
 obtain⟨mb,mo,rfl,gV,A',len,cap',c0,c1,c2,hl,hl2,hs0,hs1,hrow⟩:=hM.get hk;have hmb:mb<w.heap.size:=by omega
 have hk1:(k:Int)<(n:Int):=by omega
 have hk2:((k:Int)==0)=false:=by simp;omega
 have hn:=hM.2.1;rw[hd]at c2;clear hd;have HM:=ae hM;have HC:=ae hc;clear hM hl hrow;go_enter func91,ntmps91;go_wp2_with fail;go_quiet (fail);go_wp2_with fail;go_quiet (fail);go_wp2_with fail;go_ret2;exact⟨rfl,below_drewN (below_drewN (ax _ _) _) _⟩
theorem SV(pb po:Nat)(A:Option Addr)(n aA k B:Nat)(x s:Nat)(M:List MO)(w:World)(hB:B<=w.heap.size)(hpb:pb<w.heap.size)(hc:w.cell? ⟨pb,po,none⟩=some (.slice A n aA))(hM:cK w B A n M)(hk:k<n)(hk0:0<k)(_hx:x<=512)(_hs0':1<=s)(_hs1':s<=8)(hd:(aG M k).live=true)(hs:¬(aG M k).size=s):
  Calls prog 91 #[.pointer (some ⟨pb,po,none⟩),.agg #[.int .i64 k,.int .i64 x],.int .i64 s] w λe w'=>(e= .returned (.tuple #[.pointer none,.bool false])/\Below w.heap.size w w'):=by
 obtain⟨mb,mo,rfl,gV,A',len,cap',c0,c1,c2,hl,hl2,hs0,hs1,hrow⟩:=hM.get hk;have hmb:mb<w.heap.size:=by omega
 have hk1:(k:Int)<(n:Int):=by omega
 have hk2:((k:Int)==0)=false:=by simp;omega
 have hn:=hM.2.1;rw[hd]at c2;have hs':((aG M k).size !=(s:Int))=true:=by simpa using hs
 clear hd hs;have HM:=ae hM;have HC:=ae hc;clear hM hl hrow;go_enter func91,ntmps91;go_wp2_with fail;go_quiet (fail);go_wp2_with fail;go_quiet (fail);go_wp2_with fail;go_ret2;exact⟨rfl,below_drewN (below_drewN (ax _ _) _) _⟩
theorem WC(pb po:Nat)(A:Option Addr)(n aA k B:Nat)(x s:Nat)(M:List MO)(w:World)(hB:B<=w.heap.size)(hpb:pb<w.heap.size)(hc:w.cell? ⟨pb,po,none⟩=some (.slice A n aA))(hM:cK w B A n M)(hk:k<n)(hk0:0<k)(hx:x<=512)(Y8:1<=s)(CX:s<=8)(hd:(aG M k).live=true)(hs:(aG M k).size=s)(ho:¬x%s=0):
  Calls prog 91 #[.pointer (some ⟨pb,po,none⟩),.agg #[.int .i64 k,.int .i64 x],.int .i64 s] w λe w'=>(e= .returned (.tuple #[.pointer none,.bool false])/\Below w.heap.size w w'):=by
 obtain⟨mb,mo,rfl,gV,A',len,cap',c0,c1,c2,hl,hl2,hs0,hs1,hrow⟩:=hM.get hk;have hmb:mb<w.heap.size:=by omega
 have hk1:(k:Int)<(n:Int):=by omega
 have hk2:((k:Int)==0)=false:=by simp;omega
 have hn:=hM.2.1;rw[hd]at c2;rw[hs]at c0;have ho':((x:Int)%(s:Int) !=0)=true:=by simp;omega
 clear hd hs;have HM:=ae hM;have HC:=ae hc;clear hM hl hrow;go_enter func91,ntmps91;go_wp2_with fail;go_quiet (fail);go_wp2_with fail;go_quiet (fail);go_wp2_with fail;go_ret2;exact⟨rfl,below_drewN (below_drewN (ax _ _) _) _⟩
theorem WD(pb po:Nat)(A:Option Addr)(n aA k B:Nat)(x s:Nat)(M:List MO)(w:World)(hB:B<=w.heap.size)(hpb:pb<w.heap.size)(hc:w.cell? ⟨pb,po,none⟩=some (.slice A n aA))(hM:cK w B A n M)(hk:k<n)(hk0:0<k)(hx:x<=512)(Y8:1<=s)(CX:s<=8)(hd:(aG M k).live=true)(hs:(aG M k).size=s)(ho:x%s=0)(hf:(aG M k).bytes<=x):
  Calls prog 91 #[.pointer (some ⟨pb,po,none⟩),.agg #[.int .i64 k,.int .i64 x],.int .i64 s] w λe w'=>(e= .returned (.tuple #[.pointer none,.bool false])/\Below w.heap.size w w'):=by
 obtain⟨mb,mo,rfl,gV,A',len,cap',c0,c1,c2,hl,hl2,hs0,hs1,hrow⟩:=hM.get hk;have hmb:mb<w.heap.size:=by omega
 have hk1:(k:Int)<(n:Int):=by omega
 have hk2:((k:Int)==0)=false:=by simp;omega
 have hn:=hM.2.1;rw[hd]at c2;rw[hs]at c0;have ho':((x:Int)%(s:Int) !=0)=false:=by simp;omega
 have hf':decide ((aG M k).bytes<=(x:Int))=true:=by simpa using hf
 clear hd hs ho hf;have HM:=ae hM;have HC:=ae hc;clear hM hl hrow;go_enter func91,ntmps91;go_wp2_with fail;go_quiet (fail);go_wp2_with fail;go_quiet ((go_at_call 105;exact FY (lO pb po _ n aA k w.heap.size M _ (ag HC (below_drewN (ax _ _) _) hpb) ((HM.out).below (below_drewN ((ax _ _).mono hB) _) hB) hk)));go_wp2_with fail;go_ret2;exact⟨rfl,below_drewN (below_drewN (ax _ _) _) _⟩
theorem kK{x s len:Nat}(h:x<s*len):x/s<len:=by
 exact Nat.div_lt_of_lt_mul h
theorem WB(pb po mb mo ob oo:Nat)(n aA k B len cap':Nat)(x s:Nat)(M:List MO)(w:World)(hB:B<=w.heap.size)(hpb:pb<w.heap.size)(hc:w.cell? ⟨pb,po,none⟩=some (.slice (some ⟨mb,mo,none⟩) n aA))(hM:cK w B (some ⟨mb,mo,none⟩) n M)(hk:k<n)(hk0:0<k)(hx:x<=512)(Y8:1<=s)(CX:s<=8)
  (c1:w.cell? ⟨mb,mo+k*3+1,none⟩=some (.slice (some ⟨ob,oo,none⟩) len cap'))
  (hd:(aG M k).live=true)(hs:(aG M k).size=s)(ho:x%s=0)(hf:¬(aG M k).bytes<=x):
  Calls prog 91 #[.pointer (some ⟨pb,po,none⟩),.agg #[.int .i64 k,.int .i64 x],.int .i64 s] w λe w'=>e= .returned (.tuple #[.pointer (some ⟨ob,oo+x/s*2,none⟩),.bool true])/\Below w.heap.size w w':=by
 obtain⟨Fi,IW,hA,gV,A',len',cap'',c0,c1',c2,hl,hl2,hs0,hs1,hrow⟩:=hM.get hk;injection hA with hA;injection hA with yI hA2;subst yI hA2;rw[c1]at c1';injection c1' with c1';injection c1' with e1 e2 e3;subst e1 e2 e3;have hmb:mb<w.heap.size:=by omega
 have hk1:(k:Int)<(n:Int):=by omega
 have hk2:((k:Int)==0)=false:=by simp;omega
 have hn:=hM.2.1;have hlt:x<s*len:=by
  have:¬((s*len:Nat):Int)<=(x:Int):=by
   have e:((s*len:Nat):Int)=(aG M k).bytes:=by unfold MO.bytes;rw[hs,hl];simp
   rw[e];exact hf
  omega
 have hj:=kK hlt;have rH:((x/s:Nat):Int)<(len:Int):=by omega
 have Sr:(x:Int)/(s:Int)=((x/s:Nat):Int):=by simp
 rw[hd]at c2;rw[hs]at c0;have ho':((x:Int)%(s:Int) !=0)=false:=by simp;omega
 have hf':decide ((aG M k).bytes<=(x:Int))=false:=by simpa using hf
 have HM:=ae hM;have HC:=ae hc;have hj4:(x:Int)/(s:Int)<(len:Int):=by rw[Sr];exact rH
 have hj5:0<=(x:Int)/(s:Int):=by rw[Sr];exact Int.natCast_nonneg _
 have HJ:=ae Sr;have HJ2:=ae hj;clear hM hl hrow hd hs ho hf rH Sr hlt hj;go_enter func91,ntmps91;go_wp2_with fail;go_quiet (fail);go_wp2_with fail;go_quiet ((go_at_call 105;exact FY (lO pb po _ n aA k w.heap.size M _ (ag HC (below_drewN (ax _ _) _) hpb) ((HM.out).below (below_drewN ((ax _ _).mono hB) _) hB) hk)));go_wp2_with fail;go_quiet (fail);go_wp2_with fail;go_ret2;exact⟨rfl,below_drewN (below_drewN (below_drewN (ax _ _) _) _) _⟩
def sP(M:List MO)(a:V)(s:Nat):Option Nat:=
 if 0<a.obj/\(aG M a.obj).live=true/\(aG M a.obj).size=s/\a.n%s=0/\a.n<(aG M a.obj).bytes then some (a.n.toNat/s)else none
theorem LH(pb po:Nat)(A:Option Addr)(n aA B s:Nat)(a:V)(M:List MO)(w:World)(hB:B<=w.heap.size)(hpb:pb<w.heap.size)(hc:w.cell? ⟨pb,po,none⟩=some (.slice A n aA))(hM:cK w B A n M)(hk:a.obj≠0->a.obj<n)(hx:a.obj≠0->0<=a.n/\a.n<=512)(hs0:1<=s)(hs1:s<=8)
  (hF:sP M a s=none):
  Calls prog 91 #[.pointer (some ⟨pb,po,none⟩),.agg #[.int .i64 a.obj,.int .i64 a.n],.int .i64 s] w λe w'=>e= .returned (.tuple #[.pointer none,.bool false])/\Below w.heap.size w w':=by
 obtain⟨obj,x⟩:=a;by_cases h0:obj=0
 ·subst h0;exact SU pb po s _ w
 ·have hk0:0<obj:=by omega
  obtain⟨hx0,hx⟩:=hx h0;obtain⟨x',rfl⟩:=Int.eq_ofNat_of_zero_le hx0;have hk:=hk h0;simp only at hk hx;unfold sP at hF;by_cases hd:(aG M obj).live=true
  ·by_cases hs:(aG M obj).size=s
   ·by_cases ho:x'%s=0
    ·by_cases hf:(aG M obj).bytes<=(x':Int)
     ·exact WD pb po A n aA obj B x' s M w hB hpb hc hM hk hk0 (by omega) hs0 hs1 hd hs ho hf
     ·rw[if_pos ⟨hk0,hd,hs,by simp only;omega,by simp only;omega⟩]at hF;cases hF
    ·exact WC pb po A n aA obj B x' s M w hB hpb hc hM hk hk0 (by omega) hs0 hs1 hd hs ho
   ·exact SV pb po A n aA obj B x' s M w hB hpb hc hM hk hk0 (by omega) hs0 hs1 hd hs
  ·exact SX pb po A n aA obj B x' s M w hB hpb hc hM hk hk0 (by omega) hs0 hs1 (by simpa using hd)
theorem wT(pb po mb mo ob oo:Nat)(n aA B len cap' s:Nat)(a:V)(M:List MO)(w:World)(j:Nat)(hB:B<=w.heap.size)(hpb:pb<w.heap.size)(hc:w.cell? ⟨pb,po,none⟩=some (.slice (some ⟨mb,mo,none⟩) n aA))(hM:cK w B (some ⟨mb,mo,none⟩) n M)(hk:a.obj<n)(hx0:0<=a.n)(hx:a.n<=512)(hs0:1<=s)(hs1:s<=8)
  (c1:w.cell? ⟨mb,mo+a.obj*3+1,none⟩=some (.slice (some ⟨ob,oo,none⟩) len cap'))(hF:sP M a s=some j):
  Calls prog 91 #[.pointer (some ⟨pb,po,none⟩),.agg #[.int .i64 a.obj,.int .i64 a.n],.int .i64 s] w λe w'=>e= .returned (.tuple #[.pointer (some ⟨ob,oo+j*2,none⟩),.bool true])/\Below w.heap.size w w':=by
 obtain⟨obj,x⟩:=a;obtain⟨x',rfl⟩:=Int.eq_ofNat_of_zero_le hx0;unfold sP at hF;by_cases hh:0<obj/\(aG M obj).live=true/\(aG M obj).size=s/\(x':Int)%s=0/\(x':Int)<(aG M obj).bytes
 ·rw[if_pos hh]at hF;obtain⟨hk0,hd,hs,ho,hf⟩:=hh;simp only[Int.toNat_natCast,Option.some.injEq]at hF;subst hF;simp only at hk hx;exact WB pb po mb mo ob oo n aA obj B len cap' x' s M w hB hpb hc hM hk hk0 (by omega) hs0 hs1 c1 hd hs (by omega) (by omega)
 ·rw[if_neg hh]at hF;cases hF
theorem wV{M:List MO}{a:V}{s j:Nat}(h:sP M a s=some j):a.obj≠0:=by
 unfold sP at h;intro h0;simp[h0]at h
theorem KT{M:List MO}{a:V}{s j:Nat}(hF:sP M a s=some j)(hx0:0<=a.n):0<a.obj/\(aG M a.obj).live=true/\(aG M a.obj).size=s/\j<(aG M a.obj).l.length:=by
 unfold sP at hF;by_cases hh:0<a.obj/\(aG M a.obj).live=true/\(aG M a.obj).size=s/\a.n%s=0/\a.n<(aG M a.obj).bytes
 ·rw[if_pos hh]at hF;obtain⟨hk0,hd,hz,ho,hf⟩:=hh;simp only[Option.some.injEq]at hF;subst hF;refine⟨hk0,hd,hz,kK ?_⟩;unfold MO.bytes at hf;rw[hz]at hf;have e:((s*(aG M a.obj).l.length:Nat):Int)=(s:Int)*((aG M a.obj).l.length:Int):=by simp
  have hp:0<=(s:Int)*((aG M a.obj).l.length:Int):=by rw[<-e];exact Int.natCast_nonneg _
  omega
 ·rw[if_neg hh]at hF;cases hF
theorem UB{k:IntKind}{a b:Int}{c d:Bool}(h:a=b)(h':c=d):Ending.returned (.tuple #[.int k a,.bool c])= .returned (.tuple #[.int k b,.bool d]):=by rw[h,h']
theorem Aw{k k':IntKind}{a b:Int}{c d:Int}(h:a=b)(h':c=d):Ending.returned (.tuple #[.int k a,.int k' c])= .returned (.tuple #[.int k b,.int k' d]):=by rw[h,h']
def qJ(a b:Int):Int:=if b=0 then-1 else if a= -9223372036854775808/\b= -1 then a else wrap64 (a.tdiv b)
def rO(a b:Int):Int:=if b=0 then a else if a= -9223372036854775808/\b= -1 then 0 else a.tmod b
def uE(a b:Int):Int:=if b=0 then-1 else wrap64 (IntKind.u64.wrap (a.tdiv b))
def uD(a b:Int):Int:=if b=0 then wrap64 a else wrap64 (a%b)
theorem Me(a b:Int)(w:World):
  Calls prog 117 #[.int .i64 a,.int .i64 b] w λe w'=>e= .returned (.bool (decide (a= -9223372036854775808/\b= -1)))/\w=w':=by
 go_enter func117,ntmps117;go_wp2
 all_goals go_ret
 ·exact⟨iB (by simp_all;rfl),rfl⟩
 ·exact⟨iB (by simp_all),rfl⟩
theorem Mt(a b:Int)(w:World):
  Calls prog 115 #[.int .i64 a,.int .i64 b] w λe w'=>e= .returned (.tuple #[.int .i64 (qJ a b),.int .i64 (rO a b)])/\∃n,w'=w.drewN n:=by
 by_cases hb:b=0
 ·subst hb;go_enter func115,ntmps115;go_wp2;go_ret2;exact⟨Aw (by simp[qJ]) (by simp[rO]),0,rfl⟩
 ·by_cases hr:a= -9223372036854775808/\b= -1
  ·obtain⟨rfl,rfl⟩:=hr;go_enter func115,ntmps115;go_wp2;go_ret2;exact⟨Aw (by simp[qJ]) (by simp[rO]),0,rfl⟩
  ·have hb1:(b==0)=false:=by simpa using hb
   have hr1:decide (a= -9223372036854775808/\b= -1)=false:=by simpa using hr
   go_enter func115,ntmps115;go_wp2_with(first|(go_at_call 117;refine(Me _ _ _).mono ?_;rintro e w' ⟨rfl,rfl⟩));go_quiet (fail);go_wp2;go_ret2;exact⟨Aw (by rw[qJ,if_neg hb,if_neg hr]) (by rw[rO,if_neg hb,if_neg hr]),nq,rfl⟩
theorem IX(a b:Int)(w:World)(h0:0<=a)(h1:0<=b):
  Calls prog 116 #[.int .u64 a,.int .u64 b] w λe w'=>e= .returned (.tuple #[.int .i64 (uE a b),.int .i64 (uD a b)])/\∃n,w'=w.drewN n:=by
 by_cases hb:b=0
 ·subst hb;go_enter func116,ntmps116;go_wp2;go_ret2;exact⟨Aw (by simp[uE]) (by simp[uD]),0,rfl⟩
 ·have hb1:(b==0)=false:=by simpa using hb
  go_enter func116,ntmps116;go_wp2;go_quiet (fail);go_wp2;go_ret2;exact⟨Aw (by rw[uE,if_neg hb]) (by rw[uD,if_neg hb]),nq,rfl⟩
def wP(op a b:Int):Int:=
 if op=15 then qJ a b else if op=17 then rO a b else if op=16 then uE (IntKind.u64.wrap a) (IntKind.u64.wrap b)else if op=18 then uD (IntKind.u64.wrap a) (IntKind.u64.wrap b)else 0
def oL(op:Int):Bool:=decide (op=15\/op=16\/op=17\/op=18)
theorem Ef(n:Int):0<=IntKind.u64.wrap n:=wrap_u64_nonneg n
theorem KE(op a b:Int)(w:World):
  Calls prog 111 #[.int .i64 op,.int .i64 a,.int .i64 b] w λe w'=>e= .returned (.tuple #[.int .i64 (wP op a b),.bool (oL op)])/\∃n,w'=w.drewN n:=by
 have h:op=15\/op=16\/op=17\/op=18\/(op≠15/\op≠16/\op≠17/\op≠18):=by omega
 rcases h with rfl|rfl|rfl|rfl|⟨h1,h2,h3,h4⟩
 all_goals
  go_enter func111,ntmps111;go_wp2_with(first
   |(go_at_call 115;refine(Mt _ _ _).mono ?_;rintro e w' ⟨rfl,n1,rfl⟩)
   |(go_at_call 116;refine(IX _ _ _ (Ef _) (Ef _)).mono ?_;rintro e w' ⟨rfl,n2,rfl⟩))
  go_ret2;exact⟨UB (by simp[wP, *]) (by simp[oL, *]),_,rfl⟩
def Nq(op a b:Int):Bool:=
 if op=25 then a==b else if op=26 then a !=b else if op=27 then decide (a<b)else if op=28 then decide (IntKind.u64.wrap a<IntKind.u64.wrap b)else if op=29 then decide (a<=b)else decide (IntKind.u64.wrap a<=IntKind.u64.wrap b)
theorem He(op a b:Int)(w:World):
  Calls prog 112 #[.int .i64 op,.int .i64 a,.int .i64 b] w λe w'=>e= .returned (.bool (Nq op a b))/\w=w':=by
 have h:op=25\/op=26\/op=27\/op=28\/op=29\/(op≠25/\op≠26/\op≠27/\op≠28/\op≠29):=by omega
 rcases h with rfl|rfl|rfl|rfl|rfl|⟨h1,h2,h3,h4,h5⟩
 all_goals
  go_enter func112,ntmps112;go_wp2;go_ret;exact⟨iB (by simp[Nq, *]),rfl⟩
theorem TN(b:Int):0<=bits .and .u64 (IntKind.u64.wrap b) 63:=by
 rw[IntKind.wrap_u64,u64_and _ _ (by omega) (by omega) (by omega) (by omega)];omega
def vH(t:Bool):Int:=if t then 1 else 0
def byR(b:Int):Int:=bits .and .u64 (IntKind.u64.wrap b) 63
def bF(op a b:Int):Int:=
 if op=12 then wrap64 (a+b)else if op=13 then wrap64 (a-b)else if op=14 then wrap64 (a*b)
 else if op=19 then bits .and .i64 a b else if op=20 then bits .or .i64 a b else if op=21 then bits .xor .i64 a b
 else if op=22 then wrap64 (a*2^min (byR b).toNat 64)else if op=23 then wrap64 (IntKind.u64.wrap a/2^min (byR b).toNat 64)else if op=24 then a/2^min (byR b).toNat 64
 else if oL op then wP op a b else vH (Nq op a b)
theorem rK(op a b:Int)(w:World)(h0:12<=op)(h1:op<=30):
  Calls prog 106 #[.int .i64 op,.int .i64 a,.int .i64 b] w λe w'=>e= .returned (.int .i64 (bF op a b))/\∃n,w'=w.drewN n:=by
 have h:op=12\/op=13\/op=14\/op=15\/op=16\/op=17\/op=18\/op=19\/op=20\/op=21\/op=22\/op=23\/op=24\/op=25\/op=26\/op=27\/op=28\/op=29\/op=30:=by omega
 rcases h with rfl|rfl|rfl|rfl|rfl|rfl|rfl|rfl|rfl|rfl|rfl|rfl|rfl|rfl|rfl|rfl|rfl|rfl|rfl
 all_goals
  have hb:=TN b;go_enter func106,ntmps106;go_wp2_with(first
   |(go_at_call 111;refine(KE _ _ _ _).mono ?_;rintro e w' ⟨rfl,n1,rfl⟩)
   |(go_at_call 112;refine(He _ _ _ _).mono ?_;rintro e w' ⟨rfl,rfl⟩))
  all_goals go_ret
  all_goals exact⟨kZ (by simp[bF,byR,oL,vH, *]),_,rfl⟩
theorem OW(x k:Nat):x &&& (2^k-1)=x%2^k:=Nat.and_two_pow_sub_one_eq_mod x k
theorem Lg(k:Nat)(hk:k<=64):(2:Int)^k∣ 18446744073709551616:=
 ⟨2^(64-k),by rw[<-Int.pow_add,show k+(64-k)=64 by omega];decide⟩
theorem Cv(n:Int)(k:Nat)(m:Int)(hk:k<=64)(hm:m=2^k-1):bits .and .u64 (IntKind.u64.wrap n) m=n%2^k:=by
 have hp:(2:Int)^k∣ 18446744073709551616:=Lg k hk;have h1:(2:Int)^k<=18446744073709551616:=Int.le_of_dvd (by decide) hp;have h0:(0:Int)<2^k:=Int.pow_pos (by decide);rw[IntKind.wrap_u64,u64_and _ _ (by omega) (by omega) (by omega) (by omega)];have hmn:m.toNat=2^k-1:=by
  have:((2^k:Nat):Int)=(2:Int)^k:=by simp
  omega
 rw[hmn,OW];have h2:((((n%18446744073709551616).toNat%2^k:Nat)):Int)=(n%18446744073709551616)%(2:Int)^k:=by
  rw[Int.natCast_emod,Int.toNat_of_nonneg (by omega)];simp
 rw[h2,Int.emod_emod_of_dvd _ hp]
theorem and_8(n:Int):bits .and .u64 (IntKind.u64.wrap n) 255=n%256:=Cv n 8 255 (by decide) (by decide)
theorem WI(n:Int):bits .and .u64 (IntKind.u64.wrap n) 65535=n%65536:=Cv n 16 65535 (by decide) (by decide)
theorem WH(n:Int):bits .and .u64 (IntKind.u64.wrap n) 4294967295=n%4294967296:=Cv n 32 4294967295 (by decide) (by decide)
theorem JK(m:Int)(k:Nat)(t:Int)(hk:k<=64)(h0:0<=m)(h1:m<2^k)(ht0:0<=t)(ht1:t<18446744073709551616)(hd:t%2^k=0):
  bits .or .u64 m t=t+m:=by
 have hp:(2:Int)^k∣ 18446744073709551616:=Lg k hk;have hle:(2:Int)^k<=18446744073709551616:=Int.le_of_dvd (by decide) hp;rw[u64_or _ _ h0 (by omega) ht0 ht1,Nat.or_comm,nat_join k]
 ·omega
 ·have:((t.toNat%2^k:Nat):Int)=0:=by
   rw[Int.natCast_emod,Int.toNat_of_nonneg ht0];simpa using hd
  omega
 ·have:((2^k:Nat):Int)=(2:Int)^k:=by simp
  omega
def kz(b:Int)(s:Bool)(n:Int):Int:=
 if s then
  if b=8 then(n+128)%256-128 else if b=16 then(n+32768)%65536-32768 else if b=32 then(n+2147483648)%4294967296-2147483648 else n
 else if b=8 then n%256 else if b=16 then n%65536 else if b=32 then n%4294967296 else n
theorem Rs(n:Int)(h:n%256/128=1):wrap64 (bits .or .u64 (n%256) (IntKind.u64.wrap 4722366482869645213440))=(n+128)%256-128:=by
 rw[IntKind.wrap_u64,JK _ 8 _ (by decide) (by omega) (by omega) (by decide) (by decide) (by decide)];unfold wrap64;omega
theorem Uv(n:Int)(h:¬n%256/128=1):wrap64 (n%256)=(n+128)%256-128:=by
 unfold wrap64;omega
theorem Ot(n:Int)(h:n%65536/32768=1):wrap64 (bits .or .u64 (n%65536) (IntKind.u64.wrap 1208925819614629174640640))=(n+32768)%65536-32768:=by
 rw[IntKind.wrap_u64,JK _ 16 _ (by decide) (by omega) (by omega) (by decide) (by decide) (by decide)];unfold wrap64;omega
theorem Ru(n:Int)(h:¬n%65536/32768=1):wrap64 (n%65536)=(n+32768)%65536-32768:=by
 unfold wrap64;omega
theorem Oq(n:Int)(h:n%4294967296/2147483648=1):wrap64 (bits .or .u64 (n%4294967296) (IntKind.u64.wrap 79228162514264337589248983040))=(n+2147483648)%4294967296-2147483648:=by
 rw[IntKind.wrap_u64,JK _ 32 _ (by decide) (by omega) (by omega) (by decide) (by decide) (by decide)];unfold wrap64;omega
theorem Rt(n:Int)(h:¬n%4294967296/2147483648=1):wrap64 (n%4294967296)=(n+2147483648)%4294967296-2147483648:=by
 unfold wrap64;omega
theorem zx8(n:Int):wrap64 (n%256)=n%256:=by unfold wrap64;omega
theorem zx16(n:Int):wrap64 (n%65536)=n%65536:=by unfold wrap64;omega
theorem zx32(n:Int):wrap64 (n%4294967296)=n%4294967296:=by unfold wrap64;omega
theorem i8_in(n:Int):wrap64 (IntKind.i8.wrap n)=(n+128)%256-128:=by
 simp[IntKind.wrap,IntKind.bits,IntKind.signed,wrap64];split<;>omega
theorem i16_in(n:Int):wrap64 (IntKind.i16.wrap n)=(n+32768)%65536-32768:=by
 simp[IntKind.wrap,IntKind.bits,IntKind.signed,wrap64];split<;>omega
theorem i32_in(n:Int):wrap64 (wrap32 n)=(n+2147483648)%4294967296-2147483648:=by
 unfold wrap64 wrap32;omega
theorem u16_in(n:Int):wrap64 (IntKind.u16.wrap n)=n%65536:=by
 rw[IntKind.wrap_u16];unfold wrap64;omega
def Vp(kind n:Int):Int:=
 if kind=1 then kz 8 true n else if kind=2 then kz 8 false n else if kind=3 then kz 16 true n else if kind=4 then kz 16 false n else if kind=5 then kz 32 true n else if kind=6 then kz 32 false n else n
def CN(op n:Int):Int:=
 if op=31 then kz 8 true n else if op=32 then kz 16 true n else if op=33 then kz 32 true n else if op=34 then kz 8 false n else if op=35 then kz 16 false n else kz 32 false n
theorem Qf(n:Int):kz 8 true n=(n+128)%256-128:=by simp[kz]
theorem LG(n:Int):kz 16 true n=(n+32768)%65536-32768:=by simp[kz]
theorem LF(n:Int):kz 32 true n=(n+2147483648)%4294967296-2147483648:=by simp[kz]
theorem SM(n:Int):kz 8 false n=n%256:=by simp[kz]
theorem Qh(n:Int):kz 16 false n=n%65536:=by simp[kz]
theorem Qg(n:Int):kz 32 false n=n%4294967296:=by simp[kz]
theorem EJ(b:Int)(s:Bool)(n:Int)(h0:-9223372036854775808<=n)(h1:n<=9223372036854775807):-9223372036854775808<=kz b s n/\kz b s n<=9223372036854775807:=by
 unfold kz;cases s<;>simp only[if_true,if_false,Bool.false_eq_true]<;>(repeat' split)<;>omega
theorem Uj(op n:Int)(h0:-9223372036854775808<=n)(h1:n<=9223372036854775807):-9223372036854775808<=CN op n/\CN op n<=9223372036854775807:=by
 unfold CN
 (repeat' split)<;>exact EJ _ _ _ h0 h1
end Go.Proofs.YtinmgbodgecoeaaGreat
