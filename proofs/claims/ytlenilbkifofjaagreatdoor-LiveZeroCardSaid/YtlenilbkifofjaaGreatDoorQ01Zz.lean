/- How Go's data lie in memory: rows, slices, trees. No program in sight but its name. No condition. Regions that draw their order and whose callees at most make new blocks; small words on worlds. No program in sight but its name. No condition. Worlds whose writes lie in a set of blocks; whole blocks. No program in sight but its name. No condition. Slices of trees. No program in sight. No condition. Trees whose rows of kids are all blocks of their own. No program in sight but its name. No condition. Regions that draw their order: reads, then a tail in one forced order; the reads by the cheap step. No program in sight but its name. No condition. A row of trees of the call's own that grows by one. No program in sight but its name. No condition. The page's memory and ops (chapters 1, 6, 7), as plain functions. No program in sight. No condition. The walks of num's ops of two numbers. Plain laws of layer 1 (num): what a cut of 8, 16 or 32 bits comes to; no program in sight. No condition. -/
import Derived.Test.YtlenilbkifofjaaGreatDoorRows
import Derived.WalkKit
import Derived.WalkSpells
import Derived.WalkLawsBesides
import Derived.Lib.Hide
import Derived.Deep.QuietTactic
import Derived.BigQuiet
import Derived.StillTailTactics
import Derived.Handy
import Derived.Deep.AppendLies
set_option linter.unusedVariables false
set_option linter.unusedSimpArgs false
set_option maxHeartbeats 8000000
namespace Go.Proofs.YtlenilbkifofjaaGreatDoor
open Go.RowKit
theorem ret_i{k:IntKind}{a b:Int}(h:a=b):Ending.returned (.int k a)= .returned (.int k b):=by rw[h]
theorem ret_b{a b:Bool}(h:a=b):Ending.returned (.bool a)= .returned (.bool b):=by rw[h]
def In64(n:Int):Prop:= -9223372036854775808≤n∧n≤9223372036854775807
theorem in64_of_wf{n:Int}(h:(Lit.int .i64 n).wf=true):In64 n:=by
 have h1:IntKind.i64.min= -9223372036854775808:=rfl;have h2:IntKind.i64.max=9223372036854775807:=rfl;simp only[Lit.wf,Bool.and_eq_true,decide_eq_true_eq]at h;unfold In64;omega
inductive T where
 |node (op n:Int) (kids:List T)
def T.op:T→Int| .node op _ _=>op
def T.n:T→Int| .node _ n _=>n
def T.kids:T→List T| .node _ _ ks=>ks
mutual
def T.size:T→Nat
 | .node _ _ ks=>1+T.sizes ks
def T.sizes:List T→Nat
 |[]=>0
 |k::ks=>k.size+T.sizes ks
end
theorem T.size_pos(t:T):0<t.size:=by cases t;simp[T.size];omega
theorem T.sizes_get{ks:List T}{i:Nat}{k:T}(h:ks[i]? =some k):k.size≤T.sizes ks:=by
 induction ks generalizing i with
 |nil=>simp at h
 |cons a r ih=>
  cases i with
  |zero=>simp at h;subst h;simp[T.sizes]
  |succ i=>simp at h;have:=ih h;simp[T.sizes];omega
theorem T.length_sizes(ks:List T):ks.length≤T.sizes ks:=by
 induction ks with
 |nil=>simp
 |cons a r ih=>have:=a.size_pos;simp[T.sizes];omega
mutual
def TreeAt(w:World)(C:Nat→Nat→Prop):T→Value→Value→Value→Prop
 | .node op n ks,v0,v1,v2=>v0= .int .i64 op∧v1= .int .i64 n∧In64 op∧In64 n∧ks.length≤9223372036854775807∧
   ∃A cap,v2= .slice A ks.length cap∧(0<ks.length→∃b off,A=some ⟨b,off,none⟩∧C b off∧KidsAt w C ks b off)
def KidsAt(w:World)(C:Nat→Nat→Prop):List T→Nat→Nat→Prop
 |[],_,_=>True
 |k::ks,b,off=>(∃v0 v1 v2,w.cell? ⟨b,off,none⟩=some v0∧w.cell? ⟨b,off+1,none⟩=some v1∧w.cell? ⟨b,off+2,none⟩=some v2∧TreeAt w C k v0 v1 v2)∧KidsAt w C ks b (off+3)
end
theorem KidsAt.get{w:World}{C:Nat→Nat→Prop}{ks:List T}{b off i:Nat}{k:T}(h:KidsAt w C ks b off)(hk:ks[i]? =some k):
  ∃v0 v1 v2,w.cell? ⟨b,off+i*3,none⟩=some v0∧w.cell? ⟨b,off+i*3+1,none⟩=some v1∧w.cell? ⟨b,off+i*3+2,none⟩=some v2∧TreeAt w C k v0 v1 v2:=by
 induction ks generalizing i off with
 |nil=>simp at hk
 |cons a r ih=>
  simp only[KidsAt]at h;cases i with
  |zero=>simp at hk;subst hk;simpa using h.1
  |succ i=>
   simp at hk;have:=ih h.2 hk;rw[show off+(i+1)*3=off+3+i*3 by omega];exact this
theorem KidsAt.of{w:World}{C:Nat→Nat→Prop}{ks:List T}{b off:Nat}
  (h:∀i k,ks[i]? =some k→∃v0 v1 v2,w.cell? ⟨b,off+i*3,none⟩=some v0∧w.cell? ⟨b,off+i*3+1,none⟩=some v1∧w.cell? ⟨b,off+i*3+2,none⟩=some v2∧TreeAt w C k v0 v1 v2):KidsAt w C ks b off:=by
 induction ks generalizing off with
 |nil=>simp[KidsAt]
 |cons a r ih=>
  simp only[KidsAt];refine⟨by simpa using h 0 a rfl,ih fun i k hk=>?_⟩;have:=h (i+1) k (by simpa using hk);rw[show off+(i+1)*3=off+3+i*3 by omega]at this;exact this
mutual
theorem TreeAt.keep{w w':World}{C C':Nat→Nat→Prop}(hC:∀b off,C b off→C' b off∧∀j,w'.cell? ⟨b,j,none⟩=w.cell? ⟨b,j,none⟩):
  ∀(t:T){v0 v1 v2:Value},TreeAt w C t v0 v1 v2→TreeAt w' C' t v0 v1 v2
 | .node op n ks,v0,v1,v2,h=>by
  simp only[TreeAt]at h ⊢;obtain⟨h0,h1,h2,h3,h4,A,cap,h5,h6⟩:=h;refine⟨h0,h1,h2,h3,h4,A,cap,h5,fun hp=>?_⟩;obtain⟨b,off,hA,hc,hk⟩:=h6 hp;exact⟨b,off,hA,(hC b off hc).1,KidsAt.keep hC ks (hC b off hc).2 hk⟩
theorem KidsAt.keep{w w':World}{C C':Nat→Nat→Prop}(hC:∀b off,C b off→C' b off∧∀j,w'.cell? ⟨b,j,none⟩=w.cell? ⟨b,j,none⟩):
  ∀(ks:List T){b off:Nat},(∀j,w'.cell? ⟨b,j,none⟩=w.cell? ⟨b,j,none⟩)→KidsAt w C ks b off→KidsAt w' C' ks b off
 |[],b,off,_,_=>by simp[KidsAt]
 |k::ks,b,off,hb,h=>by
  simp only[KidsAt]at h ⊢;obtain⟨⟨v0,v1,v2,c0,c1,c2,ht⟩,hr⟩:=h;exact⟨⟨v0,v1,v2,by rw[hb];exact c0,by rw[hb];exact c1,by rw[hb];exact c2,TreeAt.keep hC k ht⟩,KidsAt.keep hC ks hb hr⟩
end
def Under(B:Nat):Nat→Nat→Prop:=fun b _=>b<B
theorem TreeAt.below{w w':World}{B B':Nat}{t:T}{v0 v1 v2:Value}(h:TreeAt w (Under B) t v0 v1 v2)(hb:Below B w w')(hB:B≤B'):TreeAt w' (Under B') t v0 v1 v2:=
 TreeAt.keep (fun b off(hc:b<B)=>⟨Nat.lt_of_lt_of_le hc hB,fun j=>hb.cell (p:=⟨b,j,none⟩) hc⟩) t h
theorem still_tail{P:Program}{id:Nat}{Q:Exit→Act→World→Prop}{a:Act}{w:World}{l:List Oper}(n:Nat)(hm:P.follows .mixedOrders=true)(hB:Region.lexTailB .any l.toArray n=true)
  (h:wpStill P l.toArray w.drew (fun a'=>wpList P l.toArray Q (l.drop n) a' w.drew) (l.take n) a):(Code.region id l.toArray true).wp P Q a w:=wp_region_still_tail n hm hB h
theorem bcell{W w1:World}(hb:Below W.heap.size W w1):(∀b o,b<W.heap.size→w1.cell? ⟨b,o,none⟩=W.cell? ⟨b,o,none⟩)∧(∀b o,b<W.heap.size→w1.frozen? ⟨b,o,none⟩=W.frozen? ⟨b,o,none⟩):=
 ⟨fun b o h=>hb.cell (p:=⟨b,o,none⟩) h,fun b o h=>hb.frozen (p:=⟨b,o,none⟩) h⟩
def Grows(W:World):Type:={u:World//Below W.heap.size W u}
instance(W:World):Nonempty (Grows W):=⟨⟨W,Below.refl _ _⟩⟩
theorem region_grow{P:Program}{id:Nat}{Q:Exit→Act→World→Prop}{a:Act}{W:World}{l:List Oper}(hm:P.follows .mixedOrders=true)(hB:Region.lexB .any l.toArray=true)
  (h:(∀(u:Grows W)(b o:Nat),b<W.heap.size→u.1.cell? ⟨b,o,none⟩=W.cell? ⟨b,o,none⟩)→wpQuiet P l.toArray (fun w'=>∃u:Grows W,w'=u.1) (fun a'=>∀u:Grows W,Q .normal a' u.1) l a):(Code.region id l.toArray true).wp P Q a W:=by
 have h':=h (fun u b o hb=>u.2.cell (p:=⟨b,o,none⟩) hb);refine wp_region_quiet (C:=fun w'=>∃u:Grows W,w'=u.1) hm hB ⟨⟨W.drew,(Below.refl _ _).drew⟩,rfl⟩ ?_;have e:(fun a'=>∀w',(∃u:Grows W,w'=u.1)→Q .normal a' w')=(fun a'=>∀u:Grows W,Q .normal a' u.1):=by
  funext a'
  exact propext ⟨fun hh u=>hh _ ⟨u,rfl⟩,fun hh w'⟨u,hu⟩=>by rw[hu];exact hh u⟩
 rw[e];simpa using h'
theorem call_grow{P:Program}{f:FuncId}{args:Array Value}{W:World}{u:Grows W}{v:Value}
  (h:Calls P f args u.1 fun e w'=>e= .returned v∧Below u.1.heap.size u.1 w'):Calls P f args u.1 fun e w''=>e= .returned v∧∃u':Grows W,w''=u'.1:=
 h.mono fun _ w'⟨he,hb⟩=>⟨he,⟨w',u.2.trans (hb.mono u.2.size)⟩,rfl⟩
theorem call_grow_same{P:Program}{f:FuncId}{args:Array Value}{W:World}{u:Grows W}{v:Value}
  (h:Calls P f args u.1 fun e w'=>e= .returned v∧u.1=w'):Calls P f args u.1 fun e w''=>e= .returned v∧∃u':Grows W,w''=u'.1:=
 h.mono fun _ _⟨he,hb⟩=>⟨he,u,hb.symm⟩
theorem call_grow_drew{P:Program}{f:FuncId}{args:Array Value}{W:World}{u:Grows W}{v:Value}
  (h:Calls P f args u.1 fun e w'=>e= .returned v∧∃n,w'=u.1.drewN n):Calls P f args u.1 fun e w''=>e= .returned v∧∃u':Grows W,w''=u'.1:=
 h.mono fun _ w'⟨he,n,hb⟩=>⟨he,⟨w',by rw[hb];exact below_drewN u.2 n⟩,rfl⟩
theorem below2(w:World)(o1 o2:Obj):Below w.heap.size w ((w.alloc o1).alloc o2):=((Below.refl _ _).alloc (Nat.le_refl _) o1).alloc (by simp) o2
theorem cell_below{w w':World}{B b o:Nat}{u:Value}(h:w.cell? ⟨b,o,none⟩=some u)(hb:Below B w w')(hlt:b<B):w'.cell? ⟨b,o,none⟩=some u:=(hb.cell (p:=⟨b,o,none⟩) hlt).trans h
theorem below1(w:World)(o1:Obj):Below w.heap.size w (w.alloc o1):=(Below.refl _ _).alloc (Nat.le_refl _) o1
theorem quiet_d2{P:Program}{f:FuncId}{args:Array Value}{w:World}{a n:Nat}{v:Value}
  (h:Calls P f args (w.drewN (a+n)) fun e w'=>e= .returned v∧∃m,w'=(w.drewN (a+n)).drewN m):Calls P f args (w.drewN (a+n)) fun e w''=>e= .returned v∧∃m,w''=w.drewN (a+m):=
 h.mono fun _ _⟨he,m,hm⟩=>⟨he,n+m,by rw[hm,World.drewN_drewN,Nat.add_assoc]⟩
theorem grow_below{B:Nat}{w W:World}(h:Below B w W)(hB:B≤W.heap.size)(u:Grows W):Below B w u.1:=h.trans (u.2.mono hB)
theorem below3(w:World)(o1 o2 o3:Obj):Below w.heap.size w (((w.alloc o1).alloc o2).alloc o3):=(below2 w o1 o2).alloc (by simp;omega) o3
structure Wr (F:Nat→Prop) (w w':World):Prop where
 os:w'.os=w.os
 tape:w'.tape=w.tape
 output:w'.output=w.output
 size:w.heap.size≤w'.heap.size
 block:∀k,k<w.heap.size→¬F k→w'.heap[k]? =w.heap[k]?
theorem Wr.refl(F:Nat→Prop)(w:World):Wr F w w:=⟨rfl,rfl,rfl,Nat.le_refl _,fun _ _ _=>rfl⟩
theorem Wr.trans{F G:Nat→Prop}{a b c:World}(h:Wr F a b)(k:Wr G b c)(hG:∀i,G i→F i∨a.heap.size≤i):Wr F a c:=
 ⟨k.os.trans h.os,k.tape.trans h.tape,k.output.trans h.output,Nat.le_trans h.size k.size,fun i hi hf=>(k.block i (Nat.lt_of_lt_of_le hi h.size) (fun hg=>by rcases hG i hg with h1|h1;exact hf h1;omega)).trans (h.block i hi hf)⟩
theorem Wr.mono{F G:Nat→Prop}{a b:World}(h:Wr F a b)(hG:∀i,F i→G i∨a.heap.size≤i):Wr G a b:=
 (Wr.refl G a).trans h hG
theorem Wr.of_below{F:Nat→Prop}{w w':World}(h:Below w.heap.size w w'):Wr F w w':=⟨h.os,h.tape,h.output,h.size,fun k hk _=>h.block k hk⟩
theorem Wr.below{F:Nat→Prop}{w w':World}{B:Nat}(h:Wr F w w')(hB:B≤w.heap.size)(hF:∀k,F k→B≤k):Below B w w':=
 ⟨h.os,h.tape,h.output,h.size,fun k hk=>h.block k (by omega) (fun hf=>by have:=hF k hf;omega)⟩
theorem Wr.setCell{F:Nat→Prop}(w:World)(a:Addr)(v:Value)(hF:F a.block):Wr F w (w.setCell a v):=
 ⟨rfl,rfl,rfl,by simp,fun k _ hf=>heap_setCell_other w a k v (fun e=>hf (e▸hF))⟩
theorem Wr.grown{F:Nat→Prop}{w w':World}{row:Option Nat}(hg:w.grownBy w' row)(hr:∀k,row=some k→F k):Wr F w w':=
 ⟨hg.os,hg.tape,hg.output,hg.size,fun k hk hf=>hg.block k hk (fun e=>hf (hr k e.symm))⟩
def Row(w:World)(g:Nat)(cs:Array Value)(t:TypeId):Prop:=w.heap[g]? =some (.cells cs t (0,0))
theorem Row.lt{w:World}{g:Nat}{cs:Array Value}{t:TypeId}(h:Row w g cs t):g<w.heap.size:=by
 rcases Nat.lt_or_ge g w.heap.size with h'|h'
 ·exact h'
 ·unfold Row at h;rw[Array.getElem?_eq_none h']at h;cases h
theorem Row.cell{w:World}{g:Nat}{cs:Array Value}{t:TypeId}{v:Value}{j:Nat}(h:Row w g cs t)(hj:cs[j]? =some v):w.cell? ⟨g,j,none⟩=some v:=(cell_of_row w g j cs t (0,0) h).trans hj
theorem Row.free{w:World}{g:Nat}{cs:Array Value}{t:TypeId}(h:Row w g cs t)(j:Nat):w.frozen? ⟨g,j,none⟩=false:=frozen_of_row w g j cs t h
theorem Row.set{w:World}{g:Nat}{cs:Array Value}{t:TypeId}(h:Row w g cs t)(j:Nat)(v:Value):Row (w.setCell ⟨g,j,none⟩ v) g (cs.setIfInBounds j v) t:=heap_setCell_same w g j cs t v h
theorem Row.other{w:World}{g g':Nat}{cs:Array Value}{t:TypeId}(h:Row w g cs t)(hne:g≠g')(j:Nat)(v:Value):Row (w.setCell ⟨g',j,none⟩ v) g cs t:=(heap_setCell_other w ⟨g',j,none⟩ g v hne).trans h
theorem Row.wr{F:Nat→Prop}{w w':World}{g:Nat}{cs:Array Value}{t:TypeId}(h:Row w g cs t)(hw:Wr F w w')(hF:¬F g):Row w' g cs t:=(hw.block g h.lt hF).trans h
theorem Row.below{B:Nat}{w w':World}{g:Nat}{cs:Array Value}{t:TypeId}(h:Row w g cs t)(hw:Below B w w')(hB:g<B):Row w' g cs t:=(hw.block g hB).trans h
theorem Row.new(w:World)(cs:Array Value)(t:TypeId):Row (w.alloc (.cells cs t)) w.heap.size cs t:=heap_alloc_new w _
theorem Row.new'{w:World}{g:Nat}(cs:Array Value)(t:TypeId)(hg:g=w.heap.size):Row (w.alloc (.cells cs t)) g cs t:=hg▸Row.new w cs t
theorem Row.alloc{w:World}{g:Nat}{cs:Array Value}{t:TypeId}(h:Row w g cs t)(o:Obj):Row (w.alloc o) g cs t:=(Below.heap_alloc w o g h.lt).trans h
theorem Row.drew{w:World}{g:Nat}{cs:Array Value}{t:TypeId}(h:Row w g cs t):Row w.drew g cs t:=h
theorem Row.ne{w:World}{g g':Nat}{cs cs':Array Value}{t t':TypeId}(h:Row w g cs t)(h':Row w g' cs' t')(ht:t≠t'):g≠g':=by
 rintro rfl;unfold Row at h h';rw[h]at h';simp at h';exact ht h'.2
theorem ownsRow_wr{F:Nat→Prop}{w w':World}{base:Nat}{e:TypeId}{size:Nat}{v:Value}{n:Nat}{xs:List Value}(h:w.ownsRow base e size v n xs)(hw:Wr F w w')(hF:∀g,v.ownBlock=some g→¬F g):w'.ownsRow base e size v n xs:=by
 obtain⟨h1,h2⟩:=h;refine⟨h1,?_⟩;rcases h2 with h2|⟨g,cap,cur,hv,hg,hh,r⟩
 ·exact Or.inl h2
 ·subst hv;exact Or.inr ⟨g,cap,cur,rfl,hg,Row.wr hh hw (hF g rfl),r⟩
theorem ownsRow_row{w:World}{base:Nat}{e:TypeId}{size:Nat}{v:Value}{n:Nat}{xs:List Value}{g:Nat}(h:w.ownsRow base e size v n xs)(hg:v.ownBlock=some g):base≤g∧∃cs,Row w g cs e:=by
 obtain⟨_,h2⟩:=h;rcases h2 with⟨h2,_⟩|⟨g',cap,cur,hv,hb,hh,_⟩
 ·subst h2;cases hg
 ·subst hv;simp only[Value.ownBlock,Option.some.injEq]at hg;subst hg;exact⟨hb,cur,hh⟩
def KidsV(w:World)(B:Nat)(ks:List T)(A:Option Addr)(n:Nat):Prop:=
 ks.length=n∧n≤9223372036854775807∧(0<n→∃b off,A=some ⟨b,off,none⟩∧b<B∧KidsAt w (Under B) ks b off)
theorem KidsV.get{w:World}{B n:Nat}{ks:List T}{A:Option Addr}(h:KidsV w B ks A n){k:Nat}(hk:k<n):
  ∃b off t v0 v1 v2,A=some ⟨b,off,none⟩∧b<B∧ks[k]? =some t∧w.cell? ⟨b,off+k*3,none⟩=some v0∧w.cell? ⟨b,off+k*3+1,none⟩=some v1∧w.cell? ⟨b,off+k*3+2,none⟩=some v2∧TreeAt w (Under B) t v0 v1 v2:=by
 obtain⟨hl,_,hA⟩:=h;obtain⟨b,off,hA,hb,hK⟩:=hA (by omega);have hget:ks[k]? =some (ks[k]'(by omega)):=List.getElem?_eq_getElem (by omega);obtain⟨v0,v1,v2,h0,h1,h2,ht⟩:=hK.get hget;exact⟨b,off,_,v0,v1,v2,hA,hb,hget,h0,h1,h2,ht⟩
theorem KidsV.below{w w':World}{B B' n:Nat}{ks:List T}{A:Option Addr}(h:KidsV w B ks A n)(hb:Below B w w')(hB:B≤B'):KidsV w' B' ks A n:=by
 obtain⟨h0,h1,h2⟩:=h;refine⟨h0,h1,fun hp=>?_⟩;obtain⟨b,off,hA,hlt,hk⟩:=h2 hp;exact⟨b,off,hA,by omega,KidsAt.keep (fun b off(hc:b<B)=>⟨Nat.lt_of_lt_of_le hc hB,fun j=>hb.cell (p:=⟨b,j,none⟩) hc⟩) ks (fun j=>hb.cell (p:=⟨b,j,none⟩) hlt) hk⟩
theorem list_ext_upto{α:Type}{xs ys:List α}(hl:xs.length=ys.length)(h:∀j,j<xs.length→xs[j]? =ys[j]?):xs=ys:=by
 apply List.ext_getElem?;intro i;by_cases hi:i<xs.length
 ·exact h i hi
 ·rw[List.getElem?_eq_none (by omega),List.getElem?_eq_none (by omega)]
theorem KidsV.of_tree{w:World}{B:Nat}{op n:Int}{ks:List T}{v0 v1 v2:Value}(h:TreeAt w (Under B) (.node op n ks) v0 v1 v2):
  ∃A cap len,v0= .int .i64 op∧v1= .int .i64 n∧In64 op∧In64 n∧v2= .slice A len cap∧KidsV w B ks A len:=by
 simp only[TreeAt]at h;obtain⟨h0,h1,h2,h3,h4,A,cap,h5,h6⟩:=h;exact⟨A,cap,ks.length,h0,h1,h2,h3,h5,rfl,h4,h6⟩
theorem ownsRow_keep{w w':World}{base:Nat}{e:TypeId}{size:Nat}{v:Value}{n:Nat}{xs:List Value}(h:w.ownsRow base e size v n xs)(hk:∀g,v.ownBlock=some g→w'.heap[g]? =w.heap[g]?):w'.ownsRow base e size v n xs:=by
 obtain⟨h1,h2⟩:=h;refine⟨h1,?_⟩;rcases h2 with h2|⟨g,cap,cur,hv,hg,hh,r⟩
 ·exact Or.inl h2
 ·subst hv;exact Or.inr ⟨g,cap,cur,rfl,hg,(hk g rfl).trans hh,r⟩
theorem still_of_quiet{P:Program}{ops:Array Oper}{w:World}{Q:Act→Prop}:∀{l:List Oper}{a:Act},wpQuiet P ops (fun w'=>w'=w) Q l a→wpStill P ops w Q l a:=by
 intro l
 induction l with
 |nil=>intro a h;exact h
 |cons o rest ih=>
  intro a h;unfold wpQuiet at h;unfold wpStill;split
  ·rename_i hw;rw[if_pos hw]at h;obtain⟨v,h1,h2⟩:=h;have h3:=h1 w rfl;unfold Oper.quietAt at h3;unfold Oper.still;generalize (execOp a.eval o).run P w=r at*;cases r with
   |ok n w'=>
    cases n<;>simp only[Oper.quietUpon]at h3<;>simp only[Oper.stillUpon]
    case value u=>obtain⟨e1,e2⟩:=h3;subst e2;exact⟨e1,ih h2⟩
    case skip=>obtain⟨e1,e2⟩:=h3;subst e2;exact⟨e1,ih h2⟩
    case enter f args=>exact⟨h3.1,v,h3.2,ih h2⟩
   |halt x w'=>simp only[Oper.quietUpon]at h3
  ·rename_i hw;rw[if_neg hw]at h;exact ih h
theorem still_tailq{P:Program}{id:Nat}{Q:Exit→Act→World→Prop}{a:Act}{w:World}{l:List Oper}(n:Nat)(hm:P.follows .mixedOrders=true)(hB:Region.lexTailB .any l.toArray n=true)
  (h:wpQuiet P l.toArray (fun w'=>w'=w.drew) (fun a'=>wpList P l.toArray Q (l.drop n) a' w.drew) (l.take n) a):(Code.region id l.toArray true).wp P Q a w:=
 still_tail n hm hB (still_of_quiet h)
theorem wp_letter{P:Program}{c:Code}{a:Act}{w:World}{R:Exit→Act→World→Prop}(h:∀Q:Exit→Act→World→Prop,(∀e a w,R e a w→Q e a w)→Code.wp P c Q a w):Code.wp P c R a w:=
 h R (fun _ _ _ h=>h)
theorem Wr.drewR{F:Nat→Prop}{w w1:World}(h:Wr F w w1):Wr F w w1.drew:=h.trans (Wr.of_below (F:=fun _=>False) (Below.refl _ _).drew) (fun _ h=>h.elim)
theorem Wr.allocR{F:Nat→Prop}{w w1:World}(h:Wr F w w1)(o:Obj):Wr F w (w1.alloc o):=h.trans (Wr.of_below (F:=fun _=>False) (below1 w1 o)) (fun _ h=>h.elim)
theorem Wr.setR{F:Nat→Prop}{w w1:World}(h:Wr F w w1)(r j:Nat)(v:Value)(hF:F r∨w.heap.size≤r):Wr F w (w1.setCell ⟨r,j,none⟩ v):=
 h.trans (Wr.setCell (F:=fun b=>b=r) w1 ⟨r,j,none⟩ v rfl) (fun _ h=>h▸hF)
structure V where
 obj:Nat
 n:Int
deriving DecidableEq
structure MO where
 size:Int
 l:List V
 live:Bool
def MO.bytes(o:MO):Int:=o.size*o.l.length
def mget(M:List MO)(k:Nat):MO:=M.getD k ⟨0,[],false⟩
def movedF(M:List MO)(a:V)(n:Int):Option V:=
 if(mget M a.obj).live=true∧¬n< -a.n∧¬n>(mget M a.obj).bytes-a.n then some ⟨a.obj,a.n+n⟩else none
def cmpF(M:List MO)(a b:V):Bool:=
 (mget M a.obj).live && (mget M b.obj).live && (decide (a.obj=b.obj)||(decide (a.n<(mget M a.obj).bytes)&& decide (b.n<(mget M b.obj).bytes)))
def binF(two:Int→Int→Int→Int)(M:List MO)(op:Int)(a b:V):Option V:=
 if a.obj=0∧b.obj=0 then some ⟨0,two op a.n b.n⟩
 else if op=12∧a.obj=0 then movedF M b a.n
 else if op=12∧b.obj=0 then movedF M a b.n
 else if op=13∧b.obj=0 then if b.n= -9223372036854775808 then none else movedF M a (-b.n)
 else if op=25∨op=26 then
  if a.obj=0∧a.n≠0∨b.obj=0∧b.n≠0 then none
  else if a.obj>0∧b.obj>0∧cmpF M a b=false then none
  else some ⟨0,two op (if a=b then 1 else 0) 1⟩
 else if a.obj≠b.obj∨(mget M a.obj).live=false∨(op≠13∧¬(27≤op∧op≤30))then none
 else some ⟨0,two op a.n b.n⟩
theorem ret_ib{k:IntKind}{a b:Int}{c d:Bool}(h:a=b)(h':c=d):Ending.returned (.tuple #[.int k a,.bool c])= .returned (.tuple #[.int k b,.bool d]):=by rw[h,h']
theorem ret_ii{k k':IntKind}{a b:Int}{c d:Int}(h:a=b)(h':c=d):Ending.returned (.tuple #[.int k a,.int k' c])= .returned (.tuple #[.int k b,.int k' d]):=by rw[h,h']
def partsQ(a b:Int):Int:=if b=0 then-1 else if a= -9223372036854775808∧b= -1 then a else wrap64 (a.tdiv b)
def partsR(a b:Int):Int:=if b=0 then a else if a= -9223372036854775808∧b= -1 then 0 else a.tmod b
def wholeQ(a b:Int):Int:=if b=0 then-1 else wrap64 (IntKind.u64.wrap (a.tdiv b))
def wholeR(a b:Int):Int:=if b=0 then wrap64 a else wrap64 (a%b)
def divR(op a b:Int):Int:=
 if op=15 then partsQ a b else if op=17 then partsR a b else if op=16 then wholeQ (IntKind.u64.wrap a) (IntKind.u64.wrap b)else if op=18 then wholeR (IntKind.u64.wrap a) (IntKind.u64.wrap b)else 0
def isDiv(op:Int):Bool:=decide (op=15∨op=16∨op=17∨op=18)
theorem u64_pos(n:Int):0≤IntKind.u64.wrap n:=wrap_u64_nonneg n
def cmpR(op a b:Int):Bool:=
 if op=25 then a==b else if op=26 then a !=b else if op=27 then decide (a<b)else if op=28 then decide (IntKind.u64.wrap a<IntKind.u64.wrap b)else if op=29 then decide (a≤b)else decide (IntKind.u64.wrap a≤IntKind.u64.wrap b)
theorem by_bd(b:Int):0≤bits .and .u64 (IntKind.u64.wrap b) 63:=by
 rw[IntKind.wrap_u64,u64_and _ _ (by omega) (by omega) (by omega) (by omega)];omega
def tru(t:Bool):Int:=if t then 1 else 0
def byR(b:Int):Int:=bits .and .u64 (IntKind.u64.wrap b) 63
def twoR(op a b:Int):Int:=
 if op=12 then wrap64 (a+b)else if op=13 then wrap64 (a-b)else if op=14 then wrap64 (a*b)
 else if op=19 then bits .and .i64 a b else if op=20 then bits .or .i64 a b else if op=21 then bits .xor .i64 a b
 else if op=22 then wrap64 (a*2^min (byR b).toNat 64)else if op=23 then wrap64 (IntKind.u64.wrap a/2^min (byR b).toNat 64)else if op=24 then a/2^min (byR b).toNat 64
 else if isDiv op then divR op a b else tru (cmpR op a b)
theorem nat_mask(x k:Nat):x &&& (2^k-1)=x%2^k:=Nat.and_two_pow_sub_one_eq_mod x k
theorem two_dvd(k:Nat)(hk:k≤64):(2:Int)^k∣ 18446744073709551616:=
 ⟨2^(64-k),by rw[←Int.pow_add,show k+(64-k)=64 by omega];decide⟩
theorem and_mask(n:Int)(k:Nat)(m:Int)(hk:k≤64)(hm:m=2^k-1):bits .and .u64 (IntKind.u64.wrap n) m=n%2^k:=by
 have hp:(2:Int)^k∣ 18446744073709551616:=two_dvd k hk;have h1:(2:Int)^k≤18446744073709551616:=Int.le_of_dvd (by decide) hp;have h0:(0:Int)<2^k:=Int.pow_pos (by decide);rw[IntKind.wrap_u64,u64_and _ _ (by omega) (by omega) (by omega) (by omega)];have hmn:m.toNat=2^k-1:=by
  have:((2^k:Nat):Int)=(2:Int)^k:=by simp
  omega
 rw[hmn,nat_mask];have h2:((((n%18446744073709551616).toNat%2^k:Nat)):Int)=(n%18446744073709551616)%(2:Int)^k:=by
  rw[Int.natCast_emod,Int.toNat_of_nonneg (by omega)];simp
 rw[h2,Int.emod_emod_of_dvd _ hp]
theorem and_8(n:Int):bits .and .u64 (IntKind.u64.wrap n) 255=n%256:=and_mask n 8 255 (by decide) (by decide)
theorem and_16(n:Int):bits .and .u64 (IntKind.u64.wrap n) 65535=n%65536:=and_mask n 16 65535 (by decide) (by decide)
theorem and_32(n:Int):bits .and .u64 (IntKind.u64.wrap n) 4294967295=n%4294967296:=and_mask n 32 4294967295 (by decide) (by decide)
theorem or_top(m:Int)(k:Nat)(t:Int)(hk:k≤64)(h0:0≤m)(h1:m<2^k)(ht0:0≤t)(ht1:t<18446744073709551616)(hd:t%2^k=0):
  bits .or .u64 m t=t+m:=by
 have hp:(2:Int)^k∣ 18446744073709551616:=two_dvd k hk;have hle:(2:Int)^k≤18446744073709551616:=Int.le_of_dvd (by decide) hp;rw[u64_or _ _ h0 (by omega) ht0 ht1,Nat.or_comm,nat_join k]
 ·omega
 ·have:((t.toNat%2^k:Nat):Int)=0:=by
   rw[Int.natCast_emod,Int.toNat_of_nonneg ht0];simpa using hd
  omega
 ·have:((2^k:Nat):Int)=(2:Int)^k:=by simp
  omega
def cutN(b:Int)(s:Bool)(n:Int):Int:=
 if s then
  if b=8 then(n+128)%256-128 else if b=16 then(n+32768)%65536-32768 else if b=32 then(n+2147483648)%4294967296-2147483648 else n
 else if b=8 then n%256 else if b=16 then n%65536 else if b=32 then n%4294967296 else n
theorem sx8_yes(n:Int)(h:n%256/128=1):wrap64 (bits .or .u64 (n%256) (IntKind.u64.wrap 4722366482869645213440))=(n+128)%256-128:=by
 rw[IntKind.wrap_u64,or_top _ 8 _ (by decide) (by omega) (by omega) (by decide) (by decide) (by decide)];unfold wrap64;omega
theorem sx8_no(n:Int)(h:¬n%256/128=1):wrap64 (n%256)=(n+128)%256-128:=by
 unfold wrap64;omega
theorem sx16_yes(n:Int)(h:n%65536/32768=1):wrap64 (bits .or .u64 (n%65536) (IntKind.u64.wrap 1208925819614629174640640))=(n+32768)%65536-32768:=by
 rw[IntKind.wrap_u64,or_top _ 16 _ (by decide) (by omega) (by omega) (by decide) (by decide) (by decide)];unfold wrap64;omega
theorem sx16_no(n:Int)(h:¬n%65536/32768=1):wrap64 (n%65536)=(n+32768)%65536-32768:=by
 unfold wrap64;omega
theorem sx32_yes(n:Int)(h:n%4294967296/2147483648=1):wrap64 (bits .or .u64 (n%4294967296) (IntKind.u64.wrap 79228162514264337589248983040))=(n+2147483648)%4294967296-2147483648:=by
 rw[IntKind.wrap_u64,or_top _ 32 _ (by decide) (by omega) (by omega) (by decide) (by decide) (by decide)];unfold wrap64;omega
theorem sx32_no(n:Int)(h:¬n%4294967296/2147483648=1):wrap64 (n%4294967296)=(n+2147483648)%4294967296-2147483648:=by
 unfold wrap64;omega
theorem zx8(n:Int):wrap64 (n%256)=n%256:=by unfold wrap64;omega
theorem zx16(n:Int):wrap64 (n%65536)=n%65536:=by unfold wrap64;omega
theorem zx32(n:Int):wrap64 (n%4294967296)=n%4294967296:=by unfold wrap64;omega
theorem i8_in(n:Int):wrap64 (IntKind.i8.wrap n)=(n+128)%256-128:=by
 simp[IntKind.wrap,IntKind.bits,IntKind.signed,wrap64];split<;>omega
theorem i16_in(n:Int):wrap64 (IntKind.i16.wrap n)=(n+32768)%65536-32768:=by
 simp[IntKind.wrap,IntKind.bits,IntKind.signed,wrap64];split<;>omega
theorem i32_in(n:Int):wrap64 (wrap32 n)=(n+2147483648)%4294967296-2147483648:=by
 unfold wrap64 wrap32;omega
theorem u16_in(n:Int):wrap64 (IntKind.u16.wrap n)=n%65536:=by
 rw[IntKind.wrap_u16];unfold wrap64;omega
def cutK(kind n:Int):Int:=
 if kind=1 then cutN 8 true n else if kind=2 then cutN 8 false n else if kind=3 then cutN 16 true n else if kind=4 then cutN 16 false n else if kind=5 then cutN 32 true n else if kind=6 then cutN 32 false n else n
def unR(op n:Int):Int:=
 if op=31 then cutN 8 true n else if op=32 then cutN 16 true n else if op=33 then cutN 32 true n else if op=34 then cutN 8 false n else if op=35 then cutN 16 false n else cutN 32 false n
theorem cutN_8(n:Int):cutN 8 true n=(n+128)%256-128:=by simp[cutN]
theorem cutN_16(n:Int):cutN 16 true n=(n+32768)%65536-32768:=by simp[cutN]
theorem cutN_32(n:Int):cutN 32 true n=(n+2147483648)%4294967296-2147483648:=by simp[cutN]
theorem cutN_8f(n:Int):cutN 8 false n=n%256:=by simp[cutN]
theorem cutN_16f(n:Int):cutN 16 false n=n%65536:=by simp[cutN]
theorem cutN_32f(n:Int):cutN 32 false n=n%4294967296:=by simp[cutN]
theorem cutN_twice(b:Int)(s:Bool)(n:Int):cutN b s (cutN b s n)=cutN b s n:=by
 unfold cutN;cases s<;>simp only[if_true,if_false,Bool.false_eq_true]<;>(repeat' split)<;>omega
theorem unR_twice(op n:Int):unR op (unR op n)=unR op n:=by
 unfold unR
 (repeat' split)<;>rw[cutN_twice]
theorem cutN_lo(b:Int)(s:Bool)(n:Int)(h0:-9223372036854775808≤n)(h1:n≤9223372036854775807):-9223372036854775808≤cutN b s n∧cutN b s n≤9223372036854775807:=by
 unfold cutN;cases s<;>simp only[if_true,if_false,Bool.false_eq_true]<;>(repeat' split)<;>omega
theorem unR_lo(op n:Int)(h0:-9223372036854775808≤n)(h1:n≤9223372036854775807):-9223372036854775808≤unR op n∧unR op n≤9223372036854775807:=by
 unfold unR
 (repeat' split)<;>exact cutN_lo _ _ _ h0 h1
end Go.Proofs.YtlenilbkifofjaaGreatDoor
