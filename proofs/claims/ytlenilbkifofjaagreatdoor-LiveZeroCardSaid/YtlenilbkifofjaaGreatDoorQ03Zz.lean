/- The page's machine: an object is made. Conditions: as stated. The page's machine: what a call's walk is asked; its plain parts. No condition. The page's machine: a call's locals, made one by one. No condition. CopyTree, CopyTrees: a tree in memory of its own. Conditions: as stated. A memory of which some blocks alone are looked at; a row of its own whose elements lie in memory of their own. No condition. Virtual code in a memory of which some blocks alone are looked at. No condition. -/
import Derived.Test.YtlenilbkifofjaaGreatDoorMakeZZz
import Derived.Test.YtlenilbkifofjaaGreatDoorQ02Zz
import Derived.Test.YtlenilbkifofjaaGreatDoorQ01Zz
set_option linter.unusedVariables false
set_option linter.unusedSimpArgs false
set_option maxHeartbeats 8000000
namespace Go.Proofs.YtlenilbkifofjaaGreatDoor
open Go.RowKit
def ObOk(o:ObS):Prop:=(o.size=1∨o.size=2∨o.size=4∨o.size=8)∧1≤o.count∧o.count≤64∧(o.init.length:Int)≤o.count
theorem LongsAt.in64{w:World}{B:Nat}{l:List Int}{v:Value}(h:LongsAt w B l v):∀x,x∈l→In64 x:=by
 intro x hx;obtain⟨i,hi⟩:=List.mem_iff_getElem?.1 hx;obtain⟨A,cap,_,_,h2⟩:=h;obtain⟨b,off,_,_,h3⟩:=h2 (by rcases Nat.eq_zero_or_pos l.length with h|h;rw[List.eq_nil_of_length_eq_zero h]at hx;cases hx;exact h);exact(h3 i x hi).2
theorem make_any(pb po base:Nat)(own:Nat→Prop)(memv:Value)(rb:Nat→Nat)(M:List MO)(cs:Array Value)(t:TypeId)(o:ObS)(v:Value)(w:World)
  (hR:Row w pb cs t)(hp:cs[po]? =some memv)(ht:t≠70∧t≠103)(hM:MemW w base own memv rb M)(hmo:∀g,memv.ownBlock=some g→own g)(hown:∀k,own k→base≤k∧k<w.heap.size)(hbs:base≤w.heap.size)(hpb:base≤pb)
  (ho:ObOk o)(hl:LongsAt w base o.init v)(hmany:(memBase M).length+1≤1000000000):
  Calls Tryz.prog 23 #[.pointer (some ⟨pb,po,none⟩),.agg #[.int .i64 o.size,.int .i64 o.count,v]] w fun e w'=>MakeSays base own pb po cs t M o w e w':=by
 obtain⟨h1,h2,h3,h4⟩:=ho;obtain⟨ct,hct⟩:=Int.eq_ofNat_of_zero_le (show 0≤o.count by omega);have hin:=hl.in64;obtain⟨A,cap,rfl,_,_⟩:=id hl;rw[hct];by_cases hMe:M=[]
 ·exact make_first pb po base own memv rb M cs t o ct A _ cap w hR hp ht hM hmo hown hbs hpb hct (by omega) (by omega) (by omega) hl h1 hin hmany hMe
 ·exact make_more pb po base own memv rb M cs t o ct A _ cap w hR hp ht hM hmo hown hbs hpb hct (by omega) (by omega) (by omega) hl h1 hin hmany hMe
def ProgAt(w:World)(B:Nat)(P:Value×Value×Value)(p:ProgS):Prop:=
 SliceAt w B 3 (ObE w B) p.globs P.1∧SliceAt w B 4 (GraphE w B) p.funcs P.2.1∧P.2.2= .int .i64 p.main∧In64 p.main
theorem ProgAt.below{w w':World}{B:Nat}{P:Value×Value×Value}{p:ProgS}(h:ProgAt w B P p)(hb:Below B w w'):ProgAt w' B P p:=
 ⟨h.1.below hb (Nat.le_refl _) fun _ _ h=>h.below hb (Nat.le_refl _),h.2.1.below hb (Nat.le_refl _) fun _ _ h=>h.below hb (Nat.le_refl _),h.2.2⟩
structure Kept (fuel:Int) (s:St) (tp:List V) (lo:List Nat) (ng:Nat) (s':St) (tp':List V):Prop where
 inv:GInv fuel s'
 fr:FrOk (memBase s'.mem) tp' lo ng
 calls:s'.calls=s.calls
 grow:(memBase s.mem).length≤(memBase s'.mem).length
 steps:s.steps≤s'.steps
 len:tp'.length=tp.length
theorem countsF_append(a b:List ObS):countsF (a++b)=countsF a+countsF b:=by
 induction a with
 |nil=>simp[countsF]
 |cons o l ih=>simp[countsF,ih];omega
theorem countsF_bd{l:List ObS}(h:∀o,o∈l→ObOk o):(l.length:Int)≤countsF l∧countsF l≤64*l.length:=by
 induction l with
 |nil=>simp[countsF]
 |cons o l ih=>
  have h1:=ih fun x hx=>h x (List.mem_cons_of_mem _ hx);obtain⟨_,h2,h3,_⟩:=h o (by simp);simp only[countsF,List.length_cons];omega
theorem makesF_append(M:List MO)(a b:List ObS):makesF M (a++b)=makesF (makesF M a) b:=by
 induction a generalizing M with
 |nil=>rfl
 |cons o l ih=>exact ih _
theorem makeF_length(M:List MO)(o:ObS):(makeF M o).length=(memBase M).length+1:=by simp[makeF_eq]
theorem memBase_length(M:List MO):(memBase M).length=if M=[]then 1 else M.length:=by
 unfold memBase;split<;>rfl
theorem makesF_length(M:List MO)(l:List ObS):(makesF M l).length=if l=[]then M.length else(memBase M).length+l.length:=by
 induction l generalizing M with
 |nil=>rfl
 |cons o l ih=>
  simp only[makesF,ih];have h1:=makeF_length M o;have h2:memBase (makeF M o)=makeF M o:=by unfold memBase;rw[if_neg (by intro h;rw[h]at h1;simp at h1)]
  rw[h2,h1];by_cases h:l=[]
  ·simp[h]
  ·simp[h];omega
theorem int_info:(Tryz.prog.info? 3).map (fun i=>(i.zero,i.size,i.bytes))=some (some (.int .i64 0),1,8):=by kernel_rfl
theorem memBase_makes(M:List MO)(l:List ObS):(memBase (makesF M l)).length=(memBase M).length+l.length:=by
 have h:=makesF_length M l;by_cases hl:l=[]
 ·subst hl;rfl
 ·rw[if_neg hl]at h;have hp:=memBase_pos M;rw[memBase_length,if_neg (by intro e;rw[e]at h;simp at h;omega),h]
theorem memBase_makes_take(M:List MO)(l:List ObS)(k:Nat)(hk:k≤l.length):(memBase (makesF M (l.take k))).length=(memBase M).length+k:=by rw[memBase_makes,List.length_take,Nat.min_eq_left hk]
theorem numsF_succ(M:List MO)(k:Nat):numsF M (k+1)=numsF M k++[(memBase M).length+k]:=by
 unfold numsF;rw[List.range_succ,List.map_append,memBase_length];rfl
theorem numsF_length(M:List MO)(k:Nat):(numsF M k).length=k:=by simp[numsF]
theorem own_drew0{w:World}{base:Nat}{e:TypeId}{size:Nat}{v:Value}{n:Nat}{xs:List Value}(h:w.ownsRow base e size v n xs):w.drew.ownsRow base e size v n xs:=
 ownsRow_wr h (Wr.of_below (F:=fun _=>False) (Below.refl _ _).drew) (fun _ _ h=>h)
theorem own_one{w:World}{base:Nat}{e:TypeId}{size:Nat}{v:Value}{n:Nat}{xs:List Value}(h:w.ownsRow base e size v n xs)(o:Obj):(w.alloc o).ownsRow base e size v n xs:=
 ownsRow_wr h (Wr.of_below (F:=fun _=>False) (below1 w o)) (fun _ _ h=>h)
theorem ValCells.wr1{F:Nat→Prop}{w w':World}{b off:Nat}{v:V}(h:ValCells w b off v)(hw:Wr F w w')(hF:¬F b)(hlt:b<w.heap.size):ValCells w' b off v:=
 ⟨(World.cell?_of_block (a:=⟨b,off,none⟩) (hw.block b hlt hF)).trans h.1,(World.cell?_of_block (a:=⟨b,off+1,none⟩) (hw.block b hlt hF)).trans h.2⟩
theorem ValCells.wr2{F G:Nat→Prop}{w w1 w2:World}{b off:Nat}{v:V}(h:ValCells w b off v)(hw:Wr F w w1)(hF:¬F b)(hlt:b<w.heap.size)(hw2:Wr G w1 w2)(hG:¬G b)(hlt2:b<w1.heap.size):ValCells w2 b off v:=
 (h.wr1 hw hF hlt).wr1 hw2 hG hlt2
theorem start_next{args:List V}{k nt:Nat}{v:V}(hk:k<nt)(hv:args[k]? =some v)(hn:k<args.length):(args.take k++List.replicate (nt-k) (⟨0,0⟩:V)).set k v=args.take (k+1)++List.replicate (nt-(k+1)) (⟨0,0⟩:V):=by
 have h1:(args.take k).length=k:=by rw[List.length_take];omega
 rw[List.take_add_one,hv,List.set_append_right _ _ (by omega),h1,Nat.sub_self];rw[show nt-k=(nt-(k+1))+1 by omega,List.replicate_succ];simp
theorem cells_new(w:World)(cs:List Value)(t:TypeId):∀(j:Nat)(u:Value),cs[j]? =some u→(w.alloc (.cells cs.toArray t)).cell? ((⟨w.heap.size,0,none⟩:Addr).add j)=some u:=by
 intro j u hj;rw[addr0];exact(Row.new w cs.toArray t).cell (by simpa using hj)
end Go.Proofs.YtlenilbkifofjaaGreatDoor
namespace Go.Proofs.YtlenilbkifofjaaGreatDoor
open Go.RowKit
def Sub(w w':World):Prop:=∀p v,w.cell? p=some v→w'.cell? p=some v
theorem Sub.refl(w:World):Sub w w:=fun _ _ h=>h
theorem Sub.trans{a b c:World}(h:Sub a b)(k:Sub b c):Sub a c:=fun p v x=>k p v (h p v x)
theorem Sub.of_below{w w':World}(h:Below w.heap.size w w'):Sub w w':=by
 intro p v hv;have hlt:p.block<w.heap.size:=by
  unfold World.cell? at hv;rcases Nat.lt_or_ge p.block w.heap.size with hl|hl
  ·exact hl
  ·rw[Array.getElem?_eq_none hl]at hv;cases hv
 rw[World.cell?_of_block (h.block _ hlt)];exact hv
open Classical in
noncomputable def only(w:World)(S:Nat→Prop):World:={w with heap:=Array.ofFn (n:=w.heap.size) fun i=>if S i.1 then w.heap[i.1]else .stringIter ByteArray.empty 0}
theorem only_size(w:World)(S:Nat→Prop):(only w S).heap.size=w.heap.size:=by simp[only]
theorem only_in{w:World}{S:Nat→Prop}{k:Nat}(h:S k):(only w S).heap[k]? =w.heap[k]? :=by
 rcases Nat.lt_or_ge k w.heap.size with hl|hl
 ·simp[only,hl,h]
 ·rw[Array.getElem?_eq_none (by rw[only_size];exact hl),Array.getElem?_eq_none hl]
theorem only_wr(w:World)(S:Nat→Prop):Wr (fun k=>¬S k) w (only w S):=
 ⟨rfl,rfl,rfl,by rw[only_size];exact Nat.le_refl _,fun k _ h=>only_in (Classical.not_not.1 h)⟩
theorem only_cell{w:World}{S:Nat→Prop}{p:Addr}{v:Value}(h:(only w S).cell? p=some v):S p.block∧p.block<w.heap.size∧w.cell? p=some v:=by
 have hlt:p.block<w.heap.size:=by
  unfold World.cell? at h;rcases Nat.lt_or_ge p.block w.heap.size with hl|hl
  ·exact hl
  ·rw[Array.getElem?_eq_none (by rw[only_size];exact hl)]at h;cases h
 by_cases hs:S p.block
 ·rw[World.cell?_of_block (only_in hs)]at h;exact⟨hs,hlt,h⟩
 ·unfold World.cell? at h;simp[only,hlt,hs]at h
theorem only_sub(w:World)(S:Nat→Prop):Sub (only w S) w:=fun _ _ h=>(only_cell h).2.2
theorem only_mono{w w':World}{S S':Nat→Prop}(h:∀k,S k→k<w.heap.size→S' k∧w'.heap[k]? =w.heap[k]?):Sub (only w S) (only w' S'):=by
 intro p v hv;obtain⟨h1,h2,h3⟩:=only_cell hv;obtain⟨h4,h5⟩:=h _ h1 h2;rw[World.cell?_of_block (only_in h4),World.cell?_of_block h5];exact h3
def Mono{α:Type}(E:World→Nat→(Nat→Option Value)→α→Prop)(sz:Nat):Prop:=
 ∀w w' B B' c c' x,Sub w w'→B≤B'→(∀j v,j<sz→c j=some v→c' j=some v)→E w B c x→E w' B' c' x
theorem SliceAt.sub{α:Type}{E:World→Nat→(Nat→Option Value)→α→Prop}{sz:Nat}(hE:Mono E sz){w w':World}{B B':Nat}{l:List α}{v:Value}(h:SliceAt w B sz (E w B) l v)(hs:Sub w w')(hB:B≤B'):SliceAt w' B' sz (E w' B') l v:=by
 obtain⟨A,cap,h0,h1,h2⟩:=h;refine⟨A,cap,h0,h1,fun hp=>?_⟩;obtain⟨b,off,hA,hlt,hx⟩:=h2 hp;exact⟨b,off,hA,by omega,fun i x hi=>hE _ _ _ _ _ _ _ hs hB (fun j v _ hj=>hs _ _ hj) (hx i x hi)⟩
def LongE(_:World)(_:Nat)(c:Nat→Option Value)(x:Int):Prop:=c 0=some (.int .i64 x)∧In64 x
theorem LongE.mono:Mono LongE 1:=fun _ _ _ _ _ _ _ _ _ hc h=>⟨hc _ _ (by decide) h.1,h.2⟩
theorem LongsAt.sub{w w':World}{B B':Nat}{l:List Int}{v:Value}(h:LongsAt w B l v)(hs:Sub w w')(hB:B≤B'):LongsAt w' B' l v:=
 SliceAt.sub (E:=LongE) LongE.mono h hs hB
mutual
theorem TreeAt.sub{w w':World}(hs:Sub w w'){B B':Nat}(hB:B≤B'):∀(t:T){v0 v1 v2:Value},TreeAt w (Under B) t v0 v1 v2→TreeAt w' (Under B') t v0 v1 v2
 | .node op n ks,v0,v1,v2,h=>by
  simp only[TreeAt]at h ⊢;obtain⟨h0,h1,h2,h3,h4,A,cap,h5,h6⟩:=h;refine⟨h0,h1,h2,h3,h4,A,cap,h5,fun hp=>?_⟩;obtain⟨b,off,hA,hc,hk⟩:=h6 hp;exact⟨b,off,hA,Nat.lt_of_lt_of_le hc hB,KidsAt.sub hs hB ks hk⟩
theorem KidsAt.sub{w w':World}(hs:Sub w w'){B B':Nat}(hB:B≤B'):∀(ks:List T){b off:Nat},KidsAt w (Under B) ks b off→KidsAt w' (Under B') ks b off
 |[],b,off,_=>by simp[KidsAt]
 |k::ks,b,off,h=>by
  simp only[KidsAt]at h ⊢;obtain⟨⟨v0,v1,v2,c0,c1,c2,ht⟩,hr⟩:=h;exact⟨⟨v0,v1,v2,hs _ _ c0,hs _ _ c1,hs _ _ c2,TreeAt.sub hs hB k ht⟩,KidsAt.sub hs hB ks hr⟩
end
theorem KidsV.sub{w w':World}{B B' n:Nat}{ks:List T}{A:Option Addr}(h:KidsV w B ks A n)(hs:Sub w w')(hB:B≤B'):KidsV w' B' ks A n:=by
 obtain⟨h1,h2,h3⟩:=h;refine⟨h1,h2,fun hp=>?_⟩;obtain⟨b,off,hA,hlt,hk⟩:=h3 hp;exact⟨b,off,hA,by omega,KidsAt.sub hs hB ks hk⟩
theorem TreesAt.sub{w w':World}{B B':Nat}{l:List T}{v:Value}(h:TreesAt w B l v)(hs:Sub w w')(hB:B≤B'):TreesAt w' B' l v:=by
 obtain⟨A,n,cap,h0,h1⟩:=h;exact⟨A,n,cap,h0,h1.sub hs hB⟩
theorem ObE.mono:Mono ObE 3:=by
 intro w w' B B' c c' x hs hB hc h;obtain⟨h0,h1,⟨v,h2,h3⟩,h4⟩:=h;exact⟨hc _ _ (by decide) h0,hc _ _ (by decide) h1,⟨v,hc _ _ (by decide) h2,h3.sub hs hB⟩,h4⟩
theorem StepE.mono:Mono StepE 5:=by
 intro w w' B B' c c' x hs hB hc h;obtain⟨h0,h1,h2,h3,⟨v,h4,h5⟩,h6⟩:=h;exact⟨hc _ _ (by decide) h0,hc _ _ (by decide) h1,hc _ _ (by decide) h2,hc _ _ (by decide) h3,⟨v,hc _ _ (by decide) h4,h5.sub hs hB⟩,h6⟩
theorem BlockE.mono:Mono BlockE 7:=by
 intro w w' B B' c c' x hs hB hc h;obtain⟨⟨v,h0,h1⟩,h2,⟨v0,v1,v2,h3,h4,h5,h6⟩,h7,h8,h9⟩:=h;exact⟨⟨v,hc _ _ (by decide) h0,SliceAt.sub StepE.mono h1 hs hB⟩,hc _ _ (by decide) h2,⟨v0,v1,v2,hc _ _ (by decide) h3,hc _ _ (by decide) h4,hc _ _ (by decide) h5,TreeAt.sub hs hB _ h6⟩,hc _ _ (by decide) h7,hc _ _ (by decide) h8,h9⟩
theorem GraphE.mono:Mono GraphE 4:=by
 intro w w' B B' c c' x hs hB hc h;obtain⟨h0,h1,⟨v,h2,h3⟩,⟨u,h4,h5⟩,h6⟩:=h;exact⟨hc _ _ (by decide) h0,hc _ _ (by decide) h1,⟨v,hc _ _ (by decide) h2,SliceAt.sub ObE.mono h3 hs hB⟩,⟨u,hc _ _ (by decide) h4,SliceAt.sub BlockE.mono h5 hs hB⟩,h6⟩
theorem ProgE.mono:Mono ProgE 3:=by
 intro w w' B B' c c' x hs hB hc h;obtain⟨⟨v,h0,h1⟩,⟨u,h2,h3⟩,h4,h5⟩:=h;exact⟨⟨v,hc _ _ (by decide) h0,SliceAt.sub ObE.mono h1 hs hB⟩,⟨u,hc _ _ (by decide) h2,SliceAt.sub GraphE.mono h3 hs hB⟩,hc _ _ (by decide) h4,h5⟩
def From(N:Nat):Nat→Prop:=fun k=>N≤k
structure RowE {α:Type} (E:World→Nat→(Nat→Option Value)→α→Prop) (ty:TypeId) (sz base:Nat) (w:World) (lv:Value) (l:List α) (xs:List Value):Prop where
 own:w.ownsRow base ty sz lv l.length xs
 elems:∀i x,l[i]? =some x→E (only w (fun b=>base≤b∧¬lv.ownBlock=some b)) w.heap.size (fun j=>xs[i*sz+j]?) x
theorem RowE.nil{α:Type}(E:World→Nat→(Nat→Option Value)→α→Prop)(ty:TypeId)(sz base:Nat)(w:World):RowE E ty sz base w (.slice none 0 0) ([]:List α) []:=
 ⟨by simpa using World.ownsRow_nil w base ty sz,fun i x h=>by simp at h⟩
theorem RowE.lt{α:Type}{E:World→Nat→(Nat→Option Value)→α→Prop}{ty:TypeId}{sz base:Nat}{w:World}{lv:Value}{l:List α}{xs:List Value}(h:RowE E ty sz base w lv l xs){g:Nat}(hg:lv.ownBlock=some g):base≤g∧g<w.heap.size:=by
 obtain⟨h1,cs,h2⟩:=ownsRow_row h.own hg;exact⟨h1,h2.lt⟩
theorem RowE.next{α:Type}{E:World→Nat→(Nat→Option Value)→α→Prop}{sz:Nat}(hE:Mono E sz){ty:TypeId}{base g cap:Nat}{wr w1 W2 w3:World}{lv:Value}{l:List α}{xs us:List Value}{x:α}
  (h:RowE E ty sz base wr lv l xs)(hbase:base≤wr.heap.size)(h1:Below wr.heap.size wr w1)(hx:E (only w1 (From wr.heap.size)) w1.heap.size (fun j=>us[j]?) x)(hus:us.length=sz)(h2:Below w1.heap.size w1 W2)
  (hown:w3.ownsRow base ty sz (.slice (some ⟨g,0,none⟩) (l.length+1) cap) (l.length+1) (xs++us))(hgrow:W2.grownBy w3 lv.ownBlock)(hat:lv.ownBlock=some g∨g=W2.heap.size):
  RowE E ty sz base w3 (.slice (some ⟨g,0,none⟩) (l.length+1) cap) (l++[x]) (xs++us):=by
 have z1:=h1.size;have z2:=h2.size;have z3:=hgrow.size;have hxl:xs.length=l.length*sz:=h.own.1;refine⟨by simpa using hown,fun i y hy=>?_⟩;rcases Nat.lt_or_ge i l.length with hi|hi
 ·rw[List.getElem?_append_left hi]at hy;refine hE _ _ _ _ _ _ _ (only_mono ?_) (by omega) ?_ (h.elems i y hy)
  ·rintro k ⟨hk1,hk2⟩ hk3;refine⟨⟨hk1,fun e=>?_⟩,?_⟩
   ·simp only[Value.ownBlock,Option.some.injEq]at e;subst e;rcases hat with hat|hat
    ·exact hk2 hat
    ·omega
   ·exact((hgrow.block k (by omega) (fun e=>hk2 e.symm)).trans (h2.block k (by omega))).trans (h1.block k hk3)
  ·intro j v hjs hj;show(xs++us)[i*sz+j]? =some v;rw[List.getElem?_append_left ?_]
   ·exact hj
   ·rw[hxl]
    calc i*sz+j<i*sz+sz:=by omega
     _=(i+1)*sz:=by rw[Nat.add_mul,Nat.one_mul]
     _≤l.length*sz:=Nat.mul_le_mul_right _ hi
 ·obtain rfl:i=l.length:=by
   have:=(List.getElem?_eq_some_iff.1 hy).1;simp at this;omega
  simp at hy;subst hy;refine hE _ _ _ _ _ _ _ (only_mono ?_) (by omega) ?_ hx
  ·intro k hk1 hk2;have hk1':wr.heap.size≤k:=hk1;refine⟨⟨by omega,fun e=>?_⟩,?_⟩
   ·simp only[Value.ownBlock,Option.some.injEq]at e;subst e;rcases hat with hat|hat
    ·have:=(h.lt hat).2;omega
    ·omega
   ·exact(hgrow.block k (by omega) (fun e=>by have:=(h.lt e.symm).2;omega)).trans (h2.block k hk2)
  ·intro j v hjs hj;show(xs++us)[l.length*sz+j]? =some v;rw[←hxl,List.getElem?_append_right (by omega),Nat.add_sub_cancel_left];exact hj
theorem RowE.slice{α:Type}{E:World→Nat→(Nat→Option Value)→α→Prop}{sz:Nat}(hE:Mono E sz){ty:TypeId}{base:Nat}{w:World}{lv:Value}{l:List α}{xs:List Value}(h:RowE E ty sz base w lv l xs):
  SliceAt (only w (From base)) w.heap.size sz (E (only w (From base)) w.heap.size) l lv:=by
 obtain⟨h1,h2⟩:=h;obtain⟨hl,hr⟩:=id h1;rcases hr with⟨hv,hn⟩|⟨g,cap,cur,hv,hg,hh,hc1,hc2,hc3,hc4⟩
 ·exact⟨none,0,by rw[hv,hn],by omega,fun hp=>by omega⟩
 ·have hglt:g<w.heap.size:=Row.lt (t:=ty) hh;refine⟨some ⟨g,0,none⟩,cap,hv,by unfold maxLen at hc2;omega,fun hp=>⟨g,0,rfl,hglt,fun i x hi=>?_⟩⟩;refine hE _ _ _ _ _ _ _ (only_mono fun k hk _=>⟨hk.1,rfl⟩) (Nat.le_refl _) ?_ (h2 i x hi);intro j v hjs hj
  ·have hj:xs[i*sz+j]? =some v:=hj;have hil:=(List.getElem?_eq_some_iff.1 hi).1;have hlt:i*sz+j<l.length*sz:=by
    calc i*sz+j<i*sz+sz:=by omega
     _=(i+1)*sz:=by rw[Nat.add_mul,Nat.one_mul]
     _≤l.length*sz:=Nat.mul_le_mul_right _ hil
   rw[←hc4,List.getElem?_take,if_pos hlt,Array.getElem?_toList]at hj;have e:=(Row.cell (cs:=cur) (t:=ty) hh hj)
   show(only w (From base)).cell? ⟨g,0+i*sz+j,none⟩=some v;rw[World.cell?_of_block (only_in (show From base g from hg)),Nat.zero_add];exact e
def ListEnd{α:Type}(E:World→Nat→(Nat→Option Value)→α→Prop)(sz:Nat)(l:List α)(w:World)(e:Ending)(w':World):Prop:=
 ∃A c,e= .returned (.slice A l.length c)∧SliceAt (only w' (From w.heap.size)) w'.heap.size sz (E (only w' (From w.heap.size)) w'.heap.size) l (.slice A l.length c)∧(l.length≤c∧c≤9223372036854775807)∧Below w.heap.size w w'
theorem ListEnd.of_row{α:Type}{E:World→Nat→(Nat→Option Value)→α→Prop}{sz:Nat}(hE:Mono E sz){ty:TypeId}{w w':World}{lv:Value}{l:List α}{xs:List Value}(h:RowE E ty sz w.heap.size w' lv l xs)(hb:Below w.heap.size w w'):ListEnd E sz l w (.returned lv) w':=by
 have hs:=h.slice hE;obtain⟨A,cap,rfl,_⟩:=id hs;refine⟨A,cap,rfl,hs,?_,hb⟩;obtain⟨_,⟨h1,h2⟩|⟨g,c,cur,hv,_,_,h1,h2,_⟩⟩:=h.own
 ·injection h1 with _ _ h1;omega
 ·injection hv with _ _ hv;unfold maxLen at h2;omega
theorem ProgAt.sub{w w':World}{B B':Nat}{P:Value×Value×Value}{p:ProgS}(h:ProgAt w B P p)(hs:Sub w w')(hB:B≤B'):ProgAt w' B' P p:=
 ⟨SliceAt.sub ObE.mono h.1 hs hB,SliceAt.sub GraphE.mono h.2.1 hs hB,h.2.2⟩
theorem only_later{X:Nat→Prop}{w1 W:World}{a N:Nat}(hw:Wr X w1 W)(hX:∀i,X i→i<a)(hN:N≤a):Sub (only w1 (From a)) (only W (From N)):=
 only_mono fun k(hk:a≤k)hk2=>⟨show N≤k by omega,hw.block k hk2 (fun hx=>by have:=hX k hx;omega)⟩
theorem of_wr{X:Nat→Prop}{w w0 W:World}{e:Ending}{C:World→Ending→World→Prop}(h:Wr X w W)(k:Wr X w W→C w0 e W):C w0 e W:=k h
end Go.Proofs.YtlenilbkifofjaaGreatDoor
namespace Go.Proofs.YtlenilbkifofjaaGreatDoor
open Go.RowKit
theorem InsE.mono:Mono InsE 6:=by
 intro w w' B B' c c' x hs hB hc h;obtain⟨h0,h1,h2,h3,h4,⟨v,h5,h6⟩,h7⟩:=h;exact⟨hc _ _ (by decide) h0,hc _ _ (by decide) h1,hc _ _ (by decide) h2,hc _ _ (by decide) h3,hc _ _ (by decide) h4,⟨v,hc _ _ (by decide) h5,h6.sub hs hB⟩,h7⟩
theorem CodeE.mono:Mono CodeE 4:=by
 intro w w' B B' c c' x hs hB hc h;obtain⟨h0,h1,⟨v,h2,h3⟩,⟨u,h4,h5⟩,h6⟩:=h;exact⟨hc _ _ (by decide) h0,hc _ _ (by decide) h1,⟨v,hc _ _ (by decide) h2,SliceAt.sub ObE.mono h3 hs hB⟩,⟨u,hc _ _ (by decide) h4,SliceAt.sub InsE.mono h5 hs hB⟩,h6⟩
theorem VirtE.mono:Mono VirtE 3:=by
 intro w w' B B' c c' x hs hB hc h;obtain⟨⟨v,h0,h1⟩,⟨u,h2,h3⟩,h4,h5⟩:=h;exact⟨⟨v,hc _ _ (by decide) h0,SliceAt.sub ObE.mono h1 hs hB⟩,⟨u,hc _ _ (by decide) h2,SliceAt.sub CodeE.mono h3 hs hB⟩,hc _ _ (by decide) h4,h5⟩
theorem VirtAt.sub{w w':World}{B B':Nat}{P:Value×Value×Value}{p:VirtS}(h:VirtAt w B P p)(hs:Sub w w')(hB:B≤B'):VirtAt w' B' P p:=
 ⟨SliceAt.sub ObE.mono h.1 hs hB,SliceAt.sub CodeE.mono h.2.1 hs hB,h.2.2⟩
theorem VirtAt.toE{w:World}{B:Nat}{P:Value×Value×Value}{p:VirtS}(h:VirtAt w B P p)(c:Nat→Option Value)(h0:c 0=some P.1)(h1:c 1=some P.2.1)(h2:c 2=some P.2.2):VirtE w B c p:=
 ⟨⟨_,h0,h.1⟩,⟨_,h1,h.2.1⟩,by rw[h2,h.2.2.1],h.2.2.2⟩
theorem VirtAt.grow{w:World}{B B':Nat}{P:Value×Value×Value}{p:VirtS}(h:VirtAt w B P p)(hB:B≤B'):VirtAt w B' P p:=h.sub (Sub.refl _) hB
end Go.Proofs.YtlenilbkifofjaaGreatDoor
