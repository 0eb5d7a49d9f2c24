/- The page's machine: an object is made. Conditions: as stated. What is always true of the page's machine while it runs. No program in sight. No condition. The page's machine: what a call's walk is asked; its plain parts. No condition. The page's machine: a call's locals, made one by one. No condition. The page's machine: a call's blocks. No condition. The page's machine: an object is no more. No program in sight but its name. No condition. The graph's machine over the page's memory: plain laws. No program in sight. Conditions: as stated. The graph's heap: how it lies; the walks of its reading functions. Conditions: as stated. -/
import Derived.Test.YtikbdplllopjlaaGreatMakeZZz
import Derived.Laws.OwnMore
set_option linter.unusedVariables false
set_option linter.unusedSimpArgs false
set_option maxHeartbeats 8000000
open Go.Proofs.Tryz
namespace Go.Proofs.YtikbdplllopjlaaGreat
open Go.RowKit
def q9(o:jR):Prop:=(o.size=1\/o.size=2\/o.size=4\/o.size=8)/\1<=o.count/\o.count<=64/\(o.init.length:Int)<=o.count
theorem bE.Ib{w:World}{B:Nat}{l:List Int}{v:Value}(h:bE w B l v):∀x,x∈l->bz x:=by
 intro x hx;obtain⟨i,hi⟩:=List.mem_iff_getElem?.1 hx;obtain⟨A,aA,_,_,h2⟩:=h;obtain⟨b,off,_,_,h3⟩:=h2 (by rcases Nat.eq_zero_or_pos l.length with h|h;rw[List.eq_nil_of_length_eq_zero h]at hx;cases hx;exact h);exact(h3 i x hi).2
theorem NF(pb po ai:Nat)(own:Nat->Prop)(aU:Value)(rb:Nat->Nat)(M:List MO)(cs:Array Value)(t:TypeId)(o:jR)(v:Value)(w:World)
  (hR:Row w pb cs t)(hp:cs[po]? =some aU)(ht:t≠72/\t≠116)(hM:nY w ai own aU rb M)(A8:∀g,aU.ownBlock=some g->own g)(hown:∀k,own k->ai<=k/\k<w.heap.size)(kE:ai<=w.heap.size)(aZ:ai<=pb)
  (ho:q9 o)(hl:bE w ai o.init v)(gX:(au M).length+1<=1000000000):
  Calls prog 29 #[.pointer (some ⟨pb,po,none⟩),.agg #[.int .i64 o.size,.int .i64 o.count,v]] w λe w'=>xS ai own pb po cs t M o w e w':=by
 obtain⟨h1,h2,h3,h4⟩:=ho;obtain⟨ct,lW⟩:=Int.eq_ofNat_of_zero_le (show 0<=o.count by omega);have gZ:=hl.Ib;obtain⟨A,aA,rfl,_,_⟩:=id hl;rw[lW];by_cases TI:M=[]
 ·exact Ht pb po ai own aU rb M cs t o ct A _ aA w hR hp ht hM A8 hown kE aZ lW (by omega) (by omega) (by omega) hl h1 gZ gX TI
 ·exact K5 pb po ai own aU rb M cs t o ct A _ aA w hR hp ht hM A8 hown kE aZ lW (by omega) (by omega) (by omega) hl h1 gZ gX TI
def YZ(ai mc:Nat)(own:Nat->Prop)(P:Value×Value×Value)(ah:Int)(s:St)(o:jR)(w:World)(e:Ending)(w':World):Prop:=
 e= .returned (.int .i64 (au s.mem).length)/\∃own':Nat->Prop,(∀k,own k->own' k)/\(∀k,own' k->own k\/w.heap.size<=k)/\cN w' ai mc own' P ah {s with mem:=gG s.mem o}/\Wr own w w'
theorem CU(ai mc:Nat)(own:Nat->Prop)(P:Value×Value×Value)(ah:Int)(s:St)(o:jR)(v:Value)(w:World)
  (hm:cN w ai mc own P ah s)(ho:q9 o)(hl:bE w ai o.init v)(gX:(au s.mem).length+1<=1000000000):
  Calls prog 29 #[.pointer (some ⟨mc,10,none⟩),.agg #[.int .i64 o.size,.int .i64 o.count,v]] w λe w'=>YZ ai mc own P ah s o w e w':=by
 obtain⟨inv,outv,aU,rb,hr,rD,hs⟩:=hm;have hb:=hs.own mc rD;have kE:ai<=w.heap.size:=by omega
 have YG:nY w ai (λk=>own k/\∃cs t,Row w k cs t/\(t=72\/t=116)) aU rb s.mem:=by
  obtain⟨h1,h2,h3,h4⟩:=hs.mem;exact⟨h1,λk x hk hx=>⟨⟨(h2 k x hk hx).1,by obtain⟨_,cs,hr,_⟩:=h2 k x hk hx;exact⟨cs,_,hr,aH rfl⟩⟩,(h2 k x hk hx).2⟩,h3,h4⟩
 refine(NF mc 10 ai (λk=>own k/\∃cs t,Row w k cs t/\(t=72\/t=116)) aU rb s.mem _ 82 o v w hr rfl (by decide) YG (λg hg=>⟨hs.memo g hg,?_⟩) (λk hk=>hs.own k hk.1) kE hb.1 ho hl gX).mono ?_
 ·obtain⟨⟨xs,hx,_⟩,_⟩:=hs.mem;obtain⟨_,cs,eu⟩:=aC hx hg;exact⟨cs,_,eu,aT rfl⟩
 rintro e w' ⟨rfl,own',je,PU,h1,h2,h3,h4,h5,h6,h7⟩;have N8:∀k cs t,Row w k cs t->t≠72->t≠116->¬(own k/\∃cs t,Row w k cs t/\(t=72\/t=116)):=by
  rintro k cs t hr h1 h2 ⟨_,cs',t',eu,h⟩;rcases h with rfl|rfl
  ·exact hr.ne eu h1 rfl
  ·exact hr.ne eu h2 rfl
 refine⟨rfl,λk=>own k\/own' k,λk hk=>aH hk,λk hk=>?_,⟨inv,outv,je,PU,h6,aH rD,⟨?_,?_,λg hg=>aH (hs.rH g hg),?_,λg hg=>aT (h5 g hg),λk hk=>?_⟩⟩,h7.mono (λk hk=>aH ?_)⟩
 ·rcases hk with hk|hk
  ·exact aH hk
  ·rcases h2 k hk with h|h
   ·exact aH h.1
   ·exact aT h
 ·exact hs.inp.below (λb o hb'=>World.cell?_of_block (a:=⟨b,o,none⟩) (h7.block b (by omega) (λhf=>by rcases hf with hf|hf;have:=hs.own b hf.1;omega;omega)))
 ·refine aB hs.out h7 (λg hg hf=>?_);obtain⟨_,cs,eu⟩:=aC hs.out hg;rcases hf with hf|hf
  ·exact N8 g cs _ eu (by decide) (by decide) hf
  ·subst hf;exact eu.ne hr (by decide) rfl
 ·obtain⟨a,b,c,d⟩:=h4;exact⟨a,λk x hk hx=>⟨aT (b k x hk hx).1,(b k x hk hx).2⟩,c,d⟩
 ·rcases hk with hk|hk
  ·have:=hs.own k hk;have:=h7.size;exact⟨by omega,by omega⟩
  ·refine⟨?_,h3 k hk⟩;rcases h2 k hk with h|h
   ·exact(hs.own k h.1).1
   ·omega
 ·rcases hk with hk|rfl
  ·exact hk.1
  ·exact rD
def fP(M:List MO):Prop:=∀o,o∈M->o.size≠8->∀v,v∈o.l->v.obj=0
structure GInv (ah:Int) (s:St):Prop where
 kind:s.kind=0
 lo:0<=s.steps
 hi:s.steps<=ah
 many:(au s.mem).length<=20+s.steps.toNat
 outs:s.out.length<=s.steps.toNat
 calls:0<=s.calls
 deep:0<=s.deep
 inp:∀x,x∈s.inp->bz x
 mem:b9 (au s.mem)
 num:fP (au s.mem)
structure lF (ah:Int) (s s':St):Prop where
 inv:GInv ah s'
 calls:s'.calls=s.calls
 grow:(au s.mem).length<=(au s'.mem).length
 steps:s.steps<=s'.steps
theorem lF.refl{ah:Int}{s:St}(h:GInv ah s):lF ah s s:=⟨h,rfl,aN _,Int.le_refl _⟩
theorem lF.trans{ah:Int}{a b c:St}(h:lF ah a b)(k:lF ah b c):lF ah a c:=⟨k.inv,k.calls.trans h.calls,Nat.le_trans h.grow k.grow,Int.le_trans h.steps k.steps⟩
theorem GInv.tick{ah n:Int}{s:St}(h:GInv ah s)(hn:0<=n)(hy:(aW ah n s).1=true):(aW ah n s).2={s with steps:=s.steps+n}/\GInv ah {s with steps:=s.steps+n}:=by
 obtain⟨_,h1,h2⟩:=cO hy;have:=h.lo;have:=h.many;have:=h.outs;exact⟨h2,h.kind,by show 0<=s.steps+n;omega,by show s.steps+n<=ah;omega,by show(au s.mem).length<=20+(s.steps+n).toNat;omega,by show s.out.length<=(s.steps+n).toNat;omega,h.calls,h.deep,h.inp,h.mem,h.num⟩
theorem GInv.step1{ah:Int}{s:St}(h:GInv ah s)(hle:s.steps+1<=ah):GInv ah {s with steps:=s.steps+1}:=by
 have:=h.lo;have:=h.many;have:=h.outs;exact⟨h.kind,by show 0<=s.steps+1;omega,hle,by show(au s.mem).length<=20+(s.steps+1).toNat;omega,by show s.out.length<=(s.steps+1).toNat;omega,h.calls,h.deep,h.inp,h.mem,h.num⟩
def bH(w:World)(B:Nat)(P:Value×Value×Value)(p:aM):Prop:=
 aL w B 3 (rf w B) p.ax P.1/\aL w B 4 (dV w B) p.funcs P.2.1/\P.2.2= .int .i64 p.main/\bz p.main
theorem bH.below{w w':World}{B:Nat}{P:Value×Value×Value}{p:aM}(h:bH w B P p)(hb:Below B w w'):bH w' B P p:=
 ⟨h.1.below hb (aN _) λ_ _ h=>h.below hb (aN _),h.2.1.below hb (aN _) λ_ _ h=>h.below hb (aN _),h.2.2⟩
def gC(ai mc:Nat)(own:Nat->Prop)(P:Value×Value×Value)(ah:Int)(r:Option V×St)(w:World)(e:Ending)(w':World):Prop:=
 e= .returned (aI r.1)/\∃own':Nat->Prop,(∀k,own k->own' k)/\(∀k,own' k->own k\/w.heap.size<=k)/\cN w' ai mc own' P ah r.2/\Wr own w w'
structure Kept (ah:Int) (s:St) (tp:List V) (lo:List Nat) (ng:Nat) (s':St) (tp':List V):Prop where
 inv:GInv ah s'
 fr:dW (au s'.mem) tp' lo ng
 calls:s'.calls=s.calls
 grow:(au s.mem).length<=(au s'.mem).length
 steps:s.steps<=s'.steps
 len:tp'.length=tp.length
def JH(R:cC)(ah:Int)(p:aM)(d:Int)(ng:Nat)(nt nl:Nat)(x:cM):Prop:=
 ∀(ai mc:Nat)(own:Nat->Prop)(P:Value×Value×Value)(s:St)(fb tb:Nat)(G:Value×Value×Value×Value)(tp:List V)(lv:Value)(lo:List Nat)(A:Option Addr)(n aA:Nat)(w:World),
  cN w ai mc own P ah s->bH w ai P p->GInv ah s->s.calls=d->bM w fb G tb tp lv lo->mG ai own fb tb lv->dW (au s.mem) tp lo ng->tp.length=nt->lo.length=nl->bC w ai x.args A n->
  Calls prog 52 #[.pointer (some ⟨mc,0,none⟩),.pointer (some ⟨fb,0,none⟩),.agg #[.int .i64 x.op,.int .i64 x.to,.int .i64 x.size,.int .i64 x.fn,.slice A n aA]] w λe w'=>
   cX ai mc own P ah fb tb G lv lo (bu R ah lo s tp x) w e w'/\((bu R ah lo s tp x).1=true->Kept ah s tp lo ng (bu R ah lo s tp x).2.1 (bu R ah lo s tp x).2.2)
theorem nO(a b:List jR):aS (a++b)=aS a+aS b:=by
 induction a with
 |nil=>simp[aS]
 |cons o l ih=>simp[aS,ih];omega
theorem dU{l:List jR}(h:∀o,o∈l->q9 o):(l.length:Int)<=aS l/\aS l<=64*l.length:=by
 induction l with
 |nil=>simp[aS]
 |cons o l ih=>
  have h1:=ih λx hx=>h x (List.mem_cons_of_mem _ hx);obtain⟨_,h2,h3,_⟩:=h o (by simp);simp only[aS,List.length_cons];omega
theorem pT(M:List MO)(a b:List jR):bf M (a++b)=bf (bf M a) b:=by
 induction a generalizing M with
 |nil=>rfl
 |cons o l ih=>exact ih _
theorem wY(M:List MO)(o:jR):(gG M o).length=(au M).length+1:=by simp[jf]
theorem gq(M:List MO):(au M).length=if M=[]then 1 else M.length:=by
 unfold au;split<;>rfl
theorem pS(M:List MO)(l:List jR):(bf M l).length=if l=[]then M.length else(au M).length+l.length:=by
 induction l generalizing M with
 |nil=>rfl
 |cons o l ih=>
  simp only[bf,ih];have h1:=wY M o;have h2:au (gG M o)=gG M o:=by unfold au;rw[if_neg (by intro h;rw[h]at h1;simp at h1)]
  rw[h2,h1];by_cases h:l=[]
  ·simp[h]
  ·simp[h];omega
theorem NQ:(prog.info? 3).map (λi=>(i.zero,i.size,i.bytes))=some (some (.int .i64 0),1,8):=by kernel_rfl
structure Eg (ai mc:Nat) (own:Nat->Prop) (P:Value×Value×Value) (ah:Int) (s:St) (fb tb nt:Nat) (g:aP) (LA:Option Addr) (bX:Nat) (BA:Option Addr) (cL:Nat) (M:List MO) (w:World) (gr:Nat) (w1 wr:World) (k:Nat) (dQ:Nat->Prop) (qB:Value):Prop where
 uU:cN wr ai mc dQ P ah {s with mem:=bf M (g.az.take k)}
 LN:Row wr fb #[.int .i64 g.params,.int .i64 nt,.slice LA g.az.length bX,.slice BA g.blocks.length cL,.slice (some ⟨tb,0,none⟩) nt nt,qB] 120
 Xk:iq wr tb (List.replicate nt ⟨0,0⟩)
 grow:Row wr gr #[.int .i64 g.params,.int .i64 nt,.slice LA g.az.length bX,.slice BA g.blocks.length cL] 54
 yw:Row wr w.heap.size #[.int .i64 0,.int .i64 0] 72
 az:wr.ownsRow w1.heap.size 3 1 qB k ((eE M k).map λx=> .int .i64 (x:Nat))
 up:∀i,own i->dQ i
 down:∀i,dQ i->own i\/w1.heap.size<=i
 Xw:∀i,qB.ownBlock=some i->¬dQ i
 wr:Wr (λb=>own b\/b=fb) w1 wr
theorem pR(M:List MO)(l:List jR):(au (bf M l)).length=(au M).length+l.length:=by
 have h:=pS M l;by_cases hl:l=[]
 ·subst hl;rfl
 ·rw[if_neg hl]at h;have hp:=dY M;rw[gq,if_neg (by intro e;rw[e]at h;simp at h;omega),h]
theorem nI(M:List MO)(l:List jR)(k:Nat)(hk:k<=l.length):(au (bf M (l.take k))).length=(au M).length+k:=by rw[pR,List.length_take,Nat.min_eq_left hk]
theorem AG(M:List MO)(k:Nat):eE M (k+1)=eE M k++[(au M).length+k]:=by
 unfold eE;rw[List.range_succ,List.map_append,gq];rfl
theorem fM(M:List MO)(k:Nat):(eE M k).length=k:=by simp[eE]
theorem KT{w:World}{ai:Nat}{e:TypeId}{size:Nat}{v:Value}{n:Nat}{xs:List Value}(h:w.ownsRow ai e size v n xs):w.drew.ownsRow ai e size v n xs:=
 aB h (di (bI _ _).drew) (λ_ _ h=>h)
theorem QE{w:World}{ai:Nat}{e:TypeId}{size:Nat}{v:Value}{n:Nat}{xs:List Value}(h:w.ownsRow ai e size v n xs)(o:Obj):(w.alloc o).ownsRow ai e size v n xs:=
 aB h (di (aj w o)) (λ_ _ h=>h)
theorem bg.ZZ{F:Nat->Prop}{w w':World}{b off:Nat}{v:V}(h:bg w b off v)(hw:Wr F w w')(hF:¬F b)(hlt:b<w.heap.size):bg w' b off v:=
 ⟨(World.cell?_of_block (a:=⟨b,off,none⟩) (hw.block b hlt hF)).trans h.1,(World.cell?_of_block (a:=⟨b,off+1,none⟩) (hw.block b hlt hF)).trans h.2⟩
theorem bg.wr2{F G:Nat->Prop}{w w1 w2:World}{b off:Nat}{v:V}(h:bg w b off v)(hw:Wr F w w1)(hF:¬F b)(hlt:b<w.heap.size)(hw2:Wr G w1 w2)(hG:¬G b)(mA:b<w1.heap.size):bg w2 b off v:=
 (h.ZZ hw hF hlt).ZZ hw2 hG mA
theorem Hc{args:List V}{k nt:Nat}{v:V}(hk:k<nt)(hv:args[k]? =some v)(hn:k<args.length):(args.take k++List.replicate (nt-k) (⟨0,0⟩:V)).set k v=args.take (k+1)++List.replicate (nt-(k+1)) (⟨0,0⟩:V):=by
 have h1:(args.take k).length=k:=by rw[List.length_take];omega
 rw[List.take_add_one,hv,List.set_append_right _ _ (by omega),h1,Nat.sub_self];rw[show nt-k=(nt-(k+1))+1 by omega,List.replicate_succ];simp
theorem lR(w:World)(cs:List Value)(t:TypeId):∀(j:Nat)(u:Value),cs[j]? =some u->(w.alloc (.cells cs.toArray t)).cell? ((⟨w.heap.size,0,none⟩:Addr).add j)=some u:=by
 intro j u hj;rw[uJ];exact(Row.new w cs.toArray t).cell (by simpa using hj)
theorem K8{ai mc fb tb nt bX cL gr k gg fC:Nat}{own dQ bF:Nat->Prop}{P:Value×Value×Value}{ah:Int}{s:St}{g:aP}{LA BA:Option Addr}{M:List MO}{w w1 wr w2 w3:World}{qB:Value}{o:jR}
  (hL:Eg ai mc own P ah s fb tb nt g LA bX BA cL M w gr w1 wr k dQ qB)(ho:g.az[k]? =some o)
  (Ey:∀i,dQ i->bF i)(zQ:∀i,bF i->dQ i\/wr.drew.heap.size<=i)(GU:cN w2 ai mc bF P ah {s with mem:=gG (bf M (g.az.take k)) o})(hw2:Wr dQ wr.drew w2)
  (aG:ai<=w1.heap.size)(U4:ai<=fb)(x8:¬own fb/\fb<w1.heap.size)(Q1:¬own tb/\tb<w1.heap.size)(hgr:¬own gr/\gr<w1.heap.size)(hrr:¬own w.heap.size/\w.heap.size<w1.heap.size)
  (iC:w3.ownsRow w1.heap.size 3 1 (.slice (some ⟨gg,0,none⟩) (k+1) fC) (k+1) ((eE M k).map (λx=>Value.int .i64 (x:Nat))++[.int .i64 ((au (bf M (g.az.take k))).length:Nat)]))
  (hgrow:(w2.alloc (.cells #[.int .i64 ((au (bf M (g.az.take k))).length:Nat)] 3)).grownBy w3 qB.ownBlock)(hat:qB.ownBlock=some gg\/gg=w2.heap.size+1):
  Eg ai mc own P ah s fb tb nt g LA bX BA cL M w gr w1 (w3.setCell ⟨fb,5,none⟩ (.slice (some ⟨gg,0,none⟩) (k+1) fC)) (k+1) bF (.slice (some ⟨gg,0,none⟩) (k+1) fC):=by
 obtain⟨l1,l2,l3,l4,l5,l6,l7,l8,l9,Z2⟩:=hL;have hz:=Z2.size;have hz2:=hw2.size;simp only[World.size_drew]at hz2 zQ;have qg:k<g.az.length:=by
  rcases Nat.lt_or_ge k g.az.length with h|h
  ·exact h
  ·rw[List.getElem?_eq_none h]at ho;cases ho
 have htk:g.az.take (k+1)=g.az.take k++[o]:=by rw[List.take_add_one,ho];rfl
 have jw:∀i,¬own i->i<w1.heap.size->¬dQ i:=λi h1 h2 h=>by rcases l8 i h with h|h;exact h1 h;omega
 have iD:∀i,¬dQ i->i<wr.heap.size->¬bF i:=λi h1 h2 h=>by rcases zQ i h with h|h;exact h1 h;omega
 have PZ:Wr (λi=>qB.ownBlock=some i) w2 w3:=(Wr.of_below (F:=λi=>qB.ownBlock=some i) (aj w2 (.cells #[.int .i64 ((au (bf M (g.az.take k))).length:Nat)] 3))).trans (Wr.grown (F:=λi=>qB.ownBlock=some i) hgrow (λi hi=>hi)) (λi hi=>aH hi);have UL:∀i,qB.ownBlock=some i->w1.heap.size<=i/\∃cs,Row wr i cs 3:=λi hi=>aC l6 hi;have CV:=Wr.cell1 w3 fb 5 (.slice (some ⟨gg,0,none⟩) (k+1) fC);have hall:∀i,¬own i->i<w1.heap.size->∀cs t,Row wr i cs t->Row w3 i cs t:=λi h1 h2 cs t hr=>
  (hr.drew.wr hw2 (jw i h1 h2)).wr PZ (λh=>by have:=(UL i h).1;omega)
 have Yg:∀i,(Value.slice (some ⟨gg,0,none⟩) (k+1) fC).ownBlock=some i->i=gg:=λi hi=>by simp only[Value.ownBlock,Option.some.injEq]at hi;exact hi.symm
 have Ww:¬gg=fb:=by
  intro e;obtain⟨_,cs',hr⟩:=aC iC (g:=gg) rfl;subst e;exact hr.ne (hall _ x8.1 x8.2 _ _ l2) (by decide) rfl
 have hb2:ai<=w2.heap.size:=by obtain⟨_,_,_,_,h⟩:=GU;have:=h.rest.own mc h.mine;omega
 have Yw:∀i,bF i->ai<=i:=by obtain⟨_,_,_,_,h⟩:=GU;exact λi hi=>(h.rest.own i hi).1
 have s9:∀i,qB.ownBlock=some i->i<wr.heap.size:=λi hi=>by obtain⟨cs,hr⟩:=(UL i hi).2;exact hr.lt
 have hne:∀i,¬own i->i<w1.heap.size->∀cs t,Row wr i cs t->t≠120->Row (w3.setCell ⟨fb,5,none⟩ (.slice (some ⟨gg,0,none⟩) (k+1) fC)) i cs t:=λi h1 h2 cs t hr ht=>
  (hall i h1 h2 cs t hr).wr CV (λh=>(hall i h1 h2 cs t hr).ne (hall _ x8.1 x8.2 _ _ l2) ht h)
 refine⟨?_,(hall _ x8.1 x8.2 _ _ l2).set 5 _,?_,hne _ hgr.1 hgr.2 _ _ l4 (by decide),hne _ hrr.1 hrr.2 _ _ l5 (by decide),?_,λi hi=>Ey i (l7 i hi),λi hi=>?_,λi hi=>?_,?_⟩
 ·have e:bf M (g.az.take (k+1))=gG (bf M (g.az.take k)) o:=by rw[htk,pT];rfl
  rw[e];refine GU.wr (F:=λi=>qB.ownBlock=some i\/i=fb) ((PZ.mono (λi hi=>aH (aH hi))).trans CV (λi hi=>aH (aT hi))) (λi hi=>?_);rcases hi with hi|rfl
  ·exact⟨by have:=(UL i hi).1;omega,iD i (l9 i hi) (s9 i hi)⟩
  ·exact⟨U4,iD i (jw i x8.1 x8.2) (by omega)⟩
 ·obtain⟨cv,h1,h2⟩:=l3;exact⟨cv,hne _ Q1.1 Q1.2 _ _ h1 (by decide),h2⟩
 ·rw[AG,List.map_append,<-nI M g.az k (by omega)];exact aB iC CV (λi hi h=>Ww ((Yg i hi).symm.trans h))
 ·rcases zQ i hi with h|h
  ·exact l8 i h
  ·exact aT (by omega)
 ·rw[Yg i hi];rcases hat with h|h
  ·exact iD gg (l9 gg h) (s9 gg h)
  ·intro h';obtain⟨_,_,_,_,hq⟩:=GU;have:=(hq.rest.own gg h').2;omega
 ·refine(((Z2.trans (di (bI _ _).drew) (λi hi=>hi.elim)).trans hw2 (λi hi=>?_)).trans PZ (λi hi=>aT (UL i hi).1)).trans CV (λi hi=>aH (aT hi));rcases l8 i hi with h|h
  ·exact aH (aH h)
  ·exact aT h
end Go.Proofs.YtikbdplllopjlaaGreat
namespace Go.Proofs.YtikbdplllopjlaaGreat
open Go.RowKit
theorem aX.shape{w:World}{C:Nat->Nat->Prop}{t:T}{v0 v1 v2:Value}(h:aX w C t v0 v1 v2):∃a b A n c,v0= .int .i64 a/\v1= .int .i64 b/\v2= .slice A n c:=by
 obtain⟨op,n,ks⟩:=t;simp only[aX]at h;obtain⟨h0,h1,_,_,_,A,aA,h5,_⟩:=h;exact⟨_,_,_,_,_,h0,h1,h5⟩
theorem qm{R:cC}{ah:Int}{lo:List Nat}{s:St}{tp:List V}{x:cM}{l:List cM}(h:(bu R ah lo s tp x).1=true):eL R ah lo s tp (x::l)=eL R ah lo (bu R ah lo s tp x).2.1 (bu R ah lo s tp x).2.2 l:=by
 simp only[eL];rcases hd:bu R ah lo s tp x with⟨b,s',tp'⟩
 rw[hd]at h;simp only at h;subst h;rfl
theorem oq{R:cC}{ah:Int}{lo:List Nat}{s:St}{tp:List V}{x:cM}{l:List cM}(h:(bu R ah lo s tp x).1=false):eL R ah lo s tp (x::l)=(false,(bu R ah lo s tp x).2.1,(bu R ah lo s tp x).2.2):=by
 simp only[eL];rcases hd:bu R ah lo s tp x with⟨b,s',tp'⟩
 rw[hd]at h;simp only at h;subst h;rfl
theorem xK{α:Type}{l:List α}{j:Nat}{x:α}(h:l[j]? =some x):l.drop j=x::l.drop (j+1):=by
 have hlt:j<l.length:=by
  rcases Nat.lt_or_ge j l.length with h'|h'
  ·exact h'
  ·rw[List.getElem?_eq_none h']at h;cases h
 rw[List.drop_eq_getElem_cons hlt];rw[List.getElem?_eq_getElem hlt]at h;injection h with h;rw[h]
theorem mY{R:cC}{ah:Int}{lo:List Nat}{bs:List bW}{g k:Nat}{s s':St}{tp tp':List V}{b:bW}(hb:bs[k]? =some b)(h:dN R ah lo s tp b=(.over,s',tp')):eQ R ah lo bs (g+1) k s tp=(none,s'):=by
 simp only[eQ,Int.toNat_natCast,List.getD_eq_getElem?_getD,hb,Option.getD_some,h]
theorem qZ{R:cC}{ah:Int}{lo:List Nat}{bs:List bW}{g k:Nat}{k':Int}{s s':St}{tp tp':List V}{b:bW}(hb:bs[k]? =some b)(h:dN R ah lo s tp b=(.next k',s',tp')):eQ R ah lo bs (g+1) k s tp=eQ R ah lo bs g k' s' tp':=by
 simp only[eQ,Int.toNat_natCast,List.getD_eq_getElem?_getD,hb,Option.getD_some,h]
theorem zJ{R:cC}{ah:Int}{lo:List Nat}{bs:List bW}{g k:Nat}{v:V}{s s':St}{tp tp':List V}{b:bW}(hb:bs[k]? =some b)(h:dN R ah lo s tp b=(.ret v,s',tp')):eQ R ah lo bs (g+1) k s tp=(some v,{s' with mem:=dZ s'.mem lo,calls:=s'.calls-1}):=by
 simp only[eQ,Int.toNat_natCast,List.getD_eq_getElem?_getD,hb,Option.getD_some,h]
theorem xN{R:cC}{ah:Int}{lo:List Nat}{s s':St}{tp tp':List V}{b:bW}(h:eL R ah lo s tp b.steps=(false,s',tp')):dN R ah lo s tp b=(.over,s',tp'):=by
 simp only[dN,h]
structure mJ (ai mc:Nat) (own:Nat->Prop) (P:Value×Value×Value) (ah:Int) (d:Int) (ng fb tb nt:Nat) (G:Value×Value×Value×Value) (lv:Value) (lo:List Nat) (gr:Nat) (gc:Array Value) (w:World) (wr:World) (own':Nat->Prop) (st:St) (tp:List V):Prop where
 uU:cN wr ai mc own' P ah st
 fr:bM wr fb G tb tp lv lo
 off:mG ai own' fb tb lv
 inv:GInv ah st
 nW:dW (au st.mem) tp lo ng
 many:lo≠[]->2<=(au st.mem).length
 calls:st.calls=d
 len:tp.length=nt
 grow:Row wr gr gc 54
 gn:¬own' gr
 yw:Row wr w.heap.size #[.int .i64 0,.int .i64 0] 72
 rn:¬own' w.heap.size/\¬w.heap.size=tb
 up:∀i,own i->own' i
 down:∀i,own' i->own i\/w.heap.size<=i
 Xl:w.heap.size<=tb
 wr:Wr own w wr
section
variable {ai mc:Nat} {own:Nat->Prop} {P:Value×Value×Value} {ah d:Int} {ng fb tb nt:Nat} {G:Value×Value×Value×Value} {lv:Value} {lo:List Nat} {gr:Nat} {gc:Array Value} {w wr:World} {own':Nat->Prop} {st:St} {tp:List V}
theorem mJ.below(h:mJ ai mc own P ah d ng fb tb nt G lv lo gr gc w wr own' st tp){w':World}(hb:Below wr.heap.size wr w'):mJ ai mc own P ah d ng fb tb nt G lv lo gr gc w w' own' st tp:=
 ⟨h.uU.below hb,h.fr.below hb,h.off,h.inv,h.nW,h.many,h.calls,h.len,h.grow.below hb h.grow.lt,h.gn,h.yw.below hb h.yw.lt,h.rn,h.up,h.down,h.Xl,h.wr.trans (di hb) (λi hi=>hi.elim)⟩
theorem mJ.mine(h:mJ ai mc own P ah d ng fb tb nt G lv lo gr gc w wr own' st tp):own' mc:=by obtain⟨_,_,_,_,h⟩:=h.uU;exact h.mine
theorem mJ.JX(h:mJ ai mc own P ah d ng fb tb nt G lv lo gr gc w wr own' st tp){w':World}{st':St}(hw:Wr (λb=>b=mc) wr w')(hm:cN w' ai mc own' P ah st')(hi:GInv ah st')(hf:dW (au st'.mem) tp lo ng)(hgr:(au st.mem).length<=(au st'.mem).length)(hc:st'.calls=d):
  mJ ai mc own P ah d ng fb tb nt G lv lo gr gc w w' own' st' tp:=by
 have P8:=h.mine;refine⟨hm,h.fr.wr hw (λe=>h.off.fb.1 (by rw[e];exact P8)) (λe=>h.off.tb.1 (by rw[e];exact P8)) (λg hg e=>(h.off.lv g hg).1 (by rw[e];exact P8)),h.off,hi,hf,(λhn=>Nat.le_trans (h.many hn) hgr),hc,h.len,h.grow.wr hw (λe=>h.gn (by rw[e];exact P8)),h.gn,h.yw.wr hw (λe=>h.rn.1 (by rw[e];exact P8)),h.rn,h.up,h.down,h.Xl,h.wr.trans hw (λi hi=>?_)⟩;rcases h.down mc P8 with h'|h'
 ·exact aH (hi▸h')
 ·exact aT (hi▸h')
theorem mJ.does(h:mJ ai mc own P ah d ng fb tb nt G lv lo gr gc w wr own' st tp){r:Bool×St×List V}{e:Ending}{w':World}(hd:cX ai mc own' P ah fb tb G lv lo r wr e w')(hk:Kept ah st tp lo ng r.2.1 r.2.2)(ht:r.1=true):
  ∃Tj,mJ ai mc own P ah d ng fb tb nt G lv lo gr gc w w' Tj r.2.1 r.2.2/\(∀i,Tj i->own' i\/wr.heap.size<=i):=by
 obtain⟨_,bF,h1,h2,h3,h4,h5⟩:=hd;have hl:∀i,i<wr.heap.size->¬own' i->¬bF i:=λi hi hn ho=>by rcases h2 i ho with h|h;exact hn h;omega
 have tq:=h.fr.row.lt;have uY:=(by obtain⟨_,hr,_⟩:=h.fr.ay;exact hr.lt:tb<wr.heap.size)
 have jb:∀g,lv.ownBlock=some g->g<wr.heap.size:=λg hg=>by obtain⟨_,cs,hr⟩:=aC h.fr.az hg;exact hr.lt
 have iR:∃cs,Row wr tb cs 72:=by obtain⟨cs,hr,_⟩:=h.fr.ay;exact⟨cs,hr⟩
 have hng:¬(own' gr\/gr=tb):=λe=>by
  rcases e with e|e
  ·exact h.gn e
  ·obtain⟨cs,hr⟩:=iR;exact h.grow.ne hr (by decide) e
 have X0:¬(own' w.heap.size\/w.heap.size=tb):=λe=>by
  rcases e with e|e
  ·exact h.rn.1 e
  ·exact h.rn.2 e
 refine⟨bF,⟨h3,h4 ht,⟨⟨hl _ tq h.off.fb.1,h.off.fb.2⟩,⟨hl _ uY h.off.tb.1,h.off.tb.2⟩,λg hg=>⟨hl g (jb g hg) (h.off.lv g hg).1,(h.off.lv g hg).2⟩⟩,hk.inv,hk.fr,(λhn=>Nat.le_trans (h.many hn) hk.grow),hk.calls.trans h.calls,hk.len.trans h.len,
  h.grow.wr h5 hng,hl _ h.grow.lt h.gn,h.yw.wr h5 X0,⟨hl _ h.yw.lt h.rn.1,h.rn.2⟩,λi hi=>h1 i (h.up i hi),λi hi=>?_,h.Xl,h.wr.trans h5 (λi hi=>?_)⟩,h2⟩
 ·rcases h2 i hi with h'|h'
  ·exact h.down i h'
  ·exact aT (by have:=h.wr.size;omega)
 ·rcases hi with hi|hi
  ·exact h.down i hi
  ·exact aT (hi▸h.Xl)
theorem mJ.done(h:mJ ai mc own P ah d ng fb tb nt G lv lo gr gc w wr own' st tp){r:Bool×St×List V}{e:Ending}{w':World}(hd:cX ai mc own' P ah fb tb G lv lo r wr e w'):
  ∃bF:Nat->Prop,(∀k,own k->bF k)/\(∀k,bF k->own k\/w.heap.size<=k)/\cN w' ai mc bF P ah r.2.1/\Wr own w w'/\Row w' w.heap.size #[.int .i64 0,.int .i64 0] 72/\¬bF w.heap.size:=by
 obtain⟨_,bF,h1,h2,h3,h4,h5⟩:=hd;have X0:¬(own' w.heap.size\/w.heap.size=tb):=λe=>by
  rcases e with e|e
  ·exact h.rn.1 e
  ·exact h.rn.2 e
 refine⟨bF,λk hk=>h1 k (h.up k hk),λk hk=>?_,h3,h.wr.trans h5 (λi hi=>?_),h.yw.wr h5 X0,λho=>?_⟩
 ·rcases h2 k hk with h'|h'
  ·exact h.down k h'
  ·exact aT (by have:=h.wr.size;omega)
 ·rcases hi with hi|hi
  ·exact h.down i hi
  ·exact aT (hi▸h.Xl)
 ·rcases h2 _ ho with h'|h'
  ·exact h.rn.1 h'
  ·have:=h.yw.lt;omega
end
theorem Cx{ai mc fb tb:Nat}{own:Nat->Prop}{P:Value×Value×Value}{ah:Int}{G:Value×Value×Value×Value}{lv:Value}{lo:List Nat}{r:Bool×St×List V}{w:World}{e:Ending}{w':World}{b:Nat}{cs:Array Value}{t:TypeId}
  (h:cX ai mc own P ah fb tb G lv lo r w e w')(hr:Row w b cs t)(h1:¬own b)(h2:¬b=tb):Row w' b cs t:=by
 obtain⟨_,bF,_,_,_,_,h5⟩:=h;exact hr.wr h5 (λe=>by rcases e with e|e;exact h1 e;exact h2 e)
theorem Bw{ai mc fb tb:Nat}{own:Nat->Prop}{P:Value×Value×Value}{ah:Int}{G:Value×Value×Value×Value}{lv:Value}{lo:List Nat}{r:Bool×St×List V}{w:World}{e:Ending}{w':World}
  (h:cX ai mc own P ah fb tb G lv lo r w e w')(hm:∀k,own k->ai<=k)(ht:ai<=tb)(hb:ai<=w.heap.size):Below ai w w':=by
 obtain⟨_,bF,_,_,_,_,h5⟩:=h;exact h5.below hb (λk hk=>by rcases hk with hk|hk;exact hm k hk;omega)
theorem gC.below{ai mc:Nat}{own:Nat->Prop}{P:Value×Value×Value}{ah:Int}{r:Option V×St}{w w' w'':World}{e:Ending}(h:gC ai mc own P ah r w e w')(hb:Below w'.heap.size w' w''):gC ai mc own P ah r w e w'':=by
 obtain⟨h0,bF,h1,h2,h3,h4⟩:=h;exact⟨h0,bF,h1,h2,h3.below hb,h4.trans (di hb) (λi hi=>hi.elim)⟩
theorem cN.steps{w:World}{ai mc:Nat}{own:Nat->Prop}{P:Value×Value×Value}{ah:Int}{s:St}(h:cN w ai mc own P ah s):w.cell? ⟨mc,8,none⟩=some (.int .i64 s.steps):=by
 obtain⟨_,_,_,_,h⟩:=h;exact h.row.cell (j:=8) rfl
theorem WO{v:V}(h1:v.obj=0)(h2:v.n=0):v=⟨0,0⟩:=by
 obtain⟨a,b⟩:=v;simp only at h1 h2;rw[h1,h2]
theorem sN{ai mc:Nat}{own bF:Nat->Prop}{P:Value×Value×Value}{ah:Int}{s:St}{w w5:World}(v:Option V)(h1:∀k,own k->bF k)(h2:∀k,bF k->own k\/w.heap.size<=k)(h3:cN w5 ai mc bF P ah s)(h4:Wr own w w5)(h5:¬bF w.heap.size)(hb:ai<=w.heap.size)(a b:Int):
  gC ai mc own P ah (v,s) w (.returned (aI v)) ((w5.setCell ⟨w.heap.size,0,none⟩ (.int .i64 a)).setCell ⟨w.heap.size,1,none⟩ (.int .i64 b)):=
 ⟨rfl,bF,h1,h2,h3.wr (qO _ _ _ _) (λk hk=>(by subst hk;exact⟨hb,h5⟩)),h4.trans (qO _ _ _ _) (λi hi=>aT (by omega))⟩
theorem eX{w:World}{ai base':Nat}{e:TypeId}{size:Nat}{v:Value}{n:Nat}{xs:List Value}(h:w.ownsRow ai e size v n xs)(hb:base'<=ai):w.ownsRow base' e size v n xs:=by
 obtain⟨h1,h2⟩:=h;refine⟨h1,?_⟩;rcases h2 with h2|⟨g,aA,cur,hv,hg,r⟩
 ·exact aH h2
 ·exact aT ⟨g,aA,cur,hv,Nat.le_trans hb hg,r⟩
theorem Ji{ai mc fb tb nt bX cL:Nat}{own dQ:Nat->Prop}{P:Value×Value×Value}{ah:Int}{s:St}{g:aP}{LA BA:Option Addr}{p:aM}{args:List V}{w wb w1 w2 w3:World}{qB:Value}
  (hL:Eg ai mc own P ah {s with calls:=s.calls+1,deep:=max s.deep (s.calls+1),steps:=s.steps+aS g.az} fb tb nt g LA bX BA cL s.mem w wb.heap.size w1 w2 g.az.length dQ qB)
  (hwr:Wr (λb=>b=tb) w2 w3)(hv:iq w3 tb (gm nt args))(hl:(gm nt args).length=nt)(uZ:nt<=1000)(how:∀k,own k->ai<=k/\k<w.heap.size)(Uw:Wr own w w1)(aG:Below ai w wb)(x8:wb.heap.size<fb)(Q1:wb.heap.size<tb)(QW:ai<=w.heap.size/\w.heap.size<wb.heap.size/\fb<w1.heap.size/\tb<w1.heap.size/\wb.heap.size<w1.heap.size)(hS:GInv ah {s with calls:=s.calls+1,deep:=max s.deep (s.calls+1),steps:=s.steps+aS g.az,mem:=bf s.mem g.az}/\dW (au (bf s.mem g.az)) (gm nt args) (eE s.mem g.az.length) p.ax.length/\(au (bf s.mem g.az)).length=(au s.mem).length+g.az.length):
  mJ ai mc own P ah (s.calls+1) p.ax.length fb tb nt (.int .i64 g.params,.int .i64 nt,.slice LA g.az.length bX,.slice BA g.blocks.length cL) qB (eE s.mem g.az.length) wb.heap.size #[.int .i64 g.params,.int .i64 nt,.slice LA g.az.length bX,.slice BA g.blocks.length cL] w w3 dQ
   {s with calls:=s.calls+1,deep:=max s.deep (s.calls+1),steps:=s.steps+aS g.az,mem:=bf s.mem g.az} (gm nt args):=by
 obtain⟨l1,l2,l3,l4,l5,l6,l7,l8,l9,Z2⟩:=hL;rw[List.take_length]at l1;have jw:∀i,w.heap.size<=i->i<w1.heap.size->¬dQ i:=λi h1 h2 h=>by
  rcases l8 i h with h|h
  ·have:=(how i h).2;omega
  ·omega
 have hno:∀i,qB.ownBlock=some i->w1.heap.size<=i:=λi hi=>(aC l6 hi).1;have hft:¬fb=tb:=λe=>by obtain⟨cs,hr,_⟩:=l3;exact l2.ne hr (by decide) e
 obtain⟨hb0,hb1,hb2,hb3,hb4⟩:=QW;refine⟨l1.wr hwr (λk hk=>⟨by omega,hk▸jw tb (by omega) hb3⟩),⟨?_,hv,?_,by rw[hl];omega⟩,⟨⟨jw fb (by omega) hb2,by omega⟩,⟨jw tb (by omega) hb3,by omega⟩,λg' iU=>⟨l9 g' iU,by have:=hno g' iU;omega⟩⟩,
  hS.1,hS.2.1,(λhn=>?_),rfl,hl,
  l4.wr hwr (λh=>by omega),jw _ (by omega) hb4,l5.wr hwr (λh=>by omega),⟨jw _ (by omega) (by omega),by omega⟩,l7,λi hi=>?_,by omega,?_⟩
 ·rw[hl];exact l2.wr hwr hft
 ·rw[fM];exact eX (aB l6 hwr (λi hi h=>by have:=hno i hi;omega)) (Nat.zero_le _)
 ·show 2<=(au (bf s.mem g.az)).length;rw[hS.2.2];have h1:=dY s.mem;have h2:0<g.az.length:=by
   rcases Nat.eq_zero_or_pos g.az.length with h|h
   ·exact absurd (by rw[h];rfl) hn
   ·exact h
  omega
 ·rcases l8 i hi with h|h
  ·exact aH h
  ·exact aT (by omega)
 ·refine(Uw.trans Z2 (λi hi=>?_)).trans hwr (λi hi=>aT (by omega));rcases hi with hi|hi
  ·exact aH hi
  ·exact aT (by omega)
end Go.Proofs.YtikbdplllopjlaaGreat
namespace Go.Proofs.YtikbdplllopjlaaGreat
open Go.RowKit
def dead(o:MO):MO:={o with live:=false}
theorem AP(M:List MO)(l:List Nat)(x:Nat):dZ M (l++[x])=(dZ M l).modify x dead:=by
 induction l generalizing M with
 |nil=>rfl
 |cons a l ih=>exact ih _
theorem kD(M:List MO)(l:List Nat):(dZ M l).length=M.length:=by
 induction l generalizing M with
 |nil=>rfl
 |cons a l ih=>simp[dZ,ih]
theorem cY{M:List MO}{j k:Nat}{o:MO}{f:MO->MO}(h:(M.modify j f)[k]? =some o):∃o0,M[k]? =some o0/\o=if j=k then f o0 else o0:=by
 rw[List.getElem?_modify]at h;cases h0:M[k]? with
 |none=>rw[h0]at h;simp at h
 |some o0=>
  rw[h0]at h;refine⟨o0,rfl,?_⟩;simp at h;split at h<;>simp_all
theorem b9.kill{M:List MO}(h:b9 M)(j:Nat):b9 (M.modify j dead):=by
 refine⟨by simpa using h.many,λo ho=>?_,λk o hk ho=>?_,λo ho v hv=>?_⟩
 ·obtain⟨o0,h0,rfl⟩:=cY ho;have:=h.zero o0 h0;subst this;split<;>rfl
 ·obtain⟨o0,h0,rfl⟩:=cY ho;have:=h.size k o0 hk h0;split
  ·exact this
  ·exact this
 ·obtain⟨k,hk⟩:=List.mem_iff_getElem?.1 ho;obtain⟨o0,h0,rfl⟩:=cY hk;rw[List.length_modify];refine h.vals o0 (List.mem_of_getElem? h0) v ?_;split at hv
  ·exact hv
  ·exact hv
theorem uL.kill{xs:List Value}{rb:Nat->Nat}{j k:Nat}{o:MO}(h:uL xs rb k o)(hl:k*3+2<xs.length):uL (xs.set (j*3+2) (.bool false)) rb k (if j=k then dead o else o):=by
 obtain⟨h0,h1,h2⟩:=h;unfold uL;rw[List.getElem?_set_ne (by omega),List.getElem?_set_ne (by omega)];by_cases e:j=k
 ·subst e;rw[if_pos rfl,List.getElem?_set_self hl];exact⟨h0,h1,rfl⟩
 ·rw[if_neg e,List.getElem?_set_ne (by omega)];exact⟨h0,h1,h2⟩
theorem cG.kill{w:World}{ai mc:Nat}{own:Nat->Prop}{P:Value×Value×Value}{ah:Int}{s:St}{inv outv:Value}{rb:Nat->Nat}{mg aA:Nat}(h:cG w ai mc own P ah s inv outv (.slice (some ⟨mg,0,none⟩) s.mem.length aA) rb)(j:Nat)(hj:j<s.mem.length):
  cG (w.setCell ⟨mg,j*3+2,none⟩ (.bool false)) ai mc own P ah {s with mem:=s.mem.modify j dead} inv outv (.slice (some ⟨mg,0,none⟩) s.mem.length aA) rb/\Wr own w (w.setCell ⟨mg,j*3+2,none⟩ (.bool false)):=by
 obtain⟨hr,hm,hs⟩:=h;have Wx:=hs.memo mg rfl;have hw:Wr (λk=>k=mg) w (w.setCell ⟨mg,j*3+2,none⟩ (.bool false)):=Wr.cell1 w mg _ _;obtain⟨⟨xs,hx,oC⟩,hmi,hinj,gu⟩:=hs.mem;obtain⟨hgb,cs,hgr⟩:=aC hx (g:=mg) rfl;have hne:∀g cs' t,Row w g cs' t->t≠116->¬g=mg:=λg cs' t eu ht e=>by subst e;exact eu.ne hgr ht rfl
 have hb:=hs.own mc hm;have Wz:=hs.own mg Wx;refine⟨⟨hr.wr hw (hne _ _ _ hr (by decide)),hm,⟨?_,?_,hs.rH,?_,hs.memo,λk hk=>⟨(hs.own k hk).1,kL (hs.own k hk).2 hw.size⟩⟩⟩,hw.mono (λk hk=>aH (hk▸Wx))⟩
 ·exact hs.inp.below (λb o hb'=>World.cell?_of_block (a:=⟨b,o,none⟩) (hw.block b (by omega) (λhf=>by omega)))
 ·refine aB hs.out hw (λg hg=>?_);obtain⟨_,cs',eu⟩:=aC hs.out hg;exact hne g cs' _ eu (by decide)
 ·refine⟨⟨xs.set (j*3+2) (.bool false),by rw[List.length_modify];exact(hx.stored (j*3+2) _).1,λk o ho=>?_⟩,λk o hk ho=>?_,λi k=>by rw[List.length_modify];exact hinj i k,gu.kill j⟩
  ·obtain⟨o0,h0,rfl⟩:=cY ho;refine(oC k o0 h0).kill ?_;have qg:k<s.mem.length:=by
    rcases Nat.lt_or_ge k s.mem.length with h|h
    ·exact h
    ·rw[List.getElem?_eq_none h]at h0;cases h0
   rw[hx.1];omega
  ·obtain⟨o0,h0,rfl⟩:=cY ho;obtain⟨h1,cv,h2,h3⟩:=hmi k o0 hk h0;refine⟨h1,cv,h2.wr hw (hne _ _ _ h2 (by decide)),?_⟩;split
   ·exact h3
   ·exact h3
theorem cG.calls{w:World}{ai mc:Nat}{own:Nat->Prop}{P:Value×Value×Value}{ah:Int}{s:St}{inv outv aU:Value}{rb:Nat->Nat}(h:cG w ai mc own P ah s inv outv aU rb)(c:Int):
  cG (w.setCell ⟨mc,11,none⟩ (.int .i64 c)) ai mc own P ah {s with calls:=c} inv outv aU rb:=cG.num (s':={s with calls:=c}) h 11 _ rfl rfl rfl rfl
theorem fP.make{M:List MO}(h:fP M)(o:jR):fP (gG M o):=by
 intro x hx hs v hv;unfold gG at hx;rw[List.mem_append]at hx;rcases hx with hx|hx
 ·split at hx
  ·simp at hx;subst hx;simp at hv
  ·exact h x hx hs v hv
 ·simp at hx;subst hx;unfold kF at hv;simp only[List.mem_map]at hv;obtain⟨i,_,rfl⟩:=hv;rfl
theorem fP.makes{M:List MO}(h:fP M):∀(l:List jR),fP (bf M l)
 |[]=>h
 |o::l=>(h.make o).makes l
theorem mem_modify{M:List MO}{k:Nat}{f:MO->MO}{x:MO}(h:x∈M.modify k f):x∈M\/∃o,M[k]? =some o/\x=f o:=by
 obtain⟨i,hi⟩:=List.getElem?_of_mem h;obtain⟨o0,h1,h2⟩:=cY hi;by_cases hki:k=i
 ·rw[if_pos hki]at h2;exact aT ⟨o0,hki▸h1,h2⟩
 ·rw[if_neg hki]at h2;exact aH (h2▸List.mem_of_getElem? h1)
theorem fP.J0{M:List MO}(h:fP M)(k:Nat):fP (M.modify k dead):=by
 intro x hx hs v hv;rcases mem_modify hx with hx|⟨o,ho,rfl⟩
 ·exact h x hx hs v hv
 ·exact h o (List.mem_of_getElem? ho) hs v hv
theorem fP.kills{M:List MO}(h:fP M):∀(l:List Nat),fP (dZ M l)
 |[]=>h
 |k::l=>(h.J0 k).kills l
theorem fP.store{M M':List MO}(h:fP M){size:Int}{a x:V}(hs:cS M size a x=some M')(h0:0<=size):fP M':=by
 unfold cS at hs;cases ha:qL M a size.toNat with
 |none=>rw[ha]at hs;simp at hs
 |some j=>
  rw[ha]at hs;simp only at hs;split at hs
  ·cases hs
  ·rename_i hn;simp only[Option.some.injEq]at hs;subst hs;have hsz:(aF M a.obj).size=size:=by
    unfold qL at ha;split at ha
    ·rename_i h1;have:=h1.2.2.1;omega
    ·cases ha
   intro o ho hso v hv;rcases mem_modify ho with ho|⟨o0,ho0,rfl⟩
   ·exact h o ho hso v hv
   ·have Wx:aF M a.obj=o0:=by unfold aF;rw[List.getD_eq_getElem?_getD,ho0];rfl
    simp only at hso hv;rw[Wx]at hsz;rcases List.mem_or_eq_of_mem_set hv with hv|hv
    ·exact h o0 (List.mem_of_getElem? ho0) hso v hv
    ·have hx:x.obj=0:=by
      rcases Nat.eq_zero_or_pos x.obj with h1|h1
      ·exact h1
      ·exact absurd ⟨h1,by omega⟩ hn
     rw[if_pos hx]at hv;rw[hv]
theorem La{M:List MO}(h:fP M){op:Int}{a:V}(h5:5<=op)(h11:op<=11){j:Nat}(ha:qL M a (gp op)=some j)(hl:j<(aF M a.obj).l.length)(hm:a.obj<M.length):
  nJ M op a=some (if op=8 then(aF M a.obj).l.getD j ⟨0,0⟩else⟨0,iP op ((aF M a.obj).l.getD j ⟨0,0⟩).n⟩):=by
 unfold nJ;rw[ha];have Fp:(aF M a.obj)∈M:=List.mem_of_getElem? (oz hm);have hv:(aF M a.obj).l.getD j ⟨0,0⟩∈(aF M a.obj).l:=by rw[List.getD_eq_getElem?_getD,List.getElem?_eq_getElem hl];exact List.getElem_mem _
 by_cases h8:op=8
 ·subst h8;simp only[if_true];split
  ·rfl
  ·rename_i h0;have h0':((aF M a.obj).l.getD j ⟨0,0⟩).obj=0:=by omega
   have e:iP 8 ((aF M a.obj).l.getD j ⟨0,0⟩).n=((aF M a.obj).l.getD j ⟨0,0⟩).n:=by unfold iP;rw[if_pos rfl]
   rw[e]
   congr 1
   generalize (aF M a.obj).l.getD j ⟨0,0⟩=v at h0';cases v
   simp_all
 ·have hsz:(aF M a.obj).size≠8:=by
   unfold qL at ha;split at ha
   ·rename_i h1;have h2:=h1.2.2.1;unfold gp at h2;intro h3;rw[h3]at h2;split at h2
    ·omega
    ·split at h2
     ·omega
     ·split at h2<;>omega
   ·cases ha
  have h0:=h _ Fp hsz _ hv;simp only;rw[if_neg (by omega),if_neg h8]
def Gr(w:World)(B mb mo k:Nat)(o:MO):Prop:=
 ∃A len aA,w.cell? ⟨mb,mo+k*3,none⟩=some (.int .i64 o.size)/\w.cell? ⟨mb,mo+k*3+1,none⟩=some (.slice A len aA)/\w.cell? ⟨mb,mo+k*3+2,none⟩=some (.bool (!o.live))/\
  (o.live=true->o.l.length=len/\Ed w B A o.l)/\len<=64/\0<=o.size/\o.size<=8
def cB(w:World)(B:Nat)(A:Option Addr)(n:Nat)(M:List MO):Prop:=
 M.length<=n+1/\n<=4294967296/\∀k o,M[k+1]? =some o->∃mb mo,A=some ⟨mb,mo,none⟩/\mb<B/\k<n/\Gr w B mb mo k o
theorem cB.get{w:World}{B n:Nat}{A:Option Addr}{M:List MO}(h:cB w B A n M){k:Nat}(hk:k+1<M.length):
  ∃mb mo,A=some ⟨mb,mo,none⟩/\mb<B/\k<n/\Gr w B mb mo k (aF M (k+1)):=
 h.2.2 k _ (oz hk)
theorem Gr.below{w w':World}{B B' mb mo k:Nat}{o:MO}(h:Gr w B mb mo k o)(hb:Below B w w')(hB:B<=B')(hm:mb<B):Gr w' B' mb mo k o:=by
 obtain⟨A,len,aA,c0,c1,c2,h1,h2⟩:=h;exact⟨A,len,aA,(hb.cell (p:=⟨mb,mo+k*3,none⟩) hm).trans c0,(hb.cell (p:=⟨mb,mo+k*3+1,none⟩) hm).trans c1,(hb.cell (p:=⟨mb,mo+k*3+2,none⟩) hm).trans c2,λhl=>⟨(h1 hl).1,(h1 hl).2.below hb hB⟩,h2⟩
theorem cB.below{w w':World}{B B' n:Nat}{A:Option Addr}{M:List MO}(h:cB w B A n M)(hb:Below B w w')(hB:B<=B'):cB w' B' A n M:=by
 refine⟨h.1,h.2.1,λk o hk=>?_⟩;obtain⟨mb,mo,hA,hlt,lV,ho⟩:=h.2.2 k o hk;exact⟨mb,mo,hA,by omega,lV,ho.below hb hB hlt⟩
end Go.Proofs.YtikbdplllopjlaaGreat
