/- graph.Run, whatever is asked. Conditions: as stated. CopyTree, CopyTrees: a tree in memory of its own. Conditions: as stated. A memory of which some blocks alone are looked at; a row of its own whose elements lie in memory of their own. No condition. The page's machine: a step for which no fuel is left. Conditions: as stated. The page's machine: a set. Conditions: as stated. The page's machine: nothing comes in. Conditions: as stated. The page's machine: what is put out is no number. Conditions: as stated. The page's machine: what it ends with is no number. Conditions: as stated. The page's machine: an exit. Conditions: as stated. The page's machine: a number is put out. Conditions: as stated. The page's machine: a store that is stuck. Conditions: as stated. The page's machine: a store. Conditions: as stated. The page's machine: a call that ends it. Conditions: as stated. -/
import Derived.Test.YtikbdplllopjlaaGreatGRunBZz
set_option linter.unusedVariables false
set_option linter.unusedSimpArgs false
set_option maxHeartbeats 8000000
set_option maxRecDepth 100000
open Go.Proofs.Tryz
namespace Go.Proofs.YtikbdplllopjlaaGreat
open Go.RowKit
theorem Rz(p:aM)(inp:Value)(ah:Int)(GA FA:Option Addr)(gc fc:Nat)(w:World)(mb:Bool)
  (yE:∀W,Below w.heap.size w W->Calls prog 22 #[.agg #[.slice GA p.ax.length gc,.slice FA p.funcs.length fc,.int .i64 p.main]] W λe w'=>e= .returned (.bool mb)/\Below W.heap.size W w')
  (hno:mb=false\/ah<0\/ah>2000000)(IA:Option Addr)(il ic:Nat)(hinp:inp= .slice IA il ic):
  Calls prog 11 #[.agg #[.slice GA p.ax.length gc,.slice FA p.funcs.length fc,.int .i64 p.main],inp,.int .i64 ah] w λe w'=>e= .returned (.tuple #[.agg #[.int .i64 0,.int .i64 0,.slice none 0 0,.int .i64 0,.int .i64 0],.int .i64 1])/\Below w.heap.size w w':=by
 subst hinp;have lX:=aJ w (.cells #[.slice GA p.ax.length gc,.slice FA p.funcs.length fc,.int .i64 p.main] 31) (.cells #[.int .i64 0,.int .i64 0,.slice none 0 0,.int .i64 0,.int .i64 0] 40);have bL:=ae lX;have CL:=ae ((Row.new w #[.slice GA p.ax.length gc,.slice FA p.funcs.length fc,.int .i64 p.main] 31).alloc (.cells #[.int .i64 0,.int .i64 0,.slice none 0 0,.int .i64 0,.int .i64 0] 40));have oD:=Row.new (w.alloc (.cells #[.slice GA p.ax.length gc,.slice FA p.funcs.length fc,.int .i64 p.main] 31)) #[.int .i64 0,.int .i64 0,.slice none 0 0,.int .i64 0,.int .i64 0] 40;rw[World.size_alloc]at oD;have VW:=ae oD;have JC:=ae yE;clear lX oD yE;cases mb with
 |false=>
  clear hno;go_enter func11,ntmps11;refine ak λQ HQ=>?_;go_wp2_with fail;refine(JC _ bL.out).mono ?_;rintro e w1 ⟨rfl,hb1⟩;have bn:=ae (bL.trans (hb1.mono bL.size));have j3:=VW.below hb1 VW.lt;have rJ:=CL.below hb1 CL.lt;have i0:=rJ.cell (j:=0) rfl;have i1:=rJ.cell (j:=1) rfl;have i2:=rJ.cell (j:=2) rfl;have pl:=rJ.lt;have r0:=j3.cell (j:=0) rfl;have r1:=j3.cell (j:=1) rfl;have r2:=j3.cell (j:=2) rfl;have r3:=j3.cell (j:=3) rfl;have r4:=j3.cell (j:=4) rfl;have s0:=j3.free 0;have s1:=j3.free 1;have s2:=j3.free 2;have s3:=j3.free 3;have s4:=j3.free 4;have rl:=j3.lt;have Kj:=ae j3;clear hb1 j3 rJ;go_wp2_with fail;refine HQ _ _ _ ?_
  have lL:=(((((Kj.set 0 (.int .i64 0)).set 1 (.int .i64 0)).set 2 (.slice none 0 0)).set 3 (.int .i64 0)).set 4 (.int .i64 0))
  have t0:=lL.cell (j:=0) rfl;have t1:=lL.cell (j:=1) rfl;have t2:=lL.cell (j:=2) rfl;have t3:=lL.cell (j:=3) rfl;have t4:=lL.cell (j:=4) rfl;clear lL;have QV:=ni w1 (w.heap.size+1) (.int .i64 0) (.int .i64 0) (.slice none 0 0) (.int .i64 0) (.int .i64 0);refine aR (v:= .tuple #[.agg #[.int .i64 0,.int .i64 0,.slice none 0 0,.int .i64 0,.int .i64 0],.int .i64 1]) (by simp[results,results11,go_sem,r0,r1,r2,r3,r4,t0,t1,t2,t3,t4]) rfl ⟨rfl,?_⟩;exact bn.trans (QV.below (B:=w.heap.size) (by have:=bn.size;omega) (λk hk=>by omega))
 |true=>
  have GL:decide (ah<0)=true\/(decide (ah<0)=false/\decide (2000000<ah)=true):=by
   rcases hno with h|h|h
   ·cases h
   ·exact aH (by simpa using h)
   ·exact aT ⟨by simp;omega,by simpa using h⟩
  clear hno;rcases GL with hd|⟨hd,zQ⟩
  all_goals
   go_enter func11,ntmps11;refine ak λQ HQ=>?_;go_wp2_with fail;refine(JC _ bL.out).mono ?_;rintro e w1 ⟨rfl,hb1⟩;have bn:=ae (bL.trans (hb1.mono bL.size));have j3:=VW.below hb1 VW.lt;have rJ:=CL.below hb1 CL.lt;have i0:=rJ.cell (j:=0) rfl;have i1:=rJ.cell (j:=1) rfl;have i2:=rJ.cell (j:=2) rfl;have pl:=rJ.lt;have r0:=j3.cell (j:=0) rfl;have r1:=j3.cell (j:=1) rfl;have r2:=j3.cell (j:=2) rfl;have r3:=j3.cell (j:=3) rfl;have r4:=j3.cell (j:=4) rfl;have s0:=j3.free 0;have s1:=j3.free 1;have s2:=j3.free 2;have s3:=j3.free 3;have s4:=j3.free 4;have rl:=j3.lt;have Kj:=ae j3;clear hb1 j3 rJ;go_wp2_with fail;refine HQ _ _ _ ?_
   have lL:=(((((Kj.set 0 (.int .i64 0)).set 1 (.int .i64 0)).set 2 (.slice none 0 0)).set 3 (.int .i64 0)).set 4 (.int .i64 0))
   have t0:=lL.cell (j:=0) rfl;have t1:=lL.cell (j:=1) rfl;have t2:=lL.cell (j:=2) rfl;have t3:=lL.cell (j:=3) rfl;have t4:=lL.cell (j:=4) rfl;clear lL;have QV:=ni w1 (w.heap.size+1) (.int .i64 0) (.int .i64 0) (.slice none 0 0) (.int .i64 0) (.int .i64 0);refine aR (v:= .tuple #[.agg #[.int .i64 0,.int .i64 0,.slice none 0 0,.int .i64 0,.int .i64 0],.int .i64 1]) (by simp[results,results11,go_sem,r0,r1,r2,r3,r4,t0,t1,t2,t3,t4]) rfl ⟨rfl,?_⟩;exact bn.trans (QV.below (B:=w.heap.size) (by have:=bn.size;omega) (λk hk=>by omega))
def zD(p:aM)(ah:Int):Prop:=fA p=true/\0<=ah/\ah<=2000000
instance(p:aM)(ah:Int):Decidable (zD p ah):=by unfold zD;exact inferInstance
def Az(p:aM)(inp:List Int)(ah:Int):sX:=if zD p ah then wV p inp ah else⟨0,0,[],0,0⟩
def Br(p:aM)(ah:Int):Int:=if zD p ah then 0 else 1
def YX(o:sX)(er:Int)(w:World)(e:Ending)(w':World):Prop:=
 ∃outv,e= .returned (.tuple #[.agg #[.int .i64 o.kind,.int .i64 o.code,outv,.int .i64 o.steps,.int .i64 o.deep],.int .i64 er])/\w'.ownsRow w.heap.size 2 1 outv o.out.length (o.out.map (Value.int .i64))/\Below w.heap.size w w'
theorem qH(B:Nat)(p:aM)(P:Value×Value×Value)(inp:List Int)(inv:Value)(ah:Int)(w:World)(hB:B<=w.heap.size)(hP:bH w B P p)(gZ:vE w B inv inp)(Fk:∀g,g∈p.funcs->∀b,b∈g.blocks->b.steps.length<=200000000000000):
  Calls prog 11 #[.agg #[P.1,P.2.1,P.2.2],inv,.int .i64 ah] w λe w'=>YX (Az p inp ah) (Br p ah) w e w':=by
 obtain⟨GA,gc,FA,fc,rfl⟩:=hP.shape;obtain⟨IA,ic,Qb,_⟩:=id gZ;have yE:∀W,Below w.heap.size w W->Calls prog 22 #[.agg #[.slice GA p.ax.length gc,.slice FA p.funcs.length fc,.int .i64 p.main]] W λe w'=>e= .returned (.bool (fA p))/\Below W.heap.size W w':=
  λW hW=>FK p (.slice GA p.ax.length gc,.slice FA p.funcs.length fc,.int .i64 p.main) B W (by have:=hW.size;omega) (hP.below (hW.mono hB)) Fk
 by_cases hg:zD p ah
 ·have ho:Az p inp ah=wV p inp ah:=if_pos hg;have he:Br p ah=0:=if_pos hg;rw[ho,he];obtain⟨h1,h2,h3⟩:=hg;have gu:=J6 hP.pin h1;obtain⟨f,g,hm,Rk,hg0⟩:=gu.main;rw[h1]at yE;rw[hm]at yE hP ⊢;subst Qb;exact(OS B p inp f g GA FA IA gc fc ic ah w hB hP gZ gu hm Rk hg0 h2 h3 yE).mono (λe w' h=>h)
 ·have ho:Az p inp ah=⟨0,0,[],0,0⟩:=if_neg hg;have he:Br p ah=1:=if_neg hg;rw[ho,he];have hno:fA p=false\/ah<0\/ah>2000000:=by
   cases hb:fA p with
   |false=>exact aH rfl
   |true=>exact aT (by have:¬(0<=ah/\ah<=2000000):=λh=>hg ⟨hb,h.1,h.2⟩;omega)
  refine(Rz p inv ah GA FA gc fc w _ yE hno IA _ ic Qb).mono ?_;rintro e w' ⟨rfl,hb⟩;exact⟨_,rfl,World.ownsRow_nil _ _ _ _,hb⟩
def Kg(t:T)(w:World)(e:Ending)(w':World):Prop:=
 ∃u0 u1 u2,e= .returned (.agg #[u0,u1,u2])/\ja w' (λi=>w.heap.size<=i/\i<w'.heap.size) t u0 u1 u2/\Below w.heap.size w w'
theorem G6{w w1 W:World}{X S:Nat->Prop}{ai k:Nat}{lv:Value}{ts:List T}{xs:List Value}{op x:Int}(h1:Below w.heap.size w w1)(hR:jo ai w1 lv k ts xs S)(hk:ts.length=k)(ho:bz op)(hx:bz x)(hw:Wr X w1 W)(hX:∀i,X i->w.heap.size<=i/\i<ai)(hb:w.heap.size<=ai):
  Kg (.node op x ts) w (.returned (.agg #[.int .i64 op,.int .i64 x,lv])) W:=by
 have hz:=h1.size;have hR2:=hR.wr hw (λi hi=>⟨λhs=>by have:=(hR.sb i hs).1;have:=(hX i hi).2;omega,λhl=>by have:=(hR.lt hl).1;have:=(hX i hi).2;omega⟩);refine⟨_,_,_,rfl,ja.mono _ (hR2.node hk ho hx) (λi hi=>?_),h1.trans (hw.below hz (λi hi=>(hX i hi).1))⟩;rcases hi with hi|hi
 ·have:=hR2.sb i hi;exact⟨by omega,this.2.1⟩
 ·have:=hR2.lt hi;exact⟨by omega,this.2⟩
def Ps(ks:List T)(w:World)(e:Ending)(w':World):Prop:=
 ∃lv xs S,e= .returned lv/\jo w.heap.size w' lv ks.length ks xs S/\Below w.heap.size w w'
end Go.Proofs.YtikbdplllopjlaaGreat
namespace Go.Proofs.YtikbdplllopjlaaGreat
open Go.RowKit
def Sub(w w':World):Prop:=∀p v,w.cell? p=some v->w'.cell? p=some v
theorem Sub.refl(w:World):Sub w w:=λ_ _ h=>h
open Classical in
noncomputable def only(w:World)(S:Nat->Prop):World:={w with heap:=Array.ofFn (n:=w.heap.size) λi=>if S i.1 then w.heap[i.1]else .stringIter ByteArray.empty 0}
theorem sG(w:World)(S:Nat->Prop):(only w S).heap.size=w.heap.size:=by simp[only]
theorem wW{w:World}{S:Nat->Prop}{k:Nat}(h:S k):(only w S).heap[k]? =w.heap[k]? :=by
 rcases Nat.lt_or_ge k w.heap.size with hl|hl
 ·simp[only,hl,h]
 ·rw[Array.getElem?_eq_none (by rw[sG];exact hl),Array.getElem?_eq_none hl]
theorem QG(w:World)(S:Nat->Prop):Wr (λk=>¬S k) w (only w S):=
 ⟨rfl,rfl,rfl,by rw[sG];exact aN _,λk _ h=>wW (Classical.not_not.1 h)⟩
theorem CS{w:World}{S:Nat->Prop}{p:Addr}{v:Value}(h:(only w S).cell? p=some v):S p.block/\p.block<w.heap.size/\w.cell? p=some v:=by
 have hlt:p.block<w.heap.size:=by
  unfold World.cell? at h;rcases Nat.lt_or_ge p.block w.heap.size with hl|hl
  ·exact hl
  ·rw[Array.getElem?_eq_none (by rw[sG];exact hl)]at h;cases h
 by_cases hs:S p.block
 ·rw[World.cell?_of_block (wW hs)]at h;exact⟨hs,hlt,h⟩
 ·unfold World.cell? at h;simp[only,hlt,hs]at h
theorem EZ(w:World)(S:Nat->Prop):Sub (only w S) w:=λ_ _ h=>(CS h).2.2
theorem lI{w w':World}{S S':Nat->Prop}(h:∀k,S k->k<w.heap.size->S' k/\w'.heap[k]? =w.heap[k]?):Sub (only w S) (only w' S'):=by
 intro p v hv;obtain⟨h1,h2,h3⟩:=CS hv;obtain⟨h4,h5⟩:=h _ h1 h2;rw[World.cell?_of_block (wW h4),World.cell?_of_block h5];exact h3
def Ef{α:Type}(E:World->Nat->(Nat->Option Value)->α->Prop)(sz:Nat):Prop:=
 ∀w w' B B' c c' x,Sub w w'->B<=B'->(∀j v,j<sz->c j=some v->c' j=some v)->E w B c x->E w' B' c' x
theorem aL.sub{α:Type}{E:World->Nat->(Nat->Option Value)->α->Prop}{sz:Nat}(hE:Ef E sz){w w':World}{B B':Nat}{l:List α}{v:Value}(h:aL w B sz (E w B) l v)(hs:Sub w w')(hB:B<=B'):aL w' B' sz (E w' B') l v:=by
 obtain⟨A,aA,h0,h1,h2⟩:=h;refine⟨A,aA,h0,h1,λhp=>?_⟩;obtain⟨b,off,hA,hlt,hx⟩:=h2 hp;exact⟨b,off,hA,by omega,λi x hi=>hE _ _ _ _ _ _ _ hs hB (λj v _ hj=>hs _ _ hj) (hx i x hi)⟩
def uM(_:World)(_:Nat)(c:Nat->Option Value)(x:Int):Prop:=c 0=some (.int .i64 x)/\bz x
theorem uM.mono:Ef uM 1:=λ_ _ _ _ _ _ _ _ _ hc h=>⟨hc _ _ (by decide) h.1,h.2⟩
theorem bE.sub{w w':World}{B B':Nat}{l:List Int}{v:Value}(h:bE w B l v)(hs:Sub w w')(hB:B<=B'):bE w' B' l v:=
 aL.sub (E:=uM) uM.mono h hs hB
mutual
theorem aX.sub{w w':World}(hs:Sub w w'){B B':Nat}(hB:B<=B'):∀(t:T){v0 v1 v2:Value},aX w (dP B) t v0 v1 v2->aX w' (dP B') t v0 v1 v2
 | .node op n ks,v0,v1,v2,h=>by
  simp only[aX]at h ⊢;obtain⟨h0,h1,h2,h3,h4,A,aA,h5,h6⟩:=h;refine⟨h0,h1,h2,h3,h4,A,aA,h5,λhp=>?_⟩;obtain⟨b,off,hA,hc,hk⟩:=h6 hp;exact⟨b,off,hA,kL hc hB,cU.sub hs hB ks hk⟩
theorem cU.sub{w w':World}(hs:Sub w w'){B B':Nat}(hB:B<=B'):∀(ks:List T){b off:Nat},cU w (dP B) ks b off->cU w' (dP B') ks b off
 |[],b,off,_=>by simp[cU]
 |k::ks,b,off,h=>by
  simp only[cU]at h ⊢;obtain⟨⟨v0,v1,v2,c0,c1,c2,ht⟩,hr⟩:=h;exact⟨⟨v0,v1,v2,hs _ _ c0,hs _ _ c1,hs _ _ c2,aX.sub hs hB k ht⟩,cU.sub hs hB ks hr⟩
end
theorem bC.sub{w w':World}{B B' n:Nat}{ks:List T}{A:Option Addr}(h:bC w B ks A n)(hs:Sub w w')(hB:B<=B'):bC w' B' ks A n:=by
 obtain⟨h1,h2,h3⟩:=h;refine⟨h1,h2,λhp=>?_⟩;obtain⟨b,off,hA,hlt,hk⟩:=h3 hp;exact⟨b,off,hA,by omega,cU.sub hs hB ks hk⟩
theorem oI.sub{w w':World}{B B':Nat}{l:List T}{v:Value}(h:oI w B l v)(hs:Sub w w')(hB:B<=B'):oI w' B' l v:=by
 obtain⟨A,n,aA,h0,h1⟩:=h;exact⟨A,n,aA,h0,h1.sub hs hB⟩
theorem rf.mono:Ef rf 3:=by
 intro w w' B B' c c' x hs hB hc h;obtain⟨h0,h1,⟨v,h2,h3⟩,h4⟩:=h;exact⟨hc _ _ (by decide) h0,hc _ _ (by decide) h1,⟨v,hc _ _ (by decide) h2,h3.sub hs hB⟩,h4⟩
theorem gA.mono:Ef gA 5:=by
 intro w w' B B' c c' x hs hB hc h;obtain⟨h0,h1,h2,h3,⟨v,h4,h5⟩,h6⟩:=h;exact⟨hc _ _ (by decide) h0,hc _ _ (by decide) h1,hc _ _ (by decide) h2,hc _ _ (by decide) h3,⟨v,hc _ _ (by decide) h4,h5.sub hs hB⟩,h6⟩
theorem dX.mono:Ef dX 7:=by
 intro w w' B B' c c' x hs hB hc h;obtain⟨⟨v,h0,h1⟩,h2,⟨v0,v1,v2,h3,h4,h5,h6⟩,h7,h8,h9⟩:=h;exact⟨⟨v,hc _ _ (by decide) h0,aL.sub gA.mono h1 hs hB⟩,hc _ _ (by decide) h2,⟨v0,v1,v2,hc _ _ (by decide) h3,hc _ _ (by decide) h4,hc _ _ (by decide) h5,aX.sub hs hB _ h6⟩,hc _ _ (by decide) h7,hc _ _ (by decide) h8,h9⟩
theorem dV.mono:Ef dV 4:=by
 intro w w' B B' c c' x hs hB hc h;obtain⟨h0,h1,⟨v,h2,h3⟩,⟨u,h4,h5⟩,h6⟩:=h;exact⟨hc _ _ (by decide) h0,hc _ _ (by decide) h1,⟨v,hc _ _ (by decide) h2,aL.sub rf.mono h3 hs hB⟩,⟨u,hc _ _ (by decide) h4,aL.sub dX.mono h5 hs hB⟩,h6⟩
def Dh(m:Nat):Prop:=∀(t:T)(B:Nat)(w:World)(v0 v1 v2:Value),t.size<=m->T.few t->B<=w.heap.size->aX w (dP B) t v0 v1 v2->
  Calls prog 98 #[.agg #[v0,v1,v2]] w (Kg t w)
theorem tA(m:Nat)(ih:Dh m)(ks:List T)(A:Option Addr)(n aA B:Nat)(w:World)(hm:T.sizes ks<=m)(Iy:ks.length*40<=140737488351232)(MV:T.xJ ks)(hB:B<=w.heap.size)(hv:bC w B ks A n):
  Calls prog 116 #[.slice A n aA] w (Ps ks w):=by
 obtain⟨lV,hn,_⟩:=id hv;subst lV;have HF:=ae MV;clear MV;have HV:=ae hv;have IH:=ae ih;clear hv ih;obtain⟨i0,hi,hz0,hz1,hz2⟩:=info_parts KE;go_enter func116,ntmps116;refine ak λQ HQ=>?_;go_wp2_with fail;go_loopw [3,4] (λl i wr=>∃(k:Nat)(LA:Option Addr)(ln lc:Nat)(xs:List Value)(S:Nat->Prop),k<=ks.length/\i= .int .i64 k/\l= .slice LA ln lc/\jo w.heap.size wr (.slice LA ln lc) k (ks.take k) xs S/\Below w.heap.size w wr) (λ_ i _=>ks.length-(intOf i).toNat)
 case atStart=>exact⟨0,none,0,0,[],λ_=>False,by omega,rfl,rfl,jo.nil _ _,bI _ _⟩
 case round=>
  obtain⟨k,LA,ln,lc,xs,S,hk,rfl,rfl,hR,aG⟩:=hrel;have HR:=ae hR;have cV:=ae aG;have fV:=aG.size;by_cases hlt:k<ks.length
  ·obtain⟨b,off,t,v0,v1,v2,rfl,hb,bA,c0,c1,c2,ht⟩:=(HV.below (aG.mono hB) (aN _)).get hlt;have fH:=T.dC bA;have HC:=ae (IH.out t B wr v0 v1 v2 (by omega) (T.FQ HF.out bA) (by omega) ht);have iw:=ae bA;have eY:(k:Int)<(ks.length:Int):=by omega
   have hbl:b<wr.heap.size:=by omega
   obtain⟨a0,b0,A0,n0,Qg,rfl,rfl,rfl⟩:=ht.eH;clear hR aG bA ht fH;go_wp2_with fail;refine HC.mono ?_;rintro e w1 ⟨u0,u1,u2,rfl,hO,hb1⟩;obtain⟨A1,n1,cc1,rfl,rfl,rfl,_,_⟩:=hO.shape;have jg:=hb1.size;have HO:=ae hO;have bn:=ae hb1;clear hO hb1;go_wp2_with(at_builtin;refine wpList_append_lies _ rfl (.tmp 11) (.tmp 17) 88 rfl w.heap.size 90 i0 (.agg #[.int .i64 0,.int .i64 0,.slice none 0 0]) 3 40 underlying88 hi hz0 hz1 hz2 rfl (by decide) _ k xs rfl (by exact(aB HR.own ((di bn.out).eA _) (λ_ _ h=>h))) ⟨w1.heap.size,0,none⟩ 1 1 [.int .i64 t.op,.int .i64 t.n,.slice A1 n1 cc1] rfl rfl ?c1 ?c2 (by decide) ?c3 ?c4 ?c5 _ rfl ?_)
   case c1=>exact lR _ _ _
   case c2=>intro u hu;simp at hu;rcases hu with rfl|rfl|rfl<;>rfl
   case c3=>unfold maxLen;omega
   case c4=>omega
   case c5=>simp;omega
   ·intro g cap' w3 iC hgrow hat Fv;have HN:=ae (jo.next (X:=λ_=>False) HR (by omega) (Wr.of_below bn.out) HO (λi hi=>hi) (Wr.of_below (aj w1 _)) iC hgrow (by simpa using hat) (Wr.refl _ _) (λi hi=>hi.elim));have PI:=ae (show Below w.heap.size w w3 from(cV.trans (bn.mono fV)).trans (((bI _ _).alloc (by omega) _).grown hgrow (by simp;omega) (λg hg=>by have:=(HR.lt hg);omega)));clear iC hgrow hat;go_wp2_with fail;go_roundw
    case rel=>exact⟨k+1,_,_,_,_,_,by omega,by go_num,rfl,by rw[dH iw.out];exact HN.out,PI.out⟩
    case measure=>simp[intOf];omega
  ·obtain rfl:k=ks.length:=by omega
   rw[List.take_length]at hR;have jX:=ae hR;clear hR aG;go_wp2_with fail;refine HQ _ _ _ ?_;exact aR (v:= .slice LA ln lc) (by simp[results,results116,go_sem]) rfl ⟨_,xs,S,rfl,jX.out,cV.out⟩
theorem C6(m:Nat):Dh m:=by
 induction m with
 |zero=>intro t _ _ _ _ _ hm;have:=t.size_pos;omega
 |succ m ih=>
  rintro⟨op,x,ks⟩ B w v0 v1 v2 hm Iz hB hv;obtain⟨A,aA,len,rfl,rfl,UE,Lf,rfl,hk⟩:=bC.gI hv;simp only[T.size]at hm;rw[T.few]at Iz;have HO64:=ae UE;have HX64:=ae Lf;have HC:=ae (λW(hb:Below w.heap.size w W)=>tA m ih ks A len aA B W (by omega) Iz.1 Iz.2 (by have:=hb.size;omega) (hk.below (hb.mono hB) (aN _)));have jd:=ae (aO w (.cells #[.int .i64 op,.int .i64 x,.slice A len aA] 90) (.cells #[.int .i64 0,.int .i64 0,.slice none 0 0] 90) (.cells #[.int .i64 op,.int .i64 x,.slice A len aA] 90));clear hv hk ih hm Iz UE Lf;go_enter func98,ntmps98;refine ak λQ HQ=>?_;go_wp2_with fail;refine(HC _ (by exact jd.out)).mono ?_;rintro e w1 ⟨lv,xs,S,rfl,hR,hb1⟩
  obtain⟨LA,ln,lc,rfl⟩:∃A n c,lv= .slice A n c:=(by obtain⟨_,h|⟨g,c,cur,h,_⟩⟩:=hR.own;exact⟨_,_,_,h.1⟩;exact⟨_,_,_,h⟩)
  have hz1:w.heap.size+1+1+1<=w1.heap.size:=by have:=hb1.size;simpa using this
  have q0:w1.cell? ⟨w.heap.size+1,0,none⟩=some (.int .i64 0):=ag (by simp[go_sem]) hb1 (by simp);have q1:w1.cell? ⟨w.heap.size+1,1,none⟩=some (.int .i64 0):=ag (by simp[go_sem]) hb1 (by simp);have q2:w1.cell? ⟨w.heap.size+1,2,none⟩=some (.slice none 0 0):=ag (by simp[go_sem]) hb1 (by simp);have x0:w1.cell? ⟨w.heap.size+1+1,0,none⟩=some (.int .i64 op):=ag (by simp[go_sem]) hb1 (by simp);have x1:w1.cell? ⟨w.heap.size+1+1,1,none⟩=some (.int .i64 x):=ag (by simp[go_sem]) hb1 (by simp);have x2:w1.cell? ⟨w.heap.size+1+1,2,none⟩=some (.slice A len aA):=ag (by simp[go_sem]) hb1 (by simp);have f0:w1.frozen? ⟨w.heap.size+1,0,none⟩=false:=((aY hb1).2 _ _ (by simp)).trans (by simp[go_sem])
  have f1:w1.frozen? ⟨w.heap.size+1,1,none⟩=false:=((aY hb1).2 _ _ (by simp)).trans (by simp[go_sem]);have f2:w1.frozen? ⟨w.heap.size+1,2,none⟩=false:=((aY hb1).2 _ _ (by simp)).trans (by simp[go_sem]);have g2:w1.frozen? ⟨w.heap.size+1+1,2,none⟩=false:=((aY hb1).2 _ _ (by simp)).trans (by simp[go_sem]);have HR:=ae hR;have bn:=ae (jd.trans (hb1.mono (by simp;omega)));clear hR hb1;go_wp2_with fail;refine HQ _ _ _ ?_;refine aR (v:= .agg #[.int .i64 op,.int .i64 x,.slice LA ln lc]) (by simp[results,results98,go_sem,q0,q1,q2]) rfl ?_;refine G6 (X:=λi=>i=w.heap.size+1\/i=w.heap.size+1+1) bn.out HR.out rfl HO64.out HX64.out ?_ (λi hi=>by simp;omega) (by simp;omega)
  repeat(first|(with_reducible exact Wr.refl _ _)|(with_reducible refine Wr.gz ?_)|(with_reducible refine Wr.eA ?_ _)|(with_reducible refine Wr.iO ?_ _ _ _ (aH ?_))|exact aH rfl|exact aT rfl)
def From(N:Nat):Nat->Prop:=λk=>N<=k
structure ku {α:Type} (E:World->Nat->(Nat->Option Value)->α->Prop) (ty:TypeId) (sz ai:Nat) (w:World) (lv:Value) (l:List α) (xs:List Value):Prop where
 own:w.ownsRow ai ty sz lv l.length xs
 elems:∀i x,l[i]? =some x->E (only w (λb=>ai<=b/\¬lv.ownBlock=some b)) w.heap.size (λj=>xs[i*sz+j]?) x
theorem ku.nil{α:Type}(E:World->Nat->(Nat->Option Value)->α->Prop)(ty:TypeId)(sz ai:Nat)(w:World):ku E ty sz ai w (.slice none 0 0) ([]:List α) []:=
 ⟨by simpa using World.ownsRow_nil w ai ty sz,λi x h=>by simp at h⟩
theorem ku.lt{α:Type}{E:World->Nat->(Nat->Option Value)->α->Prop}{ty:TypeId}{sz ai:Nat}{w:World}{lv:Value}{l:List α}{xs:List Value}(h:ku E ty sz ai w lv l xs){g:Nat}(hg:lv.ownBlock=some g):ai<=g/\g<w.heap.size:=by
 obtain⟨h1,cs,h2⟩:=aC h.own hg;exact⟨h1,h2.lt⟩
theorem ku.next{α:Type}{E:World->Nat->(Nat->Option Value)->α->Prop}{sz:Nat}(hE:Ef E sz){ty:TypeId}{ai g aA:Nat}{wr w1 W2 w3:World}{lv:Value}{l:List α}{xs us:List Value}{x:α}
  (h:ku E ty sz ai wr lv l xs)(hbase:ai<=wr.heap.size)(h1:Below wr.heap.size wr w1)(hx:E (only w1 (From wr.heap.size)) w1.heap.size (λj=>us[j]?) x)(hus:us.length=sz)(h2:Below w1.heap.size w1 W2)
  (hown:w3.ownsRow ai ty sz (.slice (some ⟨g,0,none⟩) (l.length+1) aA) (l.length+1) (xs++us))(hgrow:W2.grownBy w3 lv.ownBlock)(hat:lv.ownBlock=some g\/g=W2.heap.size):
  ku E ty sz ai w3 (.slice (some ⟨g,0,none⟩) (l.length+1) aA) (l++[x]) (xs++us):=by
 have z1:=h1.size;have z2:=h2.size;have z3:=hgrow.size;have sI:xs.length=l.length*sz:=h.own.1;refine⟨by simpa using hown,λi y hy=>?_⟩;rcases Nat.lt_or_ge i l.length with hi|hi
 ·rw[List.getElem?_append_left hi]at hy;refine hE _ _ _ _ _ _ _ (lI ?_) (by omega) ?_ (h.elems i y hy)
  ·rintro k ⟨bA,hk2⟩ hk3;refine⟨⟨bA,λe=>?_⟩,?_⟩
   ·simp only[Value.ownBlock,Option.some.injEq]at e;subst e;rcases hat with hat|hat
    ·exact hk2 hat
    ·omega
   ·exact((hgrow.block k (by omega) (λe=>hk2 e.symm)).trans (h2.block k (by omega))).trans (h1.block k hk3)
  ·intro j v hjs hj;show(xs++us)[i*sz+j]? =some v;rw[List.getElem?_append_left ?_]
   ·exact hj
   ·rw[sI]
    calc i*sz+j<i*sz+sz:=by omega
     _=(i+1)*sz:=by rw[Nat.add_mul,Nat.one_mul]
     _<=l.length*sz:=Nat.mul_le_mul_right _ hi
 ·obtain rfl:i=l.length:=by
   have:=(List.getElem?_eq_some_iff.1 hy).1;simp at this;omega
  simp at hy;subst hy;refine hE _ _ _ _ _ _ _ (lI ?_) (by omega) ?_ hx
  ·intro k bA hk2;have pV:wr.heap.size<=k:=bA;refine⟨⟨by omega,λe=>?_⟩,?_⟩
   ·simp only[Value.ownBlock,Option.some.injEq]at e;subst e;rcases hat with hat|hat
    ·have:=(h.lt hat).2;omega
    ·omega
   ·exact(hgrow.block k (by omega) (λe=>by have:=(h.lt e.symm).2;omega)).trans (h2.block k hk2)
  ·intro j v hjs hj;show(xs++us)[l.length*sz+j]? =some v;rw[<-sI,List.getElem?_append_right (by omega),Nat.add_sub_cancel_left];exact hj
theorem ku.slice{α:Type}{E:World->Nat->(Nat->Option Value)->α->Prop}{sz:Nat}(hE:Ef E sz){ty:TypeId}{ai:Nat}{w:World}{lv:Value}{l:List α}{xs:List Value}(h:ku E ty sz ai w lv l xs):
  aL (only w (From ai)) w.heap.size sz (E (only w (From ai)) w.heap.size) l lv:=by
 obtain⟨h1,h2⟩:=h;obtain⟨hl,hr⟩:=id h1;rcases hr with⟨hv,hn⟩|⟨g,aA,cur,hv,hg,hh,hc1,hc2,hc3,Yt⟩
 ·exact⟨none,0,by rw[hv,hn],by omega,λhp=>by omega⟩
 ·have Fv:g<w.heap.size:=Row.lt (t:=ty) hh;refine⟨some ⟨g,0,none⟩,aA,hv,by unfold maxLen at hc2;omega,λhp=>⟨g,0,rfl,Fv,λi x hi=>?_⟩⟩;refine hE _ _ _ _ _ _ _ (lI λk hk _=>⟨hk.1,rfl⟩) (aN _) ?_ (h2 i x hi);intro j v hjs hj
  ·have hj:xs[i*sz+j]? =some v:=hj;have x7:=(List.getElem?_eq_some_iff.1 hi).1;have hlt:i*sz+j<l.length*sz:=by
    calc i*sz+j<i*sz+sz:=by omega
     _=(i+1)*sz:=by rw[Nat.add_mul,Nat.one_mul]
     _<=l.length*sz:=Nat.mul_le_mul_right _ x7
   rw[<-Yt,List.getElem?_take,if_pos hlt,Array.getElem?_toList]at hj;have e:=(Row.cell (cs:=cur) (t:=ty) hh hj)
   show(only w (From ai)).cell? ⟨g,0+i*sz+j,none⟩=some v;rw[World.cell?_of_block (wW (show From ai g from hg)),Nat.zero_add];exact e
def gM{α:Type}(E:World->Nat->(Nat->Option Value)->α->Prop)(sz:Nat)(l:List α)(w:World)(e:Ending)(w':World):Prop:=
 ∃A c,e= .returned (.slice A l.length c)/\aL (only w' (From w.heap.size)) w'.heap.size sz (E (only w' (From w.heap.size)) w'.heap.size) l (.slice A l.length c)/\(l.length<=c/\c<=9223372036854775807)/\Below w.heap.size w w'
theorem gM.AB{α:Type}{E:World->Nat->(Nat->Option Value)->α->Prop}{sz:Nat}(hE:Ef E sz){ty:TypeId}{w w':World}{lv:Value}{l:List α}{xs:List Value}(h:ku E ty sz w.heap.size w' lv l xs)(hb:Below w.heap.size w w'):gM E sz l w (.returned lv) w':=by
 have hs:=h.slice hE;obtain⟨A,aA,rfl,_⟩:=id hs;refine⟨A,aA,rfl,hs,?_,hb⟩;obtain⟨_,⟨h1,h2⟩|⟨g,c,cur,hv,_,_,h1,h2,_⟩⟩:=h.own
 ·injection h1 with _ _ h1;omega
 ·injection hv with _ _ hv;unfold maxLen at h2;omega
theorem jo.G5{w w':World}{lv:Value}{ks:List T}{xs:List Value}{S:Nat->Prop}(h:jo w.heap.size w' lv ks.length ks xs S):oI (only w' (From w.heap.size)) w'.heap.size ks lv:=by
 have h2:=h.wr (QG w' (From w.heap.size)) (λi hi=>⟨λhs=>hi (h.sb i hs).1,λhl=>hi (h.lt hl).1⟩);obtain⟨A,n,aA,h3,h4⟩:=h2.kids rfl (B:=w'.heap.size) (by rw[sG];exact aN _);exact⟨A,n,aA,h3,h4⟩
theorem ja.only{w':World}{N:Nat}{t:T}{u0 u1 u2:Value}(h:ja w' (λi=>N<=i/\i<w'.heap.size) t u0 u1 u2):aX (only w' (From N)) (dP w'.heap.size) t u0 u1 u2:=
 ja.tree t (ja.keep t h (λi hi=>wW (show From N i from hi.1))) (λi hi=>hi.2)
theorem bH.sub{w w':World}{B B':Nat}{P:Value×Value×Value}{p:aM}(h:bH w B P p)(hs:Sub w w')(hB:B<=B'):bH w' B' P p:=
 ⟨aL.sub rf.mono h.1 hs hB,aL.sub dV.mono h.2.1 hs hB,h.2.2⟩
theorem iB{X:Nat->Prop}{w1 W:World}{a N:Nat}(hw:Wr X w1 W)(hX:∀i,X i->i<a)(hN:N<=a):Sub (only w1 (From a)) (only W (From N)):=
 lI λk(hk:a<=k)hk2=>⟨show N<=k by omega,hw.block k hk2 (λhx=>by have:=hX k hx;omega)⟩
theorem E1{X:Nat->Prop}{w w0 W:World}{e:Ending}{C:World->Ending->World->Prop}(h:Wr X w W)(k:Wr X w W->C w0 e W):C w0 e W:=k h
theorem gM.trees{w w':World}{ks:List T}{e:Ending}(h:Ps ks w e w'):∃A c,e= .returned (.slice A ks.length c)/\bC (only w' (From w.heap.size)) w'.heap.size ks A ks.length/\Below w.heap.size w w':=by
 obtain⟨lv,xs,S,h1,h2,h3⟩:=h;obtain⟨A,n,aA,h4,h5⟩:=h2.G5;have:=h5.1;subst this;exact⟨A,aA,by rw[h1,h4],h5,h3⟩
end Go.Proofs.YtikbdplllopjlaaGreat
namespace Go.Proofs.YtikbdplllopjlaaGreat
open Go.RowKit
theorem O6(ai mc:Nat)(own:Nat->Prop)(P:Value×Value×Value)(ah:Int)(s:St)(fb tb:Nat)(G:Value×Value×Value×Value)(tp:List V)(lv:Value)(lo:List Nat)(ng:Nat)(R:cC)(op dst size fn:Int)(ks:List T)(A:Option Addr)(n aA:Nat)(w:World)
  (hM:cN w ai mc own P ah s)(cA:s.kind=0)(hs0:0<=s.steps)(hs1:s.steps<=ah)(hf:ah<=1000000000)(hF:bM w fb G tb tp lv lo)(hO:mG ai own fb tb lv)(kM:dW (au s.mem) tp lo ng)(hT:fY tp.length lo.length ng ks)(hk:bC w ai ks A n)(iD:n<=1000)
  (hy:(aW ah 1 s).1=false):
  Calls prog 52 #[.pointer (some ⟨mc,0,none⟩),.pointer (some ⟨fb,0,none⟩),.agg #[.int .i64 op,.int .i64 dst,.int .i64 size,.int .i64 fn,.slice A n aA]] w λe w'=>cX ai mc own P ah fb tb G lv lo (bu R ah lo s tp ⟨op,dst,size,fn,ks⟩) w e w':=by
 have hres:bu R ah lo s tp ⟨op,dst,size,fn,ks⟩=(false,(aW ah 1 s).2,tp):=by simp[bu,hy]
 rw[hres];have HST:=ae (λW(hb:Below w.heap.size w W)=>hy▸eD ai mc own P ah 1 s W (hM.below hb) hs0 hs1 hf (by omega) (by omega));clear hM cA hF hO kM hT hk hy hres hs0 hs1;go_enter func52,ntmps52;go_wp2_with(go_at_call 51;refine(HST _ (aj _ _)).mono ?_;rintro e w1 ⟨rfl,jy,bT⟩;have n9:=ae jy;have dG:=ae bT;clear jy bT);go_ret;refine⟨rfl,own,λ_ h=>h,λ_ h=>aH h,n9.out,λh=>(by cases h),?_⟩;have hm:own mc:=(by obtain⟨_,_,_,_,h⟩:=n9.out;exact h.mine)
 exact(Wr.of_below (aj _ _)).trans dG (λi hi=>aH (aH (hi▸hm)))
theorem LY(ai mc:Nat)(own:Nat->Prop)(P:Value×Value×Value)(ah:Int)(s:St)(fb tb:Nat)(G:Value×Value×Value×Value)(tp:List V)(lv:Value)(lo:List Nat)(ng:Nat)(R:cC)(op dst size fn:Int)(ks:List T)(A:Option Addr)(n aA:Nat)(w:World)
  (hM:cN w ai mc own P ah s)(cA:s.kind=0)(hs0:0<=s.steps)(hs1:s.steps<=ah)(hf:ah<=1000000000)(hF:bM w fb G tb tp lv lo)(hO:mG ai own fb tb lv)(kM:dW (au s.mem) tp lo ng)(hT:fY tp.length lo.length ng ks)(hk:bC w ai ks A n)(iD:n<=1000)
  (rE:e9 ks)(hy:(aW ah 1 s).1=true)(cu:aD s.mem tp lo ks=none):
  Calls prog 52 #[.pointer (some ⟨mc,0,none⟩),.pointer (some ⟨fb,0,none⟩),.agg #[.int .i64 op,.int .i64 dst,.int .i64 size,.int .i64 fn,.slice A n aA]] w λe w'=>cX ai mc own P ah fb tb G lv lo (bu R ah lo s tp ⟨op,dst,size,fn,ks⟩) w e w':=by
 obtain⟨qE,pU,iY⟩:=cO hy;have hm:own mc:=(by obtain⟨_,_,_,_,h⟩:=hM;exact h.mine)
 have sV:=(by obtain⟨_,_,_,_,h⟩:=hM;exact h.rest.own mc h.mine:ai<=mc/\mc<w.heap.size)
 have oF:e9 ks:=rE;have HST:=ae (λW(hb:Below w.heap.size w W)=>(iY▸hy▸eD ai mc own P ah 1 s W (hM.below hb) hs0 hs1 hf (by omega) (by omega):Calls prog 51 #[.pointer (some ⟨mc,0,none⟩),.int .i64 1] W λe w'=>e= .returned (.bool true)/\cN w' ai mc own P ah {s with steps:=s.steps+1}/\Wr (λb=>b=mc) W w'));have xT:=ae cA;have HF:=ae hF;have HO:=ae hO;have zY:=ae kM;have HT:=ae hT;have HK:=ae hk;have nZ:=ae oF;have hB:ai<=w.heap.size:=by omega
 have MU:=hk.2.1;have qh:=ae cu;clear cu;have sY:=ae iY;have HY:=ae hy;have fG:=ae hm;obtain⟨ve,u9⟩:=sV;clear hM cA hF hO kM hT hk hy qE pU iY hm rE oF hs0 hs1;go_enter func52,ntmps52;go_wp2_with(go_at_call 51;refine(HST _ (aj _ _)).mono ?_;rintro e w1 ⟨rfl,jy,bT⟩;have n9:=ae jy;have dG:=ae bT;have hz1:w.heap.size+1<=w1.heap.size:=(by have:=bT.size;simpa using this);clear jy bT);have iL:=ae (show Row w1 w.heap.size #[.int .i64 op,.int .i64 dst,.int .i64 size,.int .i64 fn,.slice A n aA] 96 from(Row.new w _ _).wr dG (show¬w.heap.size=mc by omega));have bn:=ae (show Below ai w w1 from((aj w _).mono hB).trans (dG.below (by simp;omega) (λk hk=>by omega)))
 have jB:=ae (show bM w1 fb G tb tp lv lo from(HF.below (aj _ _)).wr dG (λe=>HO.fb.1 (by rw[e];exact fG.out)) (λe=>HO.tb.1 (by rw[e];exact fG.out)) (λg hg e=>(HO.lv g hg).1 (by rw[e];exact fG.out)));have iw:=ae (HK.below bn (aN _));go_loopw [7,8] (λv i wr=>∃(k:Nat)(l:List V),k<=n/\i= .int .i64 k/\aD s.mem tp lo (ks.take k)=some l/\wr.ownsRow w1.heap.size 72 2 v k (bV l)/\Below w1.heap.size w1 wr) (λ_ i _=>n-(intOf i).toNat)
 case atStart=>exact⟨0,[],by omega,rfl,by simp[aD],World.ownsRow_nil _ _ _ _,bI _ _⟩
 case round=>
  obtain⟨k,l,hk,rfl,cu,hown,bR⟩:=hrel;have hz2:=bR.size;have hz3:w.heap.size<wr.heap.size:=by omega
  have dw:=iL.below bR (by omega);have c0:wr.cell? ⟨w.heap.size,0,none⟩=some (.int .i64 op):=dw.cell (j:=0) rfl;have c1:wr.cell? ⟨w.heap.size,1,none⟩=some (.int .i64 dst):=dw.cell (j:=1) rfl;have c2:wr.cell? ⟨w.heap.size,2,none⟩=some (.int .i64 size):=dw.cell (j:=2) rfl;have c3:wr.cell? ⟨w.heap.size,3,none⟩=some (.int .i64 fn):=dw.cell (j:=3) rfl;have c4:wr.cell? ⟨w.heap.size,4,none⟩=some (.slice A n aA):=dw.cell (j:=4) rfl;clear dw;have kB:=ae (n9.below bR);have iy:=ae (jB.below bR);have iV:ai<=w1.heap.size:=by omega
  by_cases hlt:k<n
  ·obtain⟨b,off,t,v0,v1,v2,rfl,hb,bA,k0,k1,k2,ht⟩:=(iw.below (bR.mono iV) (aN _)).get hlt;have gF:=(by obtain⟨_,_,_,_,h⟩:=kB.out;exact h.rest.mem.ok:b9 s.mem)
   have HC:=ae (eU t.size t ai mc own P ah {s with steps:=s.steps+1} fb tb G tp lv lo ng wr v0 v1 v2 (aN _) kB.out xT.out iy.out gF zY (HT.get bA) ht);have og:=ae bA;have eY:(k:Int)<(n:Int):=by omega
   have HE:=ae cu;have HW:=ae hown;have HX:=ae bR;have bG:l.length=k:=by
    have:=aK cu;rw[List.length_take,HK.1]at this;omega
   clear bA ht cu hown bR gF;cases hv:bZ s.mem tp lo t with
   |none=>
    rw[hv]at HC;go_wp2_with fail;refine HC.mono ?_;rintro e w2 ⟨⟨x',y',rfl⟩,GU,hw2⟩;have HM3:=ae GU;have gU:=ae hw2;clear GU hw2;go_wp2_with fail;go_ret;have hres:bu R ah lo s tp ⟨op,dst,size,fn,ks⟩=(false,{s with steps:=s.steps+1,kind:=3},tp):=by simp[bu,HY.out,sY.out,qh.out]
    rw[hres];refine⟨rfl,own,λ_ h=>h,λ_ h=>aH h,HM3.wr (di (aj _ _)) (λ_ h=>h.elim),λh=>(by cases h),?_⟩;exact((((Wr.of_below (aj _ _)).trans dG (λi hi=>aH (aH (hi▸fG.out)))).trans (di HX.out) (λi hi=>hi.elim)).trans gU (λi hi=>aH (aH (hi▸fG.out)))).trans (di (aj _ _)) (λi hi=>hi.elim)
   |some v=>
    rw[hv]at HC;obtain⟨i0,hi,hz0,jg,lK⟩:=info_parts dK;go_wp2_with fail;refine HC.mono ?_;rintro e w2 ⟨rfl,hb1⟩;simp only[aI];have hz:=hb1.size;have hown1:=(aB HW (di hb1) (λ_ _ h=>h))
    go_wp2_with(at_builtin;refine wpList_append_own _ rfl (.tmp 37) (.tmp 39) 67 rfl w1.heap.size 72 i0 (.agg #[.int .i64 0,.int .i64 0]) 2 16 underlying67 hi hz0 jg lK rfl (by decide) _ _ _ rfl ((hown1.alloc _).alloc _) ⟨w2.heap.size+1,0,none⟩ 1 1 [.int .i64 v.obj,.int .i64 v.n] rfl rfl ?c1 ?c2 ?c3 ?c4 ?c5 ?_)
    case c1=>exact cK _ _ _ _ _ (by simp)
    case c2=>exact dS _ _
    case c3=>have:=iD;unfold maxLen;omega
    case c4=>have:=iD;omega
    case c5=>simp;omega
    ·intro v' w3 hown2 hgrow _;have bL:=ae ((((HX.trans (hb1.mono (show w1.heap.size<=wr.heap.size from by omega))).alloc (by omega) _).alloc (by simp;omega) _).grown hgrow (by simp;omega) (λg hg=>(HW.lt g hg).1));have rq:=ae hown2;clear hown2 hgrow hown1 hb1;go_wp2_with fail;go_roundw
     case rel=>exact⟨k+1,l++[v],by omega,by go_num,cE HE.out og.out hv,by rw[bP];exact rq.out,bL.out⟩
     case measure=>simp[intOf];omega
  ·obtain rfl:k=n:=by omega
   rw[show ks.take k=ks from by rw[<-HK.1,List.take_length],qh.out]at cu;cases cu
theorem O4(ai mc:Nat)(own:Nat->Prop)(P:Value×Value×Value)(ah:Int)(s:St)(fb tb:Nat)(G:Value×Value×Value×Value)(tp:List V)(lv:Value)(lo:List Nat)(ng:Nat)(R:cC)(op dst size fn:Int)(ks:List T)(A:Option Addr)(n aA:Nat)(w:World)
  (hM:cN w ai mc own P ah s)(cA:s.kind=0)(hs0:0<=s.steps)(hs1:s.steps<=ah)(hf:ah<=1000000000)(hF:bM w fb G tb tp lv lo)(hO:mG ai own fb tb lv)(kM:dW (au s.mem) tp lo ng)(hT:fY tp.length lo.length ng ks)(hk:bC w ai ks A n)(iD:n<=1000)
  (rE:e9 ks)(hy:(aW ah 1 s).1=true)(cu:∃l,aD s.mem tp lo ks=some l)(hop:op=1)(m:Nat)(P3:dst=m)(Re:m<tp.length)(jw:n=1):
  Calls prog 52 #[.pointer (some ⟨mc,0,none⟩),.pointer (some ⟨fb,0,none⟩),.agg #[.int .i64 op,.int .i64 dst,.int .i64 size,.int .i64 fn,.slice A n aA]] w λe w'=>cX ai mc own P ah fb tb G lv lo (bu R ah lo s tp ⟨op,dst,size,fn,ks⟩) w e w':=by
 subst hop;subst P3;have rF:=ae jw;clear jw;obtain⟨qE,pU,iY⟩:=cO hy;have hm:own mc:=(by obtain⟨_,_,_,_,h⟩:=hM;exact h.mine)
 have sV:=(by obtain⟨_,_,_,_,h⟩:=hM;exact h.rest.own mc h.mine:ai<=mc/\mc<w.heap.size)
 have oF:e9 ks:=rE;have HST:=ae (λW(hb:Below w.heap.size w W)=>(iY▸hy▸eD ai mc own P ah 1 s W (hM.below hb) hs0 hs1 hf (by omega) (by omega):Calls prog 51 #[.pointer (some ⟨mc,0,none⟩),.int .i64 1] W λe w'=>e= .returned (.bool true)/\cN w' ai mc own P ah {s with steps:=s.steps+1}/\Wr (λb=>b=mc) W w'));have xT:=ae cA;have HF:=ae hF;have HO:=ae hO;have zY:=ae kM;have HT:=ae hT;have HK:=ae hk;have nZ:=ae oF;have hB:ai<=w.heap.size:=by omega
 have MU:=hk.2.1;have qh:=ae cu;clear cu;have sY:=ae iY;have HY:=ae hy;have fG:=ae hm;obtain⟨ve,u9⟩:=sV;clear hM cA hF hO kM hT hk hy qE pU iY hm rE oF hs0 hs1;go_enter func52,ntmps52;go_wp2_with(go_at_call 51;refine(HST _ (aj _ _)).mono ?_;rintro e w1 ⟨rfl,jy,bT⟩;have n9:=ae jy;have dG:=ae bT;have hz1:w.heap.size+1<=w1.heap.size:=(by have:=bT.size;simpa using this);clear jy bT);have iL:=ae (show Row w1 w.heap.size #[.int .i64 1,.int .i64 (m:Int),.int .i64 size,.int .i64 fn,.slice A n aA] 96 from(Row.new w _ _).wr dG (show¬w.heap.size=mc by omega));have bn:=ae (show Below ai w w1 from((aj w _).mono hB).trans (dG.below (by simp;omega) (λk hk=>by omega)))
 have jB:=ae (show bM w1 fb G tb tp lv lo from(HF.below (aj _ _)).wr dG (λe=>HO.fb.1 (by rw[e];exact fG.out)) (λe=>HO.tb.1 (by rw[e];exact fG.out)) (λg hg e=>(HO.lv g hg).1 (by rw[e];exact fG.out)));have iw:=ae (HK.below bn (aN _));go_loopw [7,8] (λv i wr=>∃(k:Nat)(l:List V),k<=n/\i= .int .i64 k/\aD s.mem tp lo (ks.take k)=some l/\wr.ownsRow w1.heap.size 72 2 v k (bV l)/\Below w1.heap.size w1 wr) (λ_ i _=>n-(intOf i).toNat)
 case atStart=>exact⟨0,[],by omega,rfl,by simp[aD],World.ownsRow_nil _ _ _ _,bI _ _⟩
 case round=>
  obtain⟨k,l,hk,rfl,cu,hown,bR⟩:=hrel;have hz2:=bR.size;have hz3:w.heap.size<wr.heap.size:=by omega
  have dw:=iL.below bR (by omega);have c0:wr.cell? ⟨w.heap.size,0,none⟩=some (.int .i64 1):=dw.cell (j:=0) rfl;have c1:wr.cell? ⟨w.heap.size,1,none⟩=some (.int .i64 (m:Int)):=dw.cell (j:=1) rfl;have c2:wr.cell? ⟨w.heap.size,2,none⟩=some (.int .i64 size):=dw.cell (j:=2) rfl;have c3:wr.cell? ⟨w.heap.size,3,none⟩=some (.int .i64 fn):=dw.cell (j:=3) rfl;have c4:wr.cell? ⟨w.heap.size,4,none⟩=some (.slice A n aA):=dw.cell (j:=4) rfl;clear dw;have kB:=ae (n9.below bR);have iy:=ae (jB.below bR);have iV:ai<=w1.heap.size:=by omega
  by_cases hlt:k<n
  ·obtain⟨b,off,t,v0,v1,v2,rfl,hb,bA,k0,k1,k2,ht⟩:=(iw.below (bR.mono iV) (aN _)).get hlt;have gF:=(by obtain⟨_,_,_,_,h⟩:=kB.out;exact h.rest.mem.ok:b9 s.mem)
   have HC:=ae (eU t.size t ai mc own P ah {s with steps:=s.steps+1} fb tb G tp lv lo ng wr v0 v1 v2 (aN _) kB.out xT.out iy.out gF zY (HT.get bA) ht);have og:=ae bA;have eY:(k:Int)<(n:Int):=by omega
   have HE:=ae cu;have HW:=ae hown;have HX:=ae bR;have bG:l.length=k:=by
    have:=aK cu;rw[List.length_take,HK.1]at this;omega
   clear bA ht cu hown bR gF;cases hv:bZ s.mem tp lo t with
   |none=>
    exact absurd (cI og.out hv) (by rw[qh.choose_spec];simp)
   |some v=>
    rw[hv]at HC;obtain⟨i0,hi,hz0,jg,lK⟩:=info_parts dK;go_wp2_with fail;refine HC.mono ?_;rintro e w2 ⟨rfl,hb1⟩;simp only[aI];have hz:=hb1.size;have hown1:=(aB HW (di hb1) (λ_ _ h=>h))
    go_wp2_with(at_builtin;refine wpList_append_own _ rfl (.tmp 37) (.tmp 39) 67 rfl w1.heap.size 72 i0 (.agg #[.int .i64 0,.int .i64 0]) 2 16 underlying67 hi hz0 jg lK rfl (by decide) _ _ _ rfl ((hown1.alloc _).alloc _) ⟨w2.heap.size+1,0,none⟩ 1 1 [.int .i64 v.obj,.int .i64 v.n] rfl rfl ?c1 ?c2 ?c3 ?c4 ?c5 ?_)
    case c1=>exact cK _ _ _ _ _ (by simp)
    case c2=>exact dS _ _
    case c3=>have:=iD;unfold maxLen;omega
    case c4=>have:=iD;omega
    case c5=>simp;omega
    ·intro v' w3 hown2 hgrow _;have bL:=ae ((((HX.trans (hb1.mono (show w1.heap.size<=wr.heap.size from by omega))).alloc (by omega) _).alloc (by simp;omega) _).grown hgrow (by simp;omega) (λg hg=>(HW.lt g hg).1));have rq:=ae hown2;clear hown2 hgrow hown1 hb1;go_wp2_with fail;go_roundw
     case rel=>exact⟨k+1,l++[v],by omega,by go_num,cE HE.out og.out hv,by rw[bP];exact rq.out,bL.out⟩
     case measure=>simp[intOf];omega
  ·obtain rfl:k=n:=by omega
   rw[show ks.take k=ks from by rw[<-HK.1,List.take_length]]at cu;have bG:l.length=k:=by rw[aK cu,HK.1]
   have HE:=ae cu;have HW:=ae hown;have HX:=ae bR;clear cu hown bR;have HG:=ae iy.out;obtain⟨xm,⟨cs,iR,jh⟩,_,Rl⟩:=iy.out;have t4:wr.cell? ⟨fb,4,none⟩=some (.slice (some ⟨tb,0,none⟩) tp.length tp.length):=xm.cell (j:=4) rfl;have t5:=iR.free (m*2);have t6:=iR.free (m*2+1);have t7:∃u,wr.cell? ⟨tb,m*2,none⟩=some u:=⟨_,iR.cell (Array.getElem?_eq_getElem (by rw[jh.1];omega))⟩
   have t8:∃u,wr.cell? ⟨tb,m*2+1,none⟩=some u:=⟨_,iR.cell (Array.getElem?_eq_getElem (by rw[jh.1];omega))⟩
   obtain⟨u7,t7⟩:=t7;obtain⟨u8,t8⟩:=t8;have tq:=xm.lt;have uY:=iR.lt;clear xm iR jh;have iZ:0<k:=by rw[rF.out];omega
   obtain⟨r,rfl⟩:=nH (bG.trans rF.out);obtain⟨g,gc,rfl,hg0,hg1,sJ⟩:=bQ HW.out bG iZ;obtain⟨g2,g3⟩:=sJ 0 r rfl;simp only[Nat.zero_mul,Nat.zero_add]at g2 g3;clear bG;have UI:(m:Int)<(tp.length:Int):=by omega
   clear sJ;go_wp2_with fail;refine fB 8 (by kernel_rfl) (by kernel_rfl) ?_;simp only[List.take_succ_cons,List.take_zero,List.drop_succ_cons,List.drop_zero]
   repeat still_step
   try refine wpStill_nil ?_
   go_wp2_with fail;go_ret;have hres:bu R ah lo s tp ⟨1,(m:Int),size,fn,ks⟩=(true,{s with steps:=s.steps+1},tp.set m r):=by simp[bu,HY.out,sY.out,HE.out,ik,pN]
   rw[hres];have Tp:=(eB wr tb (m*2) (m*2+1) (.int .i64 r.obj) (.int .i64 r.n)).trans (di ((aj ((wr.setCell ⟨tb,m*2,none⟩ (.int .i64 r.obj)).setCell ⟨tb,m*2+1,none⟩ (.int .i64 r.n)) (.cells #[.int .i64 r.obj,.int .i64 r.n] 72)).drew)) (λi hi=>hi.elim);refine⟨rfl,own,λ_ h=>h,λ_ h=>aH h,kB.wr Tp (λk hk=>(by subst hk;exact⟨HO.tb.2,HO.tb.1⟩)),λ_=>(HG.set m r).below ((aj _ _).drew),?_⟩;exact((((Wr.of_below (aj _ _)).trans dG (λi hi=>aH (aH (hi▸fG.out)))).trans (di HX.out) (λi hi=>hi.elim))).trans Tp (λi hi=>aH (aT hi))
theorem LX(ai mc:Nat)(own:Nat->Prop)(P:Value×Value×Value)(ah:Int)(s:St)(fb tb:Nat)(G:Value×Value×Value×Value)(tp:List V)(lv:Value)(lo:List Nat)(ng:Nat)(R:cC)(op dst size fn:Int)(ks:List T)(A:Option Addr)(n aA:Nat)(w:World)
  (hM:cN w ai mc own P ah s)(cA:s.kind=0)(hs0:0<=s.steps)(hs1:s.steps<=ah)(hf:ah<=1000000000)(hF:bM w fb G tb tp lv lo)(hO:mG ai own fb tb lv)(kM:dW (au s.mem) tp lo ng)(hT:fY tp.length lo.length ng ks)(hk:bC w ai ks A n)(iD:n<=1000)
  (rE:e9 ks)(hy:(aW ah 1 s).1=true)(cu:∃l,aD s.mem tp lo ks=some l)(hop:op=5)(m:Nat)(P3:dst=m)(Re:m<tp.length)(gZ:s.inp=[]):
  Calls prog 52 #[.pointer (some ⟨mc,0,none⟩),.pointer (some ⟨fb,0,none⟩),.agg #[.int .i64 op,.int .i64 dst,.int .i64 size,.int .i64 fn,.slice A n aA]] w λe w'=>cX ai mc own P ah fb tb G lv lo (bu R ah lo s tp ⟨op,dst,size,fn,ks⟩) w e w':=by
 subst hop;subst P3;have yX:=ae gZ;clear gZ;obtain⟨qE,pU,iY⟩:=cO hy;have hm:own mc:=(by obtain⟨_,_,_,_,h⟩:=hM;exact h.mine)
 have sV:=(by obtain⟨_,_,_,_,h⟩:=hM;exact h.rest.own mc h.mine:ai<=mc/\mc<w.heap.size)
 have oF:e9 ks:=rE;have HST:=ae (λW(hb:Below w.heap.size w W)=>(iY▸hy▸eD ai mc own P ah 1 s W (hM.below hb) hs0 hs1 hf (by omega) (by omega):Calls prog 51 #[.pointer (some ⟨mc,0,none⟩),.int .i64 1] W λe w'=>e= .returned (.bool true)/\cN w' ai mc own P ah {s with steps:=s.steps+1}/\Wr (λb=>b=mc) W w'));have xT:=ae cA;have HF:=ae hF;have HO:=ae hO;have zY:=ae kM;have HT:=ae hT;have HK:=ae hk;have nZ:=ae oF;have hB:ai<=w.heap.size:=by omega
 have MU:=hk.2.1;have qh:=ae cu;clear cu;have sY:=ae iY;have HY:=ae hy;have fG:=ae hm;obtain⟨ve,u9⟩:=sV;clear hM cA hF hO kM hT hk hy qE pU iY hm rE oF hs0 hs1;go_enter func52,ntmps52;go_wp2_with(go_at_call 51;refine(HST _ (aj _ _)).mono ?_;rintro e w1 ⟨rfl,jy,bT⟩;have n9:=ae jy;have dG:=ae bT;have hz1:w.heap.size+1<=w1.heap.size:=(by have:=bT.size;simpa using this);clear jy bT);have iL:=ae (show Row w1 w.heap.size #[.int .i64 5,.int .i64 (m:Int),.int .i64 size,.int .i64 fn,.slice A n aA] 96 from(Row.new w _ _).wr dG (show¬w.heap.size=mc by omega));have bn:=ae (show Below ai w w1 from((aj w _).mono hB).trans (dG.below (by simp;omega) (λk hk=>by omega)))
 have jB:=ae (show bM w1 fb G tb tp lv lo from(HF.below (aj _ _)).wr dG (λe=>HO.fb.1 (by rw[e];exact fG.out)) (λe=>HO.tb.1 (by rw[e];exact fG.out)) (λg hg e=>(HO.lv g hg).1 (by rw[e];exact fG.out)));have iw:=ae (HK.below bn (aN _));go_loopw [7,8] (λv i wr=>∃(k:Nat)(l:List V),k<=n/\i= .int .i64 k/\aD s.mem tp lo (ks.take k)=some l/\wr.ownsRow w1.heap.size 72 2 v k (bV l)/\Below w1.heap.size w1 wr) (λ_ i _=>n-(intOf i).toNat)
 case atStart=>exact⟨0,[],by omega,rfl,by simp[aD],World.ownsRow_nil _ _ _ _,bI _ _⟩
 case round=>
  obtain⟨k,l,hk,rfl,cu,hown,bR⟩:=hrel;have hz2:=bR.size;have hz3:w.heap.size<wr.heap.size:=by omega
  have dw:=iL.below bR (by omega);have c0:wr.cell? ⟨w.heap.size,0,none⟩=some (.int .i64 5):=dw.cell (j:=0) rfl;have c1:wr.cell? ⟨w.heap.size,1,none⟩=some (.int .i64 (m:Int)):=dw.cell (j:=1) rfl;have c2:wr.cell? ⟨w.heap.size,2,none⟩=some (.int .i64 size):=dw.cell (j:=2) rfl;have c3:wr.cell? ⟨w.heap.size,3,none⟩=some (.int .i64 fn):=dw.cell (j:=3) rfl;have c4:wr.cell? ⟨w.heap.size,4,none⟩=some (.slice A n aA):=dw.cell (j:=4) rfl;clear dw;have kB:=ae (n9.below bR);have iy:=ae (jB.below bR);have iV:ai<=w1.heap.size:=by omega
  by_cases hlt:k<n
  ·obtain⟨b,off,t,v0,v1,v2,rfl,hb,bA,k0,k1,k2,ht⟩:=(iw.below (bR.mono iV) (aN _)).get hlt;have gF:=(by obtain⟨_,_,_,_,h⟩:=kB.out;exact h.rest.mem.ok:b9 s.mem)
   have HC:=ae (eU t.size t ai mc own P ah {s with steps:=s.steps+1} fb tb G tp lv lo ng wr v0 v1 v2 (aN _) kB.out xT.out iy.out gF zY (HT.get bA) ht);have og:=ae bA;have eY:(k:Int)<(n:Int):=by omega
   have HE:=ae cu;have HW:=ae hown;have HX:=ae bR;have bG:l.length=k:=by
    have:=aK cu;rw[List.length_take,HK.1]at this;omega
   clear bA ht cu hown bR gF;cases hv:bZ s.mem tp lo t with
   |none=>
    exact absurd (cI og.out hv) (by rw[qh.choose_spec];simp)
   |some v=>
    rw[hv]at HC;obtain⟨i0,hi,hz0,jg,lK⟩:=info_parts dK;go_wp2_with fail;refine HC.mono ?_;rintro e w2 ⟨rfl,hb1⟩;simp only[aI];have hz:=hb1.size;have hown1:=(aB HW (di hb1) (λ_ _ h=>h))
    go_wp2_with(at_builtin;refine wpList_append_own _ rfl (.tmp 37) (.tmp 39) 67 rfl w1.heap.size 72 i0 (.agg #[.int .i64 0,.int .i64 0]) 2 16 underlying67 hi hz0 jg lK rfl (by decide) _ _ _ rfl ((hown1.alloc _).alloc _) ⟨w2.heap.size+1,0,none⟩ 1 1 [.int .i64 v.obj,.int .i64 v.n] rfl rfl ?c1 ?c2 ?c3 ?c4 ?c5 ?_)
    case c1=>exact cK _ _ _ _ _ (by simp)
    case c2=>exact dS _ _
    case c3=>have:=iD;unfold maxLen;omega
    case c4=>have:=iD;omega
    case c5=>simp;omega
    ·intro v' w3 hown2 hgrow _;have bL:=ae ((((HX.trans (hb1.mono (show w1.heap.size<=wr.heap.size from by omega))).alloc (by omega) _).alloc (by simp;omega) _).grown hgrow (by simp;omega) (λg hg=>(HW.lt g hg).1));have rq:=ae hown2;clear hown2 hgrow hown1 hb1;go_wp2_with fail;go_roundw
     case rel=>exact⟨k+1,l++[v],by omega,by go_num,cE HE.out og.out hv,by rw[bP];exact rq.out,bL.out⟩
     case measure=>simp[intOf];omega
  ·obtain rfl:k=n:=by omega
   rw[show ks.take k=ks from by rw[<-HK.1,List.take_length]]at cu;have bG:l.length=k:=by rw[aK cu,HK.1]
   have HE:=ae cu;have HW:=ae hown;have HX:=ae bR;clear cu hown bR;have HG:=ae iy.out;obtain⟨xm,⟨cs,iR,jh⟩,_,Rl⟩:=iy.out;have t4:wr.cell? ⟨fb,4,none⟩=some (.slice (some ⟨tb,0,none⟩) tp.length tp.length):=xm.cell (j:=4) rfl;have t5:=iR.free (m*2);have t6:=iR.free (m*2+1);have t7:∃u,wr.cell? ⟨tb,m*2,none⟩=some u:=⟨_,iR.cell (Array.getElem?_eq_getElem (by rw[jh.1];omega))⟩
   have t8:∃u,wr.cell? ⟨tb,m*2+1,none⟩=some u:=⟨_,iR.cell (Array.getElem?_eq_getElem (by rw[jh.1];omega))⟩
   obtain⟨u7,t7⟩:=t7;obtain⟨u8,t8⟩:=t8;have tq:=xm.lt;have uY:=iR.lt;clear xm iR jh;obtain⟨inv,outv,aU,rb,jV⟩:=kB.out;have m3:wr.cell? ⟨mc,3,none⟩=some inv:=jV.row.cell (j:=3) rfl;have mf3:=jV.row.free 3;have U5:=jV.lt;obtain⟨Ai,Jh,rfl,hle,Ck,qW⟩:=jV.rest.inp;have x7:s.inp.length=0:=by rw[yX.out];rfl
   simp only[x7]at m3;have Em:=ae jV;have UI:(m:Int)<(tp.length:Int):=by omega
   clear jV qW hle x7 bG;go_wp2_with fail;refine fB 8 (by kernel_rfl) (by kernel_rfl) ?_;simp only[List.take_succ_cons,List.take_zero,List.drop_succ_cons,List.drop_zero]
   repeat still_step
   try refine wpStill_nil ?_
   go_wp2_with fail;go_ret;have hres:bu R ah lo s tp ⟨5,(m:Int),size,fn,ks⟩=(true,{s with steps:=s.steps+1},tp.set m ⟨0,0⟩):=by obtain⟨l',hl'⟩:=qh.out;rw[cF HY.out sY.out hl'];simp[ik,pN,yX.out]
   rw[hres];have Tp:=(eB wr tb (m*2) (m*2+1) (.int .i64 0) (.int .i64 0)).trans (di ((aj ((wr.setCell ⟨tb,m*2,none⟩ (.int .i64 0)).setCell ⟨tb,m*2+1,none⟩ (.int .i64 0)) (.cells #[.int .i64 0,.int .i64 0] 72)).drew)) (λi hi=>hi.elim);refine⟨rfl,own,λ_ h=>h,λ_ h=>aH h,kB.wr Tp (λk hk=>(by subst hk;exact⟨HO.tb.2,HO.tb.1⟩)),λ_=>(HG.set m ⟨0,0⟩).below ((aj _ _).drew),?_⟩;exact((((Wr.of_below (aj _ _)).trans dG (λi hi=>aH (aH (hi▸fG.out)))).trans (di HX.out) (λi hi=>hi.elim))).trans Tp (λi hi=>aH (aT hi))
theorem L1(ai mc:Nat)(own:Nat->Prop)(P:Value×Value×Value)(ah:Int)(s:St)(fb tb:Nat)(G:Value×Value×Value×Value)(tp:List V)(lv:Value)(lo:List Nat)(ng:Nat)(R:cC)(op dst size fn:Int)(ks:List T)(A:Option Addr)(n aA:Nat)(w:World)
  (hM:cN w ai mc own P ah s)(cA:s.kind=0)(hs0:0<=s.steps)(hs1:s.steps<=ah)(hf:ah<=1000000000)(hF:bM w fb G tb tp lv lo)(hO:mG ai own fb tb lv)(kM:dW (au s.mem) tp lo ng)(hT:fY tp.length lo.length ng ks)(hk:bC w ai ks A n)(iD:n<=1000)
  (rE:e9 ks)(hy:(aW ah 1 s).1=true)(cu:∃l,aD s.mem tp lo ks=some l)(hop:op=4)(jw:n=1)(Bh:∀r,aD s.mem tp lo ks=some [r]->0<r.obj):
  Calls prog 52 #[.pointer (some ⟨mc,0,none⟩),.pointer (some ⟨fb,0,none⟩),.agg #[.int .i64 op,.int .i64 dst,.int .i64 size,.int .i64 fn,.slice A n aA]] w λe w'=>cX ai mc own P ah fb tb G lv lo (bu R ah lo s tp ⟨op,dst,size,fn,ks⟩) w e w':=by
 subst hop;have rF:=ae jw;have xY:=ae Bh;clear jw Bh;obtain⟨qE,pU,iY⟩:=cO hy;have hm:own mc:=(by obtain⟨_,_,_,_,h⟩:=hM;exact h.mine)
 have sV:=(by obtain⟨_,_,_,_,h⟩:=hM;exact h.rest.own mc h.mine:ai<=mc/\mc<w.heap.size)
 have oF:e9 ks:=rE;have HST:=ae (λW(hb:Below w.heap.size w W)=>(iY▸hy▸eD ai mc own P ah 1 s W (hM.below hb) hs0 hs1 hf (by omega) (by omega):Calls prog 51 #[.pointer (some ⟨mc,0,none⟩),.int .i64 1] W λe w'=>e= .returned (.bool true)/\cN w' ai mc own P ah {s with steps:=s.steps+1}/\Wr (λb=>b=mc) W w'));have xT:=ae cA;have HF:=ae hF;have HO:=ae hO;have zY:=ae kM;have HT:=ae hT;have HK:=ae hk;have nZ:=ae oF;have hB:ai<=w.heap.size:=by omega
 have MU:=hk.2.1;have qh:=ae cu;clear cu;have sY:=ae iY;have HY:=ae hy;have fG:=ae hm;obtain⟨ve,u9⟩:=sV;clear hM cA hF hO kM hT hk hy qE pU iY hm rE oF hs0 hs1;go_enter func52,ntmps52;go_wp2_with(go_at_call 51;refine(HST _ (aj _ _)).mono ?_;rintro e w1 ⟨rfl,jy,bT⟩;have n9:=ae jy;have dG:=ae bT;have hz1:w.heap.size+1<=w1.heap.size:=(by have:=bT.size;simpa using this);clear jy bT);have iL:=ae (show Row w1 w.heap.size #[.int .i64 4,.int .i64 dst,.int .i64 size,.int .i64 fn,.slice A n aA] 96 from(Row.new w _ _).wr dG (show¬w.heap.size=mc by omega));have bn:=ae (show Below ai w w1 from((aj w _).mono hB).trans (dG.below (by simp;omega) (λk hk=>by omega)))
 have jB:=ae (show bM w1 fb G tb tp lv lo from(HF.below (aj _ _)).wr dG (λe=>HO.fb.1 (by rw[e];exact fG.out)) (λe=>HO.tb.1 (by rw[e];exact fG.out)) (λg hg e=>(HO.lv g hg).1 (by rw[e];exact fG.out)));have iw:=ae (HK.below bn (aN _));go_loopw [7,8] (λv i wr=>∃(k:Nat)(l:List V),k<=n/\i= .int .i64 k/\aD s.mem tp lo (ks.take k)=some l/\wr.ownsRow w1.heap.size 72 2 v k (bV l)/\Below w1.heap.size w1 wr) (λ_ i _=>n-(intOf i).toNat)
 case atStart=>exact⟨0,[],by omega,rfl,by simp[aD],World.ownsRow_nil _ _ _ _,bI _ _⟩
 case round=>
  obtain⟨k,l,hk,rfl,cu,hown,bR⟩:=hrel;have hz2:=bR.size;have hz3:w.heap.size<wr.heap.size:=by omega
  have dw:=iL.below bR (by omega);have c0:wr.cell? ⟨w.heap.size,0,none⟩=some (.int .i64 4):=dw.cell (j:=0) rfl;have c1:wr.cell? ⟨w.heap.size,1,none⟩=some (.int .i64 dst):=dw.cell (j:=1) rfl;have c2:wr.cell? ⟨w.heap.size,2,none⟩=some (.int .i64 size):=dw.cell (j:=2) rfl;have c3:wr.cell? ⟨w.heap.size,3,none⟩=some (.int .i64 fn):=dw.cell (j:=3) rfl;have c4:wr.cell? ⟨w.heap.size,4,none⟩=some (.slice A n aA):=dw.cell (j:=4) rfl;clear dw;have kB:=ae (n9.below bR);have iy:=ae (jB.below bR);have iV:ai<=w1.heap.size:=by omega
  by_cases hlt:k<n
  ·obtain⟨b,off,t,v0,v1,v2,rfl,hb,bA,k0,k1,k2,ht⟩:=(iw.below (bR.mono iV) (aN _)).get hlt;have gF:=(by obtain⟨_,_,_,_,h⟩:=kB.out;exact h.rest.mem.ok:b9 s.mem)
   have HC:=ae (eU t.size t ai mc own P ah {s with steps:=s.steps+1} fb tb G tp lv lo ng wr v0 v1 v2 (aN _) kB.out xT.out iy.out gF zY (HT.get bA) ht);have og:=ae bA;have eY:(k:Int)<(n:Int):=by omega
   have HE:=ae cu;have HW:=ae hown;have HX:=ae bR;have bG:l.length=k:=by
    have:=aK cu;rw[List.length_take,HK.1]at this;omega
   clear bA ht cu hown bR gF;cases hv:bZ s.mem tp lo t with
   |none=>
    exact absurd (cI og.out hv) (by rw[qh.choose_spec];simp)
   |some v=>
    rw[hv]at HC;obtain⟨i0,hi,hz0,jg,lK⟩:=info_parts dK;go_wp2_with fail;refine HC.mono ?_;rintro e w2 ⟨rfl,hb1⟩;simp only[aI];have hz:=hb1.size;have hown1:=(aB HW (di hb1) (λ_ _ h=>h))
    go_wp2_with(at_builtin;refine wpList_append_own _ rfl (.tmp 37) (.tmp 39) 67 rfl w1.heap.size 72 i0 (.agg #[.int .i64 0,.int .i64 0]) 2 16 underlying67 hi hz0 jg lK rfl (by decide) _ _ _ rfl ((hown1.alloc _).alloc _) ⟨w2.heap.size+1,0,none⟩ 1 1 [.int .i64 v.obj,.int .i64 v.n] rfl rfl ?c1 ?c2 ?c3 ?c4 ?c5 ?_)
    case c1=>exact cK _ _ _ _ _ (by simp)
    case c2=>exact dS _ _
    case c3=>have:=iD;unfold maxLen;omega
    case c4=>have:=iD;omega
    case c5=>simp;omega
    ·intro v' w3 hown2 hgrow _;have bL:=ae ((((HX.trans (hb1.mono (show w1.heap.size<=wr.heap.size from by omega))).alloc (by omega) _).alloc (by simp;omega) _).grown hgrow (by simp;omega) (λg hg=>(HW.lt g hg).1));have rq:=ae hown2;clear hown2 hgrow hown1 hb1;go_wp2_with fail;go_roundw
     case rel=>exact⟨k+1,l++[v],by omega,by go_num,cE HE.out og.out hv,by rw[bP];exact rq.out,bL.out⟩
     case measure=>simp[intOf];omega
  ·obtain rfl:k=n:=by omega
   rw[show ks.take k=ks from by rw[<-HK.1,List.take_length]]at cu;have bG:l.length=k:=by rw[aK cu,HK.1]
   have HE:=ae cu;have HW:=ae hown;have HX:=ae bR;clear cu hown bR;have iZ:0<k:=by rw[rF.out];omega
   obtain⟨r,rfl⟩:=nH (bG.trans rF.out);obtain⟨g,gc,rfl,hg0,hg1,sJ⟩:=bQ HW.out bG iZ;obtain⟨g2,g3⟩:=sJ 0 r rfl;simp only[Nat.zero_mul,Nat.zero_add]at g2 g3;clear bG sJ;have hro:=xY.out r HE.out;have HRO:=ae hro;have Cc:decide (0<r.obj)=true:=by simpa using hro
   have Io:(0:Int)<(r.obj:Int):=by omega
   have VM:=ae (λW(hb:Below wr.heap.size wr W)=>(show lA 3 {s with steps:=s.steps+1}={s with steps:=s.steps+1,kind:=3}from by unfold lA;rw[if_pos xT.out])▸nE ai mc own P ah 3 {s with steps:=s.steps+1} W (kB.below hb));clear hro;go_wp2_with(go_at_call 50;refine(VM _ (aj _ _)).mono ?_;rintro e w5 ⟨rfl,rV,lC⟩;have yV:=ae rV;have qM:=ae lC;clear rV lC);go_ret;have hres:bu R ah lo s tp ⟨4,dst,size,fn,ks⟩=(false,{s with steps:=s.steps+1,kind:=3},tp):=by rw[cF HY.out sY.out HE.out];simp[ik,HRO.out]
   rw[hres];refine⟨rfl,own,λ_ h=>h,λ_ h=>aH h,yV.out,λh=>(by cases h),?_⟩;exact((((Wr.of_below (aj _ _)).trans dG (λi hi=>aH (aH (hi▸fG.out)))).trans (di HX.out) (λi hi=>hi.elim)).trans (di (aj wr (.cells #[.int .i64 0,.int .i64 0] 72))) (λi hi=>hi.elim)).trans qM (λi hi=>aH (aH (hi▸fG.out)))
theorem L0(ai mc:Nat)(own:Nat->Prop)(P:Value×Value×Value)(ah:Int)(s:St)(fb tb:Nat)(G:Value×Value×Value×Value)(tp:List V)(lv:Value)(lo:List Nat)(ng:Nat)(R:cC)(op dst size fn:Int)(ks:List T)(A:Option Addr)(n aA:Nat)(w:World)
  (hM:cN w ai mc own P ah s)(cA:s.kind=0)(hs0:0<=s.steps)(hs1:s.steps<=ah)(hf:ah<=1000000000)(hF:bM w fb G tb tp lv lo)(hO:mG ai own fb tb lv)(kM:dW (au s.mem) tp lo ng)(hT:fY tp.length lo.length ng ks)(hk:bC w ai ks A n)(iD:n<=1000)
  (rE:e9 ks)(hy:(aW ah 1 s).1=true)(cu:∃l,aD s.mem tp lo ks=some l)(hop:op=6)(jw:n=1)(Bh:∀r,aD s.mem tp lo ks=some [r]->0<r.obj):
  Calls prog 52 #[.pointer (some ⟨mc,0,none⟩),.pointer (some ⟨fb,0,none⟩),.agg #[.int .i64 op,.int .i64 dst,.int .i64 size,.int .i64 fn,.slice A n aA]] w λe w'=>cX ai mc own P ah fb tb G lv lo (bu R ah lo s tp ⟨op,dst,size,fn,ks⟩) w e w':=by
 subst hop;have rF:=ae jw;have xY:=ae Bh;clear jw Bh;obtain⟨qE,pU,iY⟩:=cO hy;have hm:own mc:=(by obtain⟨_,_,_,_,h⟩:=hM;exact h.mine)
 have sV:=(by obtain⟨_,_,_,_,h⟩:=hM;exact h.rest.own mc h.mine:ai<=mc/\mc<w.heap.size)
 have oF:e9 ks:=rE;have HST:=ae (λW(hb:Below w.heap.size w W)=>(iY▸hy▸eD ai mc own P ah 1 s W (hM.below hb) hs0 hs1 hf (by omega) (by omega):Calls prog 51 #[.pointer (some ⟨mc,0,none⟩),.int .i64 1] W λe w'=>e= .returned (.bool true)/\cN w' ai mc own P ah {s with steps:=s.steps+1}/\Wr (λb=>b=mc) W w'));have xT:=ae cA;have HF:=ae hF;have HO:=ae hO;have zY:=ae kM;have HT:=ae hT;have HK:=ae hk;have nZ:=ae oF;have hB:ai<=w.heap.size:=by omega
 have MU:=hk.2.1;have qh:=ae cu;clear cu;have sY:=ae iY;have HY:=ae hy;have fG:=ae hm;obtain⟨ve,u9⟩:=sV;clear hM cA hF hO kM hT hk hy qE pU iY hm rE oF hs0 hs1;go_enter func52,ntmps52;go_wp2_with(go_at_call 51;refine(HST _ (aj _ _)).mono ?_;rintro e w1 ⟨rfl,jy,bT⟩;have n9:=ae jy;have dG:=ae bT;have hz1:w.heap.size+1<=w1.heap.size:=(by have:=bT.size;simpa using this);clear jy bT);have iL:=ae (show Row w1 w.heap.size #[.int .i64 6,.int .i64 dst,.int .i64 size,.int .i64 fn,.slice A n aA] 96 from(Row.new w _ _).wr dG (show¬w.heap.size=mc by omega));have bn:=ae (show Below ai w w1 from((aj w _).mono hB).trans (dG.below (by simp;omega) (λk hk=>by omega)))
 have jB:=ae (show bM w1 fb G tb tp lv lo from(HF.below (aj _ _)).wr dG (λe=>HO.fb.1 (by rw[e];exact fG.out)) (λe=>HO.tb.1 (by rw[e];exact fG.out)) (λg hg e=>(HO.lv g hg).1 (by rw[e];exact fG.out)));have iw:=ae (HK.below bn (aN _));go_loopw [7,8] (λv i wr=>∃(k:Nat)(l:List V),k<=n/\i= .int .i64 k/\aD s.mem tp lo (ks.take k)=some l/\wr.ownsRow w1.heap.size 72 2 v k (bV l)/\Below w1.heap.size w1 wr) (λ_ i _=>n-(intOf i).toNat)
 case atStart=>exact⟨0,[],by omega,rfl,by simp[aD],World.ownsRow_nil _ _ _ _,bI _ _⟩
 case round=>
  obtain⟨k,l,hk,rfl,cu,hown,bR⟩:=hrel;have hz2:=bR.size;have hz3:w.heap.size<wr.heap.size:=by omega
  have dw:=iL.below bR (by omega);have c0:wr.cell? ⟨w.heap.size,0,none⟩=some (.int .i64 6):=dw.cell (j:=0) rfl;have c1:wr.cell? ⟨w.heap.size,1,none⟩=some (.int .i64 dst):=dw.cell (j:=1) rfl;have c2:wr.cell? ⟨w.heap.size,2,none⟩=some (.int .i64 size):=dw.cell (j:=2) rfl;have c3:wr.cell? ⟨w.heap.size,3,none⟩=some (.int .i64 fn):=dw.cell (j:=3) rfl;have c4:wr.cell? ⟨w.heap.size,4,none⟩=some (.slice A n aA):=dw.cell (j:=4) rfl;clear dw;have kB:=ae (n9.below bR);have iy:=ae (jB.below bR);have iV:ai<=w1.heap.size:=by omega
  by_cases hlt:k<n
  ·obtain⟨b,off,t,v0,v1,v2,rfl,hb,bA,k0,k1,k2,ht⟩:=(iw.below (bR.mono iV) (aN _)).get hlt;have gF:=(by obtain⟨_,_,_,_,h⟩:=kB.out;exact h.rest.mem.ok:b9 s.mem)
   have HC:=ae (eU t.size t ai mc own P ah {s with steps:=s.steps+1} fb tb G tp lv lo ng wr v0 v1 v2 (aN _) kB.out xT.out iy.out gF zY (HT.get bA) ht);have og:=ae bA;have eY:(k:Int)<(n:Int):=by omega
   have HE:=ae cu;have HW:=ae hown;have HX:=ae bR;have bG:l.length=k:=by
    have:=aK cu;rw[List.length_take,HK.1]at this;omega
   clear bA ht cu hown bR gF;cases hv:bZ s.mem tp lo t with
   |none=>
    exact absurd (cI og.out hv) (by rw[qh.choose_spec];simp)
   |some v=>
    rw[hv]at HC;obtain⟨i0,hi,hz0,jg,lK⟩:=info_parts dK;go_wp2_with fail;refine HC.mono ?_;rintro e w2 ⟨rfl,hb1⟩;simp only[aI];have hz:=hb1.size;have hown1:=(aB HW (di hb1) (λ_ _ h=>h))
    go_wp2_with(at_builtin;refine wpList_append_own _ rfl (.tmp 37) (.tmp 39) 67 rfl w1.heap.size 72 i0 (.agg #[.int .i64 0,.int .i64 0]) 2 16 underlying67 hi hz0 jg lK rfl (by decide) _ _ _ rfl ((hown1.alloc _).alloc _) ⟨w2.heap.size+1,0,none⟩ 1 1 [.int .i64 v.obj,.int .i64 v.n] rfl rfl ?c1 ?c2 ?c3 ?c4 ?c5 ?_)
    case c1=>exact cK _ _ _ _ _ (by simp)
    case c2=>exact dS _ _
    case c3=>have:=iD;unfold maxLen;omega
    case c4=>have:=iD;omega
    case c5=>simp;omega
    ·intro v' w3 hown2 hgrow _;have bL:=ae ((((HX.trans (hb1.mono (show w1.heap.size<=wr.heap.size from by omega))).alloc (by omega) _).alloc (by simp;omega) _).grown hgrow (by simp;omega) (λg hg=>(HW.lt g hg).1));have rq:=ae hown2;clear hown2 hgrow hown1 hb1;go_wp2_with fail;go_roundw
     case rel=>exact⟨k+1,l++[v],by omega,by go_num,cE HE.out og.out hv,by rw[bP];exact rq.out,bL.out⟩
     case measure=>simp[intOf];omega
  ·obtain rfl:k=n:=by omega
   rw[show ks.take k=ks from by rw[<-HK.1,List.take_length]]at cu;have bG:l.length=k:=by rw[aK cu,HK.1]
   have HE:=ae cu;have HW:=ae hown;have HX:=ae bR;clear cu hown bR;have iZ:0<k:=by rw[rF.out];omega
   obtain⟨r,rfl⟩:=nH (bG.trans rF.out);obtain⟨g,gc,rfl,hg0,hg1,sJ⟩:=bQ HW.out bG iZ;obtain⟨g2,g3⟩:=sJ 0 r rfl;simp only[Nat.zero_mul,Nat.zero_add]at g2 g3;clear bG sJ;have hro:=xY.out r HE.out;have HRO:=ae hro;have Cc:decide (0<r.obj)=true:=by simpa using hro
   have Io:(0:Int)<(r.obj:Int):=by omega
   have VM:=ae (λW(hb:Below wr.heap.size wr W)=>(show lA 3 {s with steps:=s.steps+1}={s with steps:=s.steps+1,kind:=3}from by unfold lA;rw[if_pos xT.out])▸nE ai mc own P ah 3 {s with steps:=s.steps+1} W (kB.below hb));clear hro;go_wp2_with(go_at_call 50;refine(VM _ (aj _ _)).mono ?_;rintro e w5 ⟨rfl,rV,lC⟩;have yV:=ae rV;have qM:=ae lC;clear rV lC);go_ret;have hres:bu R ah lo s tp ⟨6,dst,size,fn,ks⟩=(false,{s with steps:=s.steps+1,kind:=3},tp):=by rw[cF HY.out sY.out HE.out];simp[ik,HRO.out]
   rw[hres];refine⟨rfl,own,λ_ h=>h,λ_ h=>aH h,yV.out,λh=>(by cases h),?_⟩;exact((((Wr.of_below (aj _ _)).trans dG (λi hi=>aH (aH (hi▸fG.out)))).trans (di HX.out) (λi hi=>hi.elim)).trans (di (aj wr (.cells #[.int .i64 0,.int .i64 0] 72))) (λi hi=>hi.elim)).trans qM (λi hi=>aH (aH (hi▸fG.out)))
theorem LZ(ai mc:Nat)(own:Nat->Prop)(P:Value×Value×Value)(ah:Int)(s:St)(fb tb:Nat)(G:Value×Value×Value×Value)(tp:List V)(lv:Value)(lo:List Nat)(ng:Nat)(R:cC)(op dst size fn:Int)(ks:List T)(A:Option Addr)(n aA:Nat)(w:World)
  (hM:cN w ai mc own P ah s)(cA:s.kind=0)(hs0:0<=s.steps)(hs1:s.steps<=ah)(hf:ah<=1000000000)(hF:bM w fb G tb tp lv lo)(hO:mG ai own fb tb lv)(kM:dW (au s.mem) tp lo ng)(hT:fY tp.length lo.length ng ks)(hk:bC w ai ks A n)(iD:n<=1000)
  (rE:e9 ks)(hy:(aW ah 1 s).1=true)(cu:∃l,aD s.mem tp lo ks=some l)(hop:op=6)(jw:n=1)(rS:∀r,aD s.mem tp lo ks=some [r]->r.obj=0):
  Calls prog 52 #[.pointer (some ⟨mc,0,none⟩),.pointer (some ⟨fb,0,none⟩),.agg #[.int .i64 op,.int .i64 dst,.int .i64 size,.int .i64 fn,.slice A n aA]] w λe w'=>cX ai mc own P ah fb tb G lv lo (bu R ah lo s tp ⟨op,dst,size,fn,ks⟩) w e w':=by
 subst hop;have rF:=ae jw;have xV:=ae rS;clear jw rS;obtain⟨qE,pU,iY⟩:=cO hy;have hm:own mc:=(by obtain⟨_,_,_,_,h⟩:=hM;exact h.mine)
 have sV:=(by obtain⟨_,_,_,_,h⟩:=hM;exact h.rest.own mc h.mine:ai<=mc/\mc<w.heap.size)
 have oF:e9 ks:=rE;have HST:=ae (λW(hb:Below w.heap.size w W)=>(iY▸hy▸eD ai mc own P ah 1 s W (hM.below hb) hs0 hs1 hf (by omega) (by omega):Calls prog 51 #[.pointer (some ⟨mc,0,none⟩),.int .i64 1] W λe w'=>e= .returned (.bool true)/\cN w' ai mc own P ah {s with steps:=s.steps+1}/\Wr (λb=>b=mc) W w'));have xT:=ae cA;have HF:=ae hF;have HO:=ae hO;have zY:=ae kM;have HT:=ae hT;have HK:=ae hk;have nZ:=ae oF;have hB:ai<=w.heap.size:=by omega
 have MU:=hk.2.1;have qh:=ae cu;clear cu;have sY:=ae iY;have HY:=ae hy;have fG:=ae hm;obtain⟨ve,u9⟩:=sV;clear hM cA hF hO kM hT hk hy qE pU iY hm rE oF hs0 hs1;go_enter func52,ntmps52;go_wp2_with(go_at_call 51;refine(HST _ (aj _ _)).mono ?_;rintro e w1 ⟨rfl,jy,bT⟩;have n9:=ae jy;have dG:=ae bT;have hz1:w.heap.size+1<=w1.heap.size:=(by have:=bT.size;simpa using this);clear jy bT);have iL:=ae (show Row w1 w.heap.size #[.int .i64 6,.int .i64 dst,.int .i64 size,.int .i64 fn,.slice A n aA] 96 from(Row.new w _ _).wr dG (show¬w.heap.size=mc by omega));have bn:=ae (show Below ai w w1 from((aj w _).mono hB).trans (dG.below (by simp;omega) (λk hk=>by omega)))
 have jB:=ae (show bM w1 fb G tb tp lv lo from(HF.below (aj _ _)).wr dG (λe=>HO.fb.1 (by rw[e];exact fG.out)) (λe=>HO.tb.1 (by rw[e];exact fG.out)) (λg hg e=>(HO.lv g hg).1 (by rw[e];exact fG.out)));have iw:=ae (HK.below bn (aN _));go_loopw [7,8] (λv i wr=>∃(k:Nat)(l:List V),k<=n/\i= .int .i64 k/\aD s.mem tp lo (ks.take k)=some l/\wr.ownsRow w1.heap.size 72 2 v k (bV l)/\Below w1.heap.size w1 wr) (λ_ i _=>n-(intOf i).toNat)
 case atStart=>exact⟨0,[],by omega,rfl,by simp[aD],World.ownsRow_nil _ _ _ _,bI _ _⟩
 case round=>
  obtain⟨k,l,hk,rfl,cu,hown,bR⟩:=hrel;have hz2:=bR.size;have hz3:w.heap.size<wr.heap.size:=by omega
  have dw:=iL.below bR (by omega);have c0:wr.cell? ⟨w.heap.size,0,none⟩=some (.int .i64 6):=dw.cell (j:=0) rfl;have c1:wr.cell? ⟨w.heap.size,1,none⟩=some (.int .i64 dst):=dw.cell (j:=1) rfl;have c2:wr.cell? ⟨w.heap.size,2,none⟩=some (.int .i64 size):=dw.cell (j:=2) rfl;have c3:wr.cell? ⟨w.heap.size,3,none⟩=some (.int .i64 fn):=dw.cell (j:=3) rfl;have c4:wr.cell? ⟨w.heap.size,4,none⟩=some (.slice A n aA):=dw.cell (j:=4) rfl;clear dw;have kB:=ae (n9.below bR);have iy:=ae (jB.below bR);have iV:ai<=w1.heap.size:=by omega
  by_cases hlt:k<n
  ·obtain⟨b,off,t,v0,v1,v2,rfl,hb,bA,k0,k1,k2,ht⟩:=(iw.below (bR.mono iV) (aN _)).get hlt;have gF:=(by obtain⟨_,_,_,_,h⟩:=kB.out;exact h.rest.mem.ok:b9 s.mem)
   have HC:=ae (eU t.size t ai mc own P ah {s with steps:=s.steps+1} fb tb G tp lv lo ng wr v0 v1 v2 (aN _) kB.out xT.out iy.out gF zY (HT.get bA) ht);have og:=ae bA;have eY:(k:Int)<(n:Int):=by omega
   have HE:=ae cu;have HW:=ae hown;have HX:=ae bR;have bG:l.length=k:=by
    have:=aK cu;rw[List.length_take,HK.1]at this;omega
   clear bA ht cu hown bR gF;cases hv:bZ s.mem tp lo t with
   |none=>
    exact absurd (cI og.out hv) (by rw[qh.choose_spec];simp)
   |some v=>
    rw[hv]at HC;obtain⟨i0,hi,hz0,jg,lK⟩:=info_parts dK;go_wp2_with fail;refine HC.mono ?_;rintro e w2 ⟨rfl,hb1⟩;simp only[aI];have hz:=hb1.size;have hown1:=(aB HW (di hb1) (λ_ _ h=>h))
    go_wp2_with(at_builtin;refine wpList_append_own _ rfl (.tmp 37) (.tmp 39) 67 rfl w1.heap.size 72 i0 (.agg #[.int .i64 0,.int .i64 0]) 2 16 underlying67 hi hz0 jg lK rfl (by decide) _ _ _ rfl ((hown1.alloc _).alloc _) ⟨w2.heap.size+1,0,none⟩ 1 1 [.int .i64 v.obj,.int .i64 v.n] rfl rfl ?c1 ?c2 ?c3 ?c4 ?c5 ?_)
    case c1=>exact cK _ _ _ _ _ (by simp)
    case c2=>exact dS _ _
    case c3=>have:=iD;unfold maxLen;omega
    case c4=>have:=iD;omega
    case c5=>simp;omega
    ·intro v' w3 hown2 hgrow _;have bL:=ae ((((HX.trans (hb1.mono (show w1.heap.size<=wr.heap.size from by omega))).alloc (by omega) _).alloc (by simp;omega) _).grown hgrow (by simp;omega) (λg hg=>(HW.lt g hg).1));have rq:=ae hown2;clear hown2 hgrow hown1 hb1;go_wp2_with fail;go_roundw
     case rel=>exact⟨k+1,l++[v],by omega,by go_num,cE HE.out og.out hv,by rw[bP];exact rq.out,bL.out⟩
     case measure=>simp[intOf];omega
  ·obtain rfl:k=n:=by omega
   rw[show ks.take k=ks from by rw[<-HK.1,List.take_length]]at cu;have bG:l.length=k:=by rw[aK cu,HK.1]
   have HE:=ae cu;have HW:=ae hown;have HX:=ae bR;clear cu hown bR;have iZ:0<k:=by rw[rF.out];omega
   obtain⟨r,rfl⟩:=nH (bG.trans rF.out);obtain⟨g,gc,rfl,hg0,hg1,sJ⟩:=bQ HW.out bG iZ;obtain⟨g2,g3⟩:=sJ 0 r rfl;simp only[Nat.zero_mul,Nat.zero_add]at g2 g3;clear bG sJ;have hro:=xV.out r HE.out;obtain⟨ro,rn⟩:=r;simp only at hro g2 g3;subst hro;have HR6:=ae (λW(hb:Below wr.heap.size wr W)=>kB.below hb);obtain⟨inv,outv,aU,rb,jV⟩:=kB.out;have Em:=ae jV;have m6:=jV.row.cell (j:=6) rfl;have mf6:=jV.row.free 6;have U5:=jV.lt;have VM:=ae (λW(hm:cN W ai mc own P ah {s with steps:=s.steps+1,code:=rn})=>(show lA 1 {s with steps:=s.steps+1,code:=rn}={s with steps:=s.steps+1,code:=rn,kind:=1}from by unfold lA;rw[if_pos xT.out])▸nE ai mc own P ah 1 {s with steps:=s.steps+1,code:=rn} W hm)
   have Aa:=ae (show cN ((wr.setCell ⟨mc,6,none⟩ (.int .i64 rn)).alloc (.cells #[.int .i64 0,.int .i64 0] 72)) ai mc own P ah {s with steps:=s.steps+1,code:=rn}from⟨_,_,_,_,(cG.num (s':={s with steps:=s.steps+1,code:=rn}) Em.out 6 (.int .i64 rn) rfl rfl rfl rfl).below (aj _ _)⟩);clear jV;go_wp2_with(go_at_call 50;refine(VM _ Aa.out).mono ?_;rintro e w5 ⟨rfl,rV,lC⟩;have yV:=ae rV;have qM:=ae lC;clear rV lC);go_ret;have hres:bu R ah lo s tp ⟨6,dst,size,fn,ks⟩=(false,{s with steps:=s.steps+1,code:=rn,kind:=1},tp):=by rw[cF HY.out sY.out HE.out];simp[ik]
   rw[hres];refine⟨rfl,own,λ_ h=>h,λ_ h=>aH h,yV.out,λh=>(by cases h),?_⟩;exact(((((Wr.of_below (aj _ _)).trans dG (λi hi=>aH (aH (hi▸fG.out)))).trans (di HX.out) (λi hi=>hi.elim)).trans (Wr.cell1 wr mc 6 (.int .i64 rn)) (λi hi=>aH (aH (hi▸fG.out)))).trans (di (aj (wr.setCell ⟨mc,6,none⟩ (.int .i64 rn)) (.cells #[.int .i64 0,.int .i64 0] 72))) (λi hi=>hi.elim)).trans qM (λi hi=>aH (aH (hi▸fG.out)))
theorem cG.Ul{w w1:World}{ai mc:Nat}{own:Nat->Prop}{P:Value×Value×Value}{ah:Int}{s:St}{inv outv aU:Value}{rb:Nat->Nat}(h:cG w ai mc own P ah s inv outv aU rb)(hw:Wr (λk=>outv.ownBlock=some k) w w1)(v:Value)(l:List Int)
  (hv:w1.ownsRow ai 2 1 v l.length (l.map (Value.int .i64))):cG (w1.setCell ⟨mc,7,none⟩ v) ai mc (λk=>own k\/v.ownBlock=some k) P ah {s with out:=l} inv v aU rb:=by
 obtain⟨hr,hm,hs⟩:=h;have hb:=hs.own mc hm;have hne:∀g cs t,Row w g cs t->t≠2->¬outv.ownBlock=some g:=λg cs t eu ht hg=>by
  obtain⟨_,cs',hr2⟩:=aC hs.out hg;exact eu.ne hr2 ht rfl
 have hr1:=hr.wr hw (hne mc _ _ hr (by decide));have CV:Wr (λk=>k=mc) w1 (w1.setCell ⟨mc,7,none⟩ v):=Wr.setCell w1 ⟨mc,7,none⟩ v rfl;have hmx:∀g cs t,Row w g cs t->t≠82->¬g=mc:=λg cs t eu ht hg=>by subst hg;exact eu.ne hr ht rfl
 have hmy:∀g cs t,Row w1 g cs t->t≠82->¬g=mc:=λg cs t eu ht hg=>by subst hg;exact eu.ne hr1 ht rfl
 refine⟨hr1.set 7 v,aH hm,⟨hs.inp.below (λb o hb'=>?_),aB hv CV (λg hg=>?_),λg hg=>aT hg,?_,λg hg=>aH (hs.memo g hg),λk hk=>?_⟩⟩
 ·exact(World.cell?_of_block (a:=⟨b,o,none⟩) (CV.block b (by have:=hw.size;omega) (by omega))).trans (World.cell?_of_block (a:=⟨b,o,none⟩) (hw.block b (by omega) (λhf=>by have:=(aC hs.out hf).1;omega)))
 ·obtain⟨_,cs,eu⟩:=aC hv hg;exact hmy g cs _ eu (by decide)
 ·obtain⟨⟨xs,hx,oC⟩,P8,hi,hk⟩:=hs.mem;refine⟨⟨xs,aB (aB hx hw (λg hg=>?_)) CV (λg hg=>?_),oC⟩,λk o h1 ho=>?_,hi,hk⟩
  ·obtain⟨_,cs,eu⟩:=aC hx hg;exact hne g cs _ eu (by decide)
  ·obtain⟨_,cs,eu⟩:=aC hx hg;exact hmx g cs _ eu (by decide)
  ·obtain⟨rL,cs,eu,QZ⟩:=P8 k o h1 ho;exact⟨aH rL,cs,(eu.wr hw (hne _ cs _ eu (by decide))).wr CV (hmx _ cs _ eu (by decide)),QZ⟩
 ·have h1:=hw.size;rcases hk with hk|hk
  ·have:=hs.own k hk;simp only[World.size_setCell];omega
  ·have:=hv.lt k hk;simp only[World.size_setCell];exact this
theorem Hu:(prog.info? 2).map (λi=>(i.zero,i.size,i.bytes))=some (some (.int .i64 0),1,8):=by kernel_rfl
theorem NP(a:Int):∀u:Value,u∈[Value.int .i64 a]->u.oneCell'=true:=by
 intro u hu;simp at hu;subst hu;rfl
theorem O5(ai mc:Nat)(own:Nat->Prop)(P:Value×Value×Value)(ah:Int)(s:St)(fb tb:Nat)(G:Value×Value×Value×Value)(tp:List V)(lv:Value)(lo:List Nat)(ng:Nat)(R:cC)(op dst size fn:Int)(ks:List T)(A:Option Addr)(n aA:Nat)(w:World)
  (hM:cN w ai mc own P ah s)(cA:s.kind=0)(hs0:0<=s.steps)(hs1:s.steps<=ah)(hf:ah<=1000000000)(hF:bM w fb G tb tp lv lo)(hO:mG ai own fb tb lv)(kM:dW (au s.mem) tp lo ng)(hT:fY tp.length lo.length ng ks)(hk:bC w ai ks A n)(iD:n<=1000)
  (rE:e9 ks)(hy:(aW ah 1 s).1=true)(cu:∃l,aD s.mem tp lo ks=some l)(hop:op=4)(jw:n=1)(Z8:s.out.length<=1000000000)(rS:∀r,aD s.mem tp lo ks=some [r]->r.obj=0):
  Calls prog 52 #[.pointer (some ⟨mc,0,none⟩),.pointer (some ⟨fb,0,none⟩),.agg #[.int .i64 op,.int .i64 dst,.int .i64 size,.int .i64 fn,.slice A n aA]] w λe w'=>cX ai mc own P ah fb tb G lv lo (bu R ah lo s tp ⟨op,dst,size,fn,ks⟩) w e w':=by
 subst hop;have rF:=ae jw;have xV:=ae rS;clear jw rS;obtain⟨qE,pU,iY⟩:=cO hy;have hm:own mc:=(by obtain⟨_,_,_,_,h⟩:=hM;exact h.mine)
 have sV:=(by obtain⟨_,_,_,_,h⟩:=hM;exact h.rest.own mc h.mine:ai<=mc/\mc<w.heap.size)
 have oF:e9 ks:=rE;have HST:=ae (λW(hb:Below w.heap.size w W)=>(iY▸hy▸eD ai mc own P ah 1 s W (hM.below hb) hs0 hs1 hf (by omega) (by omega):Calls prog 51 #[.pointer (some ⟨mc,0,none⟩),.int .i64 1] W λe w'=>e= .returned (.bool true)/\cN w' ai mc own P ah {s with steps:=s.steps+1}/\Wr (λb=>b=mc) W w'));have xT:=ae cA;have HF:=ae hF;have HO:=ae hO;have zY:=ae kM;have HT:=ae hT;have HK:=ae hk;have nZ:=ae oF;have hB:ai<=w.heap.size:=by omega
 have MU:=hk.2.1;have qh:=ae cu;clear cu;have sY:=ae iY;have HY:=ae hy;have fG:=ae hm;obtain⟨ve,u9⟩:=sV;clear hM cA hF hO kM hT hk hy qE pU iY hm rE oF hs0 hs1;go_enter func52,ntmps52;go_wp2_with(go_at_call 51;refine(HST _ (aj _ _)).mono ?_;rintro e w1 ⟨rfl,jy,bT⟩;have n9:=ae jy;have dG:=ae bT;have hz1:w.heap.size+1<=w1.heap.size:=(by have:=bT.size;simpa using this);clear jy bT);have iL:=ae (show Row w1 w.heap.size #[.int .i64 4,.int .i64 dst,.int .i64 size,.int .i64 fn,.slice A n aA] 96 from(Row.new w _ _).wr dG (show¬w.heap.size=mc by omega));have bn:=ae (show Below ai w w1 from((aj w _).mono hB).trans (dG.below (by simp;omega) (λk hk=>by omega)))
 have jB:=ae (show bM w1 fb G tb tp lv lo from(HF.below (aj _ _)).wr dG (λe=>HO.fb.1 (by rw[e];exact fG.out)) (λe=>HO.tb.1 (by rw[e];exact fG.out)) (λg hg e=>(HO.lv g hg).1 (by rw[e];exact fG.out)));have iw:=ae (HK.below bn (aN _));go_loopw [7,8] (λv i wr=>∃(k:Nat)(l:List V),k<=n/\i= .int .i64 k/\aD s.mem tp lo (ks.take k)=some l/\wr.ownsRow w1.heap.size 72 2 v k (bV l)/\Below w1.heap.size w1 wr) (λ_ i _=>n-(intOf i).toNat)
 case atStart=>exact⟨0,[],by omega,rfl,by simp[aD],World.ownsRow_nil _ _ _ _,bI _ _⟩
 case round=>
  obtain⟨k,l,hk,rfl,cu,hown,bR⟩:=hrel;have hz2:=bR.size;have hz3:w.heap.size<wr.heap.size:=by omega
  have dw:=iL.below bR (by omega);have c0:wr.cell? ⟨w.heap.size,0,none⟩=some (.int .i64 4):=dw.cell (j:=0) rfl;have c1:wr.cell? ⟨w.heap.size,1,none⟩=some (.int .i64 dst):=dw.cell (j:=1) rfl;have c2:wr.cell? ⟨w.heap.size,2,none⟩=some (.int .i64 size):=dw.cell (j:=2) rfl;have c3:wr.cell? ⟨w.heap.size,3,none⟩=some (.int .i64 fn):=dw.cell (j:=3) rfl;have c4:wr.cell? ⟨w.heap.size,4,none⟩=some (.slice A n aA):=dw.cell (j:=4) rfl;clear dw;have kB:=ae (n9.below bR);have iy:=ae (jB.below bR);have iV:ai<=w1.heap.size:=by omega
  by_cases hlt:k<n
  ·obtain⟨b,off,t,v0,v1,v2,rfl,hb,bA,k0,k1,k2,ht⟩:=(iw.below (bR.mono iV) (aN _)).get hlt;have gF:=(by obtain⟨_,_,_,_,h⟩:=kB.out;exact h.rest.mem.ok:b9 s.mem)
   have HC:=ae (eU t.size t ai mc own P ah {s with steps:=s.steps+1} fb tb G tp lv lo ng wr v0 v1 v2 (aN _) kB.out xT.out iy.out gF zY (HT.get bA) ht);have og:=ae bA;have eY:(k:Int)<(n:Int):=by omega
   have HE:=ae cu;have HW:=ae hown;have HX:=ae bR;have bG:l.length=k:=by
    have:=aK cu;rw[List.length_take,HK.1]at this;omega
   clear bA ht cu hown bR gF;cases hv:bZ s.mem tp lo t with
   |none=>
    exact absurd (cI og.out hv) (by rw[qh.choose_spec];simp)
   |some v=>
    rw[hv]at HC;obtain⟨i0,hi,hz0,jg,lK⟩:=info_parts dK;go_wp2_with fail;refine HC.mono ?_;rintro e w2 ⟨rfl,hb1⟩;simp only[aI];have hz:=hb1.size;have hown1:=(aB HW (di hb1) (λ_ _ h=>h))
    go_wp2_with(at_builtin;refine wpList_append_own _ rfl (.tmp 37) (.tmp 39) 67 rfl w1.heap.size 72 i0 (.agg #[.int .i64 0,.int .i64 0]) 2 16 underlying67 hi hz0 jg lK rfl (by decide) _ _ _ rfl ((hown1.alloc _).alloc _) ⟨w2.heap.size+1,0,none⟩ 1 1 [.int .i64 v.obj,.int .i64 v.n] rfl rfl ?c1 ?c2 ?c3 ?c4 ?c5 ?_)
    case c1=>exact cK _ _ _ _ _ (by simp)
    case c2=>exact dS _ _
    case c3=>have:=iD;unfold maxLen;omega
    case c4=>have:=iD;omega
    case c5=>simp;omega
    ·intro v' w3 hown2 hgrow _;have bL:=ae ((((HX.trans (hb1.mono (show w1.heap.size<=wr.heap.size from by omega))).alloc (by omega) _).alloc (by simp;omega) _).grown hgrow (by simp;omega) (λg hg=>(HW.lt g hg).1));have rq:=ae hown2;clear hown2 hgrow hown1 hb1;go_wp2_with fail;go_roundw
     case rel=>exact⟨k+1,l++[v],by omega,by go_num,cE HE.out og.out hv,by rw[bP];exact rq.out,bL.out⟩
     case measure=>simp[intOf];omega
  ·obtain rfl:k=n:=by omega
   rw[show ks.take k=ks from by rw[<-HK.1,List.take_length]]at cu;have bG:l.length=k:=by rw[aK cu,HK.1]
   have HE:=ae cu;have HW:=ae hown;have HX:=ae bR;clear cu hown bR;have iZ:0<k:=by rw[rF.out];omega
   obtain⟨r,rfl⟩:=nH (bG.trans rF.out);obtain⟨g,gc,rfl,hg0,hg1,sJ⟩:=bQ HW.out bG iZ;obtain⟨g2,g3⟩:=sJ 0 r rfl;simp only[Nat.zero_mul,Nat.zero_add]at g2 g3;clear bG sJ;have hro:=xV.out r HE.out;obtain⟨ro,rn⟩:=r;simp only at hro g2 g3;subst hro;obtain⟨inv,outv,aU,rb,jV⟩:=kB.out;have Em:=ae jV;obtain⟨q,zP⟩:∃q,q=s.out.length:=⟨_,rfl⟩
   have VR:=ae zP;have ho:=jV.rest.out;simp only at ho;rw[<-zP]at ho Z8;obtain⟨A1,eT,Fl⟩:∃A1 eT,outv= .slice A1 q eT:=(by obtain⟨_,h|⟨g,c,cur,h,_⟩⟩:=id ho;exact⟨none,0,by rw[h.1,h.2]⟩;exact⟨_,_,h⟩)
   subst Fl;have m7:wr.cell? ⟨mc,7,none⟩=some (.slice A1 q eT):=jV.row.cell (j:=7) rfl;have mf7:=jV.row.free 7;have U5:=jV.lt;have hMAl2:mc<wr.heap.size+1:=by omega
   have yU:=ae ho;have Zp:=ae (show¬(Value.slice A1 q eT).ownBlock=some mc from λe=>by obtain⟨_,cs',eu⟩:=aC ho e;exact eu.ne jV.row (by decide) rfl);obtain⟨xs,nV⟩:∃xs,xs=s.out.map (Value.int .i64):=⟨_,rfl⟩
   have HXS:=ae nV;rw[<-nV]at yU;obtain⟨i0,hi,hz0,jg,lK⟩:=info_parts Hu;have Fu:¬(Value.slice A1 q eT).ownBlock=some g:=λe=>by
    obtain⟨_,cs',eu⟩:=aC ho e;obtain⟨_,cs2,hr2⟩:=aC HW (g:=g) rfl;exact eu.ne hr2 (by decide) rfl
   have HGNE:=ae Fu;clear jV ho zP nV Fu;go_wp2_with fail;go_region_law
    ((refine step_append_lies _ (by rfl) _ _ _ (by rfl) ai 2 i0 _ 1 8 underlying23 hi hz0 jg lK rfl (by omega) _ _ _ (by rfl) (rN ((aB yU (di (aj wr (.cells #[.int .i64 0,.int .i64 0] 72))) (λ_ _ h=>h))) _) ⟨wr.heap.size+1,0,none⟩ 1 1 [.int .i64 rn] (by rfl) (by rfl) (ny _ _ _ _ (by simp)) (NP _) (by omega) (by unfold maxLen;omega) (by omega) (by simp;omega) (wr.heap.size+1+1) (by simp) ?_;intro gg fC w2 hown2 hgrow hat xe;have hq:=(((Em.row.alloc (.cells #[.int .i64 0,.int .i64 0] 72)).alloc (.cells #[.int .i64 rn] 2)).drew).wr (Wr.grown (F:=λk=>(Value.slice A1 q eT).ownBlock=some k) hgrow (λk hk=>hk)) Zp.out;have jZ:w2.cell? ⟨mc,7,none⟩=some (.slice A1 q eT):=hq.cell (j:=7) rfl;have Dx:=hq.free 7;have hql:=hq.lt;have SS:=ae hq;have MN:=ae hgrow;have yT:=ae hown2;have s7:=ae hat;clear hq hgrow hown2 hat))
   all_goals go_wp2_with fail
   all_goals go_ret
   all_goals
    have hres:bu R ah lo s tp ⟨4,dst,size,fn,ks⟩=(true,{s with steps:=s.steps+1,out:=s.out++[rn]},tp):=by rw[cF HY.out sY.out HE.out];simp[ik]
    rw[hres];have hw2:Wr (λk=>(Value.slice A1 q eT).ownBlock=some k) wr w2:=(Wr.of_below (aJ wr (.cells #[.int .i64 0,.int .i64 0] 72) (.cells #[.int .i64 rn] 2)).drew).trans (Wr.grown (F:=λk=>(Value.slice A1 q eT).ownBlock=some k) MN (λk hk=>hk)) (λi hi=>aH hi);have hown:w2.ownsRow ai 2 1 (.slice (some ⟨gg,0,none⟩) (q+1) fC) (s.out++[rn]).length ((s.out++[rn]).map (Value.int .i64)):=by
     rw[List.length_append,List.length_singleton,<-VR.out,List.map_append,<-HXS.out];exact yT.out
    have hMA2:=Em.Ul hw2 (.slice (some ⟨gg,0,none⟩) (q+1) fC) (s.out++[rn]) hown;have AZ:∀k,(Value.slice A1 q eT).ownBlock=some k->own k:=Em.rest.rH;have CV:=Wr.setCell (F:=λk=>k=mc) w2 ⟨mc,7,none⟩ (.slice (some ⟨gg,0,none⟩) (q+1) fC) rfl;refine⟨rfl,λk=>own k\/(Value.slice (some ⟨gg,0,none⟩) (q+1) fC).ownBlock=some k,λk hk=>aH hk,λk hk=>?_,⟨_,_,_,_,hMA2⟩,λ_=>?_,?_⟩
    ·rcases hk with hk|hk
     ·exact aH hk
     ·simp only[Value.ownBlock,Option.some.injEq]at hk;subst hk;rcases s7.out with h|h
      ·exact aH (AZ _ h)
      ·exact aT (by omega)
    ·exact(iy.wr hw2 (λe=>HO.fb.1 (AZ _ e)) (λe=>HO.tb.1 (AZ _ e)) (λg hg e=>(HO.lv g hg).1 (AZ _ e))).wr CV (λe=>HO.fb.1 (by rw[e];exact fG.out)) (λe=>HO.tb.1 (by rw[e];exact fG.out)) (λg hg e=>(HO.lv g hg).1 (by rw[e];exact fG.out))
    ·exact((((Wr.of_below (aj _ _)).trans dG (λi hi=>aH (aH (hi▸fG.out)))).trans (di HX.out) (λi hi=>hi.elim)).trans hw2 (λi hi=>aH (aH (AZ i hi)))).trans CV (λi hi=>aH (aH (hi▸fG.out)))
theorem L3(ai mc:Nat)(own:Nat->Prop)(P:Value×Value×Value)(ah:Int)(s:St)(fb tb:Nat)(G:Value×Value×Value×Value)(tp:List V)(lv:Value)(lo:List Nat)(ng:Nat)(R:cC)(op dst size fn:Int)(ks:List T)(A:Option Addr)(n aA:Nat)(w:World)
  (hM:cN w ai mc own P ah s)(cA:s.kind=0)(hs0:0<=s.steps)(hs1:s.steps<=ah)(hf:ah<=1000000000)(hF:bM w fb G tb tp lv lo)(hO:mG ai own fb tb lv)(kM:dW (au s.mem) tp lo ng)(hT:fY tp.length lo.length ng ks)(hk:bC w ai ks A n)(iD:n<=1000)
  (rE:e9 ks)(hy:(aW ah 1 s).1=true)(cu:∃l,aD s.mem tp lo ks=some l)(hop:op=2)(jw:n=2)(sz:Nat)(hsz:size=sz)(XH:sz=1\/sz=2\/sz=4\/sz=8)(J1:∀r x,aD s.mem tp lo ks=some [r,x]->CJ s.mem.length r)(Bh:∀r x,aD s.mem tp lo ks=some [r,x]->cS s.mem size r x=none):
  Calls prog 52 #[.pointer (some ⟨mc,0,none⟩),.pointer (some ⟨fb,0,none⟩),.agg #[.int .i64 op,.int .i64 dst,.int .i64 size,.int .i64 fn,.slice A n aA]] w λe w'=>cX ai mc own P ah fb tb G lv lo (bu R ah lo s tp ⟨op,dst,size,fn,ks⟩) w e w':=by
 subst hop;have rF:=ae jw;have Ej:=ae J1;have xY:=ae Bh;subst hsz;clear jw J1 Bh;obtain⟨qE,pU,iY⟩:=cO hy;have hm:own mc:=(by obtain⟨_,_,_,_,h⟩:=hM;exact h.mine)
 have sV:=(by obtain⟨_,_,_,_,h⟩:=hM;exact h.rest.own mc h.mine:ai<=mc/\mc<w.heap.size)
 have oF:e9 ks:=rE;have HST:=ae (λW(hb:Below w.heap.size w W)=>(iY▸hy▸eD ai mc own P ah 1 s W (hM.below hb) hs0 hs1 hf (by omega) (by omega):Calls prog 51 #[.pointer (some ⟨mc,0,none⟩),.int .i64 1] W λe w'=>e= .returned (.bool true)/\cN w' ai mc own P ah {s with steps:=s.steps+1}/\Wr (λb=>b=mc) W w'));have xT:=ae cA;have HF:=ae hF;have HO:=ae hO;have zY:=ae kM;have HT:=ae hT;have HK:=ae hk;have nZ:=ae oF;have hB:ai<=w.heap.size:=by omega
 have MU:=hk.2.1;have qh:=ae cu;clear cu;have sY:=ae iY;have HY:=ae hy;have fG:=ae hm;obtain⟨ve,u9⟩:=sV;clear hM cA hF hO kM hT hk hy qE pU iY hm rE oF hs0 hs1;go_enter func52,ntmps52;go_wp2_with(go_at_call 51;refine(HST _ (aj _ _)).mono ?_;rintro e w1 ⟨rfl,jy,bT⟩;have n9:=ae jy;have dG:=ae bT;have hz1:w.heap.size+1<=w1.heap.size:=(by have:=bT.size;simpa using this);clear jy bT);have iL:=ae (show Row w1 w.heap.size #[.int .i64 2,.int .i64 dst,.int .i64 (sz:Nat),.int .i64 fn,.slice A n aA] 96 from(Row.new w _ _).wr dG (show¬w.heap.size=mc by omega));have bn:=ae (show Below ai w w1 from((aj w _).mono hB).trans (dG.below (by simp;omega) (λk hk=>by omega)))
 have jB:=ae (show bM w1 fb G tb tp lv lo from(HF.below (aj _ _)).wr dG (λe=>HO.fb.1 (by rw[e];exact fG.out)) (λe=>HO.tb.1 (by rw[e];exact fG.out)) (λg hg e=>(HO.lv g hg).1 (by rw[e];exact fG.out)));have iw:=ae (HK.below bn (aN _));go_loopw [7,8] (λv i wr=>∃(k:Nat)(l:List V),k<=n/\i= .int .i64 k/\aD s.mem tp lo (ks.take k)=some l/\wr.ownsRow w1.heap.size 72 2 v k (bV l)/\Below w1.heap.size w1 wr) (λ_ i _=>n-(intOf i).toNat)
 case atStart=>exact⟨0,[],by omega,rfl,by simp[aD],World.ownsRow_nil _ _ _ _,bI _ _⟩
 case round=>
  obtain⟨k,l,hk,rfl,cu,hown,bR⟩:=hrel;have hz2:=bR.size;have hz3:w.heap.size<wr.heap.size:=by omega
  have dw:=iL.below bR (by omega);have c0:wr.cell? ⟨w.heap.size,0,none⟩=some (.int .i64 2):=dw.cell (j:=0) rfl;have c1:wr.cell? ⟨w.heap.size,1,none⟩=some (.int .i64 dst):=dw.cell (j:=1) rfl;have c2:wr.cell? ⟨w.heap.size,2,none⟩=some (.int .i64 (sz:Nat)):=dw.cell (j:=2) rfl;have c3:wr.cell? ⟨w.heap.size,3,none⟩=some (.int .i64 fn):=dw.cell (j:=3) rfl;have c4:wr.cell? ⟨w.heap.size,4,none⟩=some (.slice A n aA):=dw.cell (j:=4) rfl;clear dw;have kB:=ae (n9.below bR);have iy:=ae (jB.below bR);have iV:ai<=w1.heap.size:=by omega
  by_cases hlt:k<n
  ·obtain⟨b,off,t,v0,v1,v2,rfl,hb,bA,k0,k1,k2,ht⟩:=(iw.below (bR.mono iV) (aN _)).get hlt;have gF:=(by obtain⟨_,_,_,_,h⟩:=kB.out;exact h.rest.mem.ok:b9 s.mem)
   have HC:=ae (eU t.size t ai mc own P ah {s with steps:=s.steps+1} fb tb G tp lv lo ng wr v0 v1 v2 (aN _) kB.out xT.out iy.out gF zY (HT.get bA) ht);have og:=ae bA;have eY:(k:Int)<(n:Int):=by omega
   have HE:=ae cu;have HW:=ae hown;have HX:=ae bR;have bG:l.length=k:=by
    have:=aK cu;rw[List.length_take,HK.1]at this;omega
   clear bA ht cu hown bR gF;cases hv:bZ s.mem tp lo t with
   |none=>
    exact absurd (cI og.out hv) (by rw[qh.choose_spec];simp)
   |some v=>
    rw[hv]at HC;obtain⟨i0,hi,hz0,jg,lK⟩:=info_parts dK;go_wp2_with fail;refine HC.mono ?_;rintro e w2 ⟨rfl,hb1⟩;simp only[aI];have hz:=hb1.size;have hown1:=(aB HW (di hb1) (λ_ _ h=>h))
    go_wp2_with(at_builtin;refine wpList_append_own _ rfl (.tmp 37) (.tmp 39) 67 rfl w1.heap.size 72 i0 (.agg #[.int .i64 0,.int .i64 0]) 2 16 underlying67 hi hz0 jg lK rfl (by decide) _ _ _ rfl ((hown1.alloc _).alloc _) ⟨w2.heap.size+1,0,none⟩ 1 1 [.int .i64 v.obj,.int .i64 v.n] rfl rfl ?c1 ?c2 ?c3 ?c4 ?c5 ?_)
    case c1=>exact cK _ _ _ _ _ (by simp)
    case c2=>exact dS _ _
    case c3=>have:=iD;unfold maxLen;omega
    case c4=>have:=iD;omega
    case c5=>simp;omega
    ·intro v' w3 hown2 hgrow _;have bL:=ae ((((HX.trans (hb1.mono (show w1.heap.size<=wr.heap.size from by omega))).alloc (by omega) _).alloc (by simp;omega) _).grown hgrow (by simp;omega) (λg hg=>(HW.lt g hg).1));have rq:=ae hown2;clear hown2 hgrow hown1 hb1;go_wp2_with fail;go_roundw
     case rel=>exact⟨k+1,l++[v],by omega,by go_num,cE HE.out og.out hv,by rw[bP];exact rq.out,bL.out⟩
     case measure=>simp[intOf];omega
  ·obtain rfl:k=n:=by omega
   rw[show ks.take k=ks from by rw[<-HK.1,List.take_length]]at cu;have bG:l.length=k:=by rw[aK cu,HK.1]
   have HE:=ae cu;have HW:=ae hown;have HX:=ae bR;clear cu hown bR;have iZ:0<k:=by rw[rF.out];omega
   obtain⟨r,x,rfl⟩:=Dl (bG.trans rF.out);obtain⟨g,gc,rfl,hg0,hg1,sJ⟩:=bQ HW.out bG iZ;obtain⟨g2,g3⟩:=sJ 0 r rfl;obtain⟨g4,g5⟩:=sJ 1 x rfl;simp only[Nat.zero_mul,Nat.zero_add,Nat.one_mul]at g2 g3 g4 g5;obtain rfl:k=2:=rF.out;clear bG sJ;obtain⟨A',cap',Bf,DG,Ba⟩:=kB.QM;have J1:=Ej.out r x HE.out;have MG:=ae J1;have ed:=ae (aj wr (.cells #[.int .i64 0,.int .i64 0] 72)).drew;have Qq:=ae (xY.out r x HE.out);have s7:=ae (show∃(pp:Value)(okb:Bool),(okb=false\/(0<x.obj/\sz≠8))/\∀W,Below wr.heap.size wr W->Calls prog 86 #[.pointer (some ⟨mc,10,none⟩),.agg #[.int .i64 r.obj,.int .i64 r.n],.int .i64 sz] W λe w'=>e= .returned (.tuple #[pp,.bool okb])/\Below W.heap.size W w' from by
    cases hF:qL s.mem r sz with
    |none=>exact⟨_,false,aH rfl,λW hb=>Kf mc 10 A' s.mem.length cap' wr.heap.size sz r s.mem W hb.size (by have:=hb.size;omega) (ag Bf hb Ba) (DG.below hb (aN _)) MG.1 MG.2.1 (by omega) (by omega) hF⟩
    |some j=>
     have hb0:=Qq.out;unfold cS at hb0;rw[Int.toNat_natCast,hF]at hb0;simp only at hb0;obtain⟨hx0,hx1⟩:=MG.2.1 (oH hF);obtain⟨_,_,_,hj⟩:=Eb hF hx0;obtain⟨mb,mo,rfl,eW,A2,len,gT,_,c1,_,hl,_,_,_,hrow⟩:=DG.get (MG.1 (oH hF));have mO:(aF s.mem r.obj).l[j]? =some ((aF s.mem r.obj).l.getD j ⟨0,0⟩):=by rw[List.getD_eq_getElem?_getD,List.getElem?_eq_getElem hj];rfl
     obtain⟨ob,oo,rfl,oD,hv⟩:=hrow j _ mO;refine⟨_,true,aT ?_,λW hb=>xO mc 10 mb mo ob oo s.mem.length cap' wr.heap.size len gT sz r s.mem W j hb.size (by have:=hb.size;omega) (ag Bf hb Ba) (DG.below hb (aN _)) (MG.1 (oH hF)) hx0 hx1 (by omega) (by omega) (ag c1 hb eW) hF⟩;split at hb0
     ·rename_i h;exact⟨h.1,λe=>h.2 (by omega)⟩
     ·cases hb0)
   obtain⟨pp,okb,GL,hat⟩:=s7.out;have HRS:=ae (He mc 10 sz r x pp okb ((wr.alloc (.cells #[.int .i64 0,.int .i64 0] 72)).drew) (λW hb=>hat W (ed.trans (hb.mono ed.size))) GL);have VM:=ae (λW(hb:Below wr.heap.size wr W)=>(show lA 3 {s with steps:=s.steps+1}={s with steps:=s.steps+1,kind:=3}from by unfold lA;rw[if_pos xT.out])▸nE ai mc own P ah 3 {s with steps:=s.steps+1} W (kB.below hb));clear GL hat J1 DG s7;go_wp2_with fail;refine bJ 11 (by kernel_rfl) (by kernel_rfl) ?_;simp only[List.take_succ_cons,List.take_zero,List.drop_succ_cons,List.drop_zero]
   repeat(go_big_quiet_step (fail))
   refine wpQuiet_nil ?_;go_wp2_with fail;refine HRS.mono ?_;rintro e w4 ⟨rfl,hb4⟩;have gN:=ae (ed.trans (hb4.mono ed.size));clear hb4;go_wp2_with fail;refine(VM _ gN.out).mono ?_;rintro e w5 ⟨rfl,rV,lC⟩;have yV:=ae rV;have qM:=ae lC;clear rV lC;go_wp2_with fail;go_ret;have hres:bu R ah lo s tp ⟨2,dst,(sz:Int),fn,ks⟩=(false,{s with steps:=s.steps+1,kind:=3},tp):=by rw[cF HY.out sY.out HE.out];simp[ik,Qq.out]
   rw[hres];refine⟨rfl,own,λ_ h=>h,λ_ h=>aH h,yV.out,λh=>(by cases h),?_⟩;exact((((Wr.of_below (aj _ _)).trans dG (λi hi=>aH (aH (hi▸fG.out)))).trans (di HX.out) (λi hi=>hi.elim)).trans (di gN.out) (λi hi=>hi.elim)).trans qM (λi hi=>aH (aH (hi▸fG.out)))
theorem cG.Ni{w w':World}{ai mc:Nat}{own:Nat->Prop}{P:Value×Value×Value}{ah:Int}{s:St}{inv outv aU:Value}{rb:Nat->Nat}(h:cG w ai mc own P ah s inv outv aU rb){k j:Nat}{o:MO}{v:V}(hk:1<=k)(ho:s.mem[k]? =some o)
  (hw:Wr (λi=>i=rb k) w w')(hv:iq w' (rb k) (o.l.set j v))(gu:b9 (s.mem.modify k λo=>{o with l:=o.l.set j v})):cG w' ai mc own P ah {s with mem:=s.mem.modify k λo=>{o with l:=o.l.set j v}} inv outv aU rb:=by
 obtain⟨hr,hm,hs⟩:=h;obtain⟨rK,cs0,dw,_⟩:=hs.mem.mine k o hk ho;have hb:=hs.own _ rK;have hne:∀g cs t,Row w g cs t->t≠72->¬g=rb k:=λg cs t eu ht hg=>by subst hg;exact eu.ne dw ht rfl
 refine⟨hr.wr hw (hne mc _ _ hr (by decide)),hm,⟨hs.inp.below (λb o hb'=>World.cell?_of_block (a:=⟨b,o,none⟩) (hw.block b (by omega) (by omega))),aB hs.out hw (λg hg=>?_),hs.rH,?_,hs.memo,λi hi=>⟨(hs.own i hi).1,kL (hs.own i hi).2 hw.size⟩⟩⟩
 ·obtain⟨_,cs,eu⟩:=aC hs.out hg;exact hne g cs _ eu (by decide)
 ·obtain⟨⟨xs,hx,oC⟩,P8,hi,_⟩:=hs.mem;refine⟨⟨xs,?_,λi o' rL=>?_⟩,λi o' h1 rL=>?_,λi i' h1 h2 h3 h4=>hi i i' h1 (by simpa using h2) h3 (by simpa using h4),gu⟩
  ·simp only[List.length_modify];exact aB hx hw (λg hg=>by obtain⟨_,cs,eu⟩:=aC hx hg;exact hne g cs _ eu (by decide))
  ·obtain⟨o0,h0,rfl⟩:=cY rL;have:=oC i o0 h0;split
   ·unfold uL at this ⊢;simpa using this
   ·exact this
  ·obtain⟨o0,h0,rfl⟩:=cY rL;by_cases hik:k=i
   ·subst hik;rw[if_pos rfl];obtain rfl:o0=o:=by rw[ho]at h0;exact(Option.some.inj h0).symm
    exact⟨rK,hv⟩
   ·rw[if_neg hik];obtain⟨Ir,cs,eu,QZ⟩:=P8 i o0 h1 h0;have hlt:∀{m:Nat}{q:MO},s.mem[m]? =some q->m<s.mem.length:=λ{m q}hq=>by
     rcases Nat.lt_or_ge m s.mem.length with h|h
     ·exact h
     ·rw[List.getElem?_eq_none h]at hq;cases hq
    exact⟨Ir,cs,eu.wr hw (λe=>hik (hi i k h1 (hlt h0) hk (hlt ho) e).symm),QZ⟩
theorem Jc(ai mc:Nat)(own:Nat->Prop)(P:Value×Value×Value)(ah:Int)(s:St)(fb tb:Nat)(G:Value×Value×Value×Value)(tp:List V)(lv:Value)(lo:List Nat)(ng:Nat)(R:cC)(op dst size fn:Int)(ks:List T)(A:Option Addr)(n aA:Nat)(w:World)
  (hM:cN w ai mc own P ah s)(cA:s.kind=0)(hs0:0<=s.steps)(hs1:s.steps<=ah)(hf:ah<=1000000000)(hF:bM w fb G tb tp lv lo)(hO:mG ai own fb tb lv)(kM:dW (au s.mem) tp lo ng)(hT:fY tp.length lo.length ng ks)(hk:bC w ai ks A n)(iD:n<=1000)
  (rE:e9 ks)(hy:(aW ah 1 s).1=true)(cu:∃l,aD s.mem tp lo ks=some l)(hop:op=2)(jw:n=2)(sz:Nat)(hsz:size=sz)(XH:sz=1\/sz=2\/sz=4\/sz=8)(J1:∀r x,aD s.mem tp lo ks=some [r,x]->CJ s.mem.length r)(rS:∀r x,aD s.mem tp lo ks=some [r,x]->∃M',cS s.mem size r x=some M'/\b9 M'):
  Calls prog 52 #[.pointer (some ⟨mc,0,none⟩),.pointer (some ⟨fb,0,none⟩),.agg #[.int .i64 op,.int .i64 dst,.int .i64 size,.int .i64 fn,.slice A n aA]] w λe w'=>cX ai mc own P ah fb tb G lv lo (bu R ah lo s tp ⟨op,dst,size,fn,ks⟩) w e w':=by
 subst hop;have rF:=ae jw;have Ej:=ae J1;have xV:=ae rS;subst hsz;clear jw J1 rS;obtain⟨qE,pU,iY⟩:=cO hy;have hm:own mc:=(by obtain⟨_,_,_,_,h⟩:=hM;exact h.mine)
 have sV:=(by obtain⟨_,_,_,_,h⟩:=hM;exact h.rest.own mc h.mine:ai<=mc/\mc<w.heap.size)
 have oF:e9 ks:=rE;have HST:=ae (λW(hb:Below w.heap.size w W)=>(iY▸hy▸eD ai mc own P ah 1 s W (hM.below hb) hs0 hs1 hf (by omega) (by omega):Calls prog 51 #[.pointer (some ⟨mc,0,none⟩),.int .i64 1] W λe w'=>e= .returned (.bool true)/\cN w' ai mc own P ah {s with steps:=s.steps+1}/\Wr (λb=>b=mc) W w'));have xT:=ae cA;have HF:=ae hF;have HO:=ae hO;have zY:=ae kM;have HT:=ae hT;have HK:=ae hk;have nZ:=ae oF;have hB:ai<=w.heap.size:=by omega
 have MU:=hk.2.1;have qh:=ae cu;clear cu;have sY:=ae iY;have HY:=ae hy;have fG:=ae hm;obtain⟨ve,u9⟩:=sV;clear hM cA hF hO kM hT hk hy qE pU iY hm rE oF hs0 hs1;go_enter func52,ntmps52;go_wp2_with(go_at_call 51;refine(HST _ (aj _ _)).mono ?_;rintro e w1 ⟨rfl,jy,bT⟩;have n9:=ae jy;have dG:=ae bT;have hz1:w.heap.size+1<=w1.heap.size:=(by have:=bT.size;simpa using this);clear jy bT);have iL:=ae (show Row w1 w.heap.size #[.int .i64 2,.int .i64 dst,.int .i64 (sz:Nat),.int .i64 fn,.slice A n aA] 96 from(Row.new w _ _).wr dG (show¬w.heap.size=mc by omega));have bn:=ae (show Below ai w w1 from((aj w _).mono hB).trans (dG.below (by simp;omega) (λk hk=>by omega)))
 have jB:=ae (show bM w1 fb G tb tp lv lo from(HF.below (aj _ _)).wr dG (λe=>HO.fb.1 (by rw[e];exact fG.out)) (λe=>HO.tb.1 (by rw[e];exact fG.out)) (λg hg e=>(HO.lv g hg).1 (by rw[e];exact fG.out)));have iw:=ae (HK.below bn (aN _));go_loopw [7,8] (λv i wr=>∃(k:Nat)(l:List V),k<=n/\i= .int .i64 k/\aD s.mem tp lo (ks.take k)=some l/\wr.ownsRow w1.heap.size 72 2 v k (bV l)/\Below w1.heap.size w1 wr) (λ_ i _=>n-(intOf i).toNat)
 case atStart=>exact⟨0,[],by omega,rfl,by simp[aD],World.ownsRow_nil _ _ _ _,bI _ _⟩
 case round=>
  obtain⟨k,l,hk,rfl,cu,hown,bR⟩:=hrel;have hz2:=bR.size;have hz3:w.heap.size<wr.heap.size:=by omega
  have dw:=iL.below bR (by omega);have c0:wr.cell? ⟨w.heap.size,0,none⟩=some (.int .i64 2):=dw.cell (j:=0) rfl;have c1:wr.cell? ⟨w.heap.size,1,none⟩=some (.int .i64 dst):=dw.cell (j:=1) rfl;have c2:wr.cell? ⟨w.heap.size,2,none⟩=some (.int .i64 (sz:Nat)):=dw.cell (j:=2) rfl;have c3:wr.cell? ⟨w.heap.size,3,none⟩=some (.int .i64 fn):=dw.cell (j:=3) rfl;have c4:wr.cell? ⟨w.heap.size,4,none⟩=some (.slice A n aA):=dw.cell (j:=4) rfl;clear dw;have kB:=ae (n9.below bR);have iy:=ae (jB.below bR);have iV:ai<=w1.heap.size:=by omega
  by_cases hlt:k<n
  ·obtain⟨b,off,t,v0,v1,v2,rfl,hb,bA,k0,k1,k2,ht⟩:=(iw.below (bR.mono iV) (aN _)).get hlt;have gF:=(by obtain⟨_,_,_,_,h⟩:=kB.out;exact h.rest.mem.ok:b9 s.mem)
   have HC:=ae (eU t.size t ai mc own P ah {s with steps:=s.steps+1} fb tb G tp lv lo ng wr v0 v1 v2 (aN _) kB.out xT.out iy.out gF zY (HT.get bA) ht);have og:=ae bA;have eY:(k:Int)<(n:Int):=by omega
   have HE:=ae cu;have HW:=ae hown;have HX:=ae bR;have bG:l.length=k:=by
    have:=aK cu;rw[List.length_take,HK.1]at this;omega
   clear bA ht cu hown bR gF;cases hv:bZ s.mem tp lo t with
   |none=>
    exact absurd (cI og.out hv) (by rw[qh.choose_spec];simp)
   |some v=>
    rw[hv]at HC;obtain⟨i0,hi,hz0,jg,lK⟩:=info_parts dK;go_wp2_with fail;refine HC.mono ?_;rintro e w2 ⟨rfl,hb1⟩;simp only[aI];have hz:=hb1.size;have hown1:=(aB HW (di hb1) (λ_ _ h=>h))
    go_wp2_with(at_builtin;refine wpList_append_own _ rfl (.tmp 37) (.tmp 39) 67 rfl w1.heap.size 72 i0 (.agg #[.int .i64 0,.int .i64 0]) 2 16 underlying67 hi hz0 jg lK rfl (by decide) _ _ _ rfl ((hown1.alloc _).alloc _) ⟨w2.heap.size+1,0,none⟩ 1 1 [.int .i64 v.obj,.int .i64 v.n] rfl rfl ?c1 ?c2 ?c3 ?c4 ?c5 ?_)
    case c1=>exact cK _ _ _ _ _ (by simp)
    case c2=>exact dS _ _
    case c3=>have:=iD;unfold maxLen;omega
    case c4=>have:=iD;omega
    case c5=>simp;omega
    ·intro v' w3 hown2 hgrow _;have bL:=ae ((((HX.trans (hb1.mono (show w1.heap.size<=wr.heap.size from by omega))).alloc (by omega) _).alloc (by simp;omega) _).grown hgrow (by simp;omega) (λg hg=>(HW.lt g hg).1));have rq:=ae hown2;clear hown2 hgrow hown1 hb1;go_wp2_with fail;go_roundw
     case rel=>exact⟨k+1,l++[v],by omega,by go_num,cE HE.out og.out hv,by rw[bP];exact rq.out,bL.out⟩
     case measure=>simp[intOf];omega
  ·obtain rfl:k=n:=by omega
   rw[show ks.take k=ks from by rw[<-HK.1,List.take_length]]at cu;have bG:l.length=k:=by rw[aK cu,HK.1]
   have HE:=ae cu;have HW:=ae hown;have HX:=ae bR;clear cu hown bR;have iZ:0<k:=by rw[rF.out];omega
   obtain⟨r,x,rfl⟩:=Dl (bG.trans rF.out);obtain⟨g,gc,rfl,hg0,hg1,sJ⟩:=bQ HW.out bG iZ;obtain⟨g2,g3⟩:=sJ 0 r rfl;obtain⟨g4,g5⟩:=sJ 1 x rfl;simp only[Nat.zero_mul,Nat.zero_add,Nat.one_mul]at g2 g3 g4 g5;obtain rfl:k=2:=rF.out;clear bG sJ;obtain⟨A',cap',Bf,DG,Ba⟩:=kB.QM;have J1:=Ej.out r x HE.out;have MG:=ae J1;have ed:=ae (aj wr (.cells #[.int .i64 0,.int .i64 0] 72)).drew;obtain⟨M',U6,Ru⟩:=xV.out r x HE.out;have M4:=ae U6;have Qe:=U6;unfold cS at Qe;rw[Int.toNat_natCast]at Qe;cases hF:qL s.mem r sz with
   |none=>rw[hF]at Qe;cases Qe
   |some j=>
    rw[hF]at Qe;simp only at Qe;split at Qe
    ·cases Qe
    ·rename_i bR;simp only[Option.some.injEq]at Qe;subst Qe;have XY:¬(0<x.obj/\sz≠8):=λh=>bR ⟨h.1,by omega⟩;obtain⟨hx0,hx1⟩:=MG.2.1 (oH hF);have eY:=MG.1 (oH hF);obtain⟨J2,_,_,hj⟩:=Eb hF hx0;have A8:=oz eY;obtain⟨inv,outv,aU,rb,jV⟩:=id kB.out;obtain⟨Ty,cs,hrow,jh⟩:=jV.rest.mem.mine r.obj _ (by omega) A8;obtain⟨⟨xs,nV,oC⟩,_⟩:=id jV.rest.mem;obtain⟨_,hc1,_⟩:=oC r.obj _ A8;rw[if_neg (by omega)]at hc1;have Ob:aU= .slice A' s.mem.length cap':=by have:=jV.row.cell (j:=10) rfl;exact Option.some.inj (this.symm.trans Bf)
     subst Ob;obtain⟨mg,Wx,hmgl⟩:∃mg,A'=some ⟨mg,0,none⟩/\mg<wr.heap.size:=(by
      obtain⟨_,h|⟨g,c,cur,h,_,hh,_⟩⟩:=id nV
      ·have:=h.2;simp only at this;omega
      ·injection h with h;exact⟨g,h,Row.lt hh⟩)
     subst Wx;have c1:wr.cell? ⟨mg,0+r.obj*3+1,none⟩=some (.slice (some ⟨rb r.obj,0,none⟩) (aF s.mem r.obj).l.length (aF s.mem r.obj).l.length):=by
      rw[show 0+r.obj*3+1=r.obj*3+1 by omega,nV.cellAt (r.obj*3+1) (by omega)];exact hc1
     have hcs:cs.size=(aF s.mem r.obj).l.length*2:=jh.1;have hrow2:=(hrow.alloc (.cells #[.int .i64 0,.int .i64 0] 72)).drew;have HRS:=ae (Hd mc 10 (rb r.obj) j sz r x cs ((wr.alloc (.cells #[.int .i64 0,.int .i64 0] 72)).drew) XH (λW hb=>by
      have hW:=ed.trans (hb.mono ed.size);have:=xO mc 10 mg 0 (rb r.obj) 0 s.mem.length cap' wr.heap.size _ _ sz r s.mem W j hW.size (by have:=hW.size;omega) (ag Bf hW Ba) (DG.below hW (aN _)) eY hx0 hx1 (by omega) (by omega) (ag c1 hW hmgl) hF;simpa using this) XY hrow2 (by omega))
     have Em:=ae (jV.below ed.out);have HVI:=ae jh;have sZ:=ae Ty;have Qm:=ae A8;have gF:=ae Ru;have HKP:=ae J2;clear jV nV oC hc1 A8 jh Ty hrow hrow2 DG U6 Ru bR XY J1;go_wp2_with fail;refine bJ 11 (by kernel_rfl) (by kernel_rfl) ?_;simp only[List.take_succ_cons,List.take_zero,List.drop_succ_cons,List.drop_zero]
     repeat(go_big_quiet_step (fail))
     refine wpQuiet_nil ?_;go_wp2_with fail;refine HRS.mono ?_;rintro e w4 ⟨rfl,hw4,hr4⟩;have VK:=ae hw4;have Zf:=ae hr4;clear hw4 hr4;go_wp2_with fail;go_ret;have hres:bu R ah lo s tp ⟨2,dst,(sz:Int),fn,ks⟩=(true,{s with steps:=s.steps+1,mem:=s.mem.modify r.obj λo=>{o with l:=o.l.set j (if x.obj=0 then⟨0,eC sz x.n⟩else x)}},tp):=by
      rw[cF HY.out sY.out HE.out];have:=M4.out;simp[ik,this]
     rw[hres];have vK:iq w4 (rb r.obj) ((aF s.mem r.obj).l.set j (if x.obj=0 then⟨0,eC sz x.n⟩else x)):=⟨_,Zf.out,HVI.set j (qQ sz x)⟩
     have Lr:=Em.Ni (by have:=HKP.out;omega) Qm.out VK.out vK gF.out;refine⟨rfl,own,λ_ h=>h,λ_ h=>aH h,⟨_,_,_,_,Lr⟩,λ_=>?_,?_⟩
     ·exact(iy.below ed.out).wr VK (λe=>HO.fb.1 (by rw[e];exact sZ.out)) (λe=>HO.tb.1 (by rw[e];exact sZ.out)) (λg hg e=>(HO.lv g hg).1 (by rw[e];exact sZ.out))
     ·exact((((Wr.of_below (aj _ _)).trans dG (λi hi=>aH (aH (hi▸fG.out)))).trans (di HX.out) (λi hi=>hi.elim)).trans (di ed.out) (λi hi=>hi.elim)).trans VK (λi hi=>aH (aH (hi▸sZ.out)))
theorem yu{w:World}{ai:Nat}{e:TypeId}{size:Nat}{v:Value}{n:Nat}{xs:List Value}(h:w.ownsRow ai e size v n xs):∃A c,v= .slice A n c:=by
 rcases h.2 with⟨e,e'⟩|⟨gg,aA,cur,e,_⟩
 ·exact⟨none,0,by rw[e,e']⟩
 ·exact⟨_,_,e⟩
theorem DW(ai mc:Nat)(own:Nat->Prop)(P:Value×Value×Value)(ah:Int)(s:St)(fb tb:Nat)(G:Value×Value×Value×Value)(tp:List V)(lv:Value)(lo:List Nat)(ng:Nat)(R:cC)(op dst size fn:Int)(ks:List T)(A:Option Addr)(n aA:Nat)(w:World)
  (hM:cN w ai mc own P ah s)(cA:s.kind=0)(hs0:0<=s.steps)(hs1:s.steps<=ah)(hf:ah<=1000000000)(hF:bM w fb G tb tp lv lo)(hO:mG ai own fb tb lv)(kM:dW (au s.mem) tp lo ng)(hT:fY tp.length lo.length ng ks)(hk:bC w ai ks A n)(iD:n<=1000)
  (rE:e9 ks)(hy:(aW ah 1 s).1=true)(cu:∃l,aD s.mem tp lo ks=some l)(hop:op=3)(dF:∀(W:World)(AA:Option Addr)(an fX:Nat)(l:List V),Below ai w W->cN W ai mc own P ah {s with steps:=s.steps+1}->aD s.mem tp lo ks=some l->l.length=an->(∀j v,l[j]? =some v->∃b off,AA=some ⟨b,off,none⟩/\b<W.heap.size/\¬own b/\bg W b (off+j*2) v)->Calls prog 30 #[.pointer (some ⟨mc,0,none⟩),.int .i64 fn,.slice AA an fX] W λe w'=>gC ai mc own P ah (R fn l {s with steps:=s.steps+1}) W e w')(hR:∀l,aD s.mem tp lo ks=some l->∃s5,R fn l {s with steps:=s.steps+1}=(none,s5)):
  Calls prog 52 #[.pointer (some ⟨mc,0,none⟩),.pointer (some ⟨fb,0,none⟩),.agg #[.int .i64 op,.int .i64 dst,.int .i64 size,.int .i64 fn,.slice A n aA]] w λe w'=>cX ai mc own P ah fb tb G lv lo (bu R ah lo s tp ⟨op,dst,size,fn,ks⟩) w e w':=by
 subst hop;have jY:=ae dF;have HR:=ae hR;clear dF hR;obtain⟨qE,pU,iY⟩:=cO hy;have hm:own mc:=(by obtain⟨_,_,_,_,h⟩:=hM;exact h.mine)
 have sV:=(by obtain⟨_,_,_,_,h⟩:=hM;exact h.rest.own mc h.mine:ai<=mc/\mc<w.heap.size)
 have oF:e9 ks:=rE;have HST:=ae (λW(hb:Below w.heap.size w W)=>(iY▸hy▸eD ai mc own P ah 1 s W (hM.below hb) hs0 hs1 hf (by omega) (by omega):Calls prog 51 #[.pointer (some ⟨mc,0,none⟩),.int .i64 1] W λe w'=>e= .returned (.bool true)/\cN w' ai mc own P ah {s with steps:=s.steps+1}/\Wr (λb=>b=mc) W w'));have xT:=ae cA;have HF:=ae hF;have HO:=ae hO;have zY:=ae kM;have HT:=ae hT;have HK:=ae hk;have nZ:=ae oF;have hB:ai<=w.heap.size:=by omega
 have MU:=hk.2.1;have qh:=ae cu;clear cu;have sY:=ae iY;have HY:=ae hy;have fG:=ae hm;obtain⟨ve,u9⟩:=sV;clear hM cA hF hO kM hT hk hy qE pU iY hm rE oF hs0 hs1;go_enter func52,ntmps52;go_wp2_with(go_at_call 51;refine(HST _ (aj _ _)).mono ?_;rintro e w1 ⟨rfl,jy,bT⟩;have n9:=ae jy;have dG:=ae bT;have hz1:w.heap.size+1<=w1.heap.size:=(by have:=bT.size;simpa using this);clear jy bT);have iL:=ae (show Row w1 w.heap.size #[.int .i64 3,.int .i64 dst,.int .i64 size,.int .i64 fn,.slice A n aA] 96 from(Row.new w _ _).wr dG (show¬w.heap.size=mc by omega));have bn:=ae (show Below ai w w1 from((aj w _).mono hB).trans (dG.below (by simp;omega) (λk hk=>by omega)))
 have jB:=ae (show bM w1 fb G tb tp lv lo from(HF.below (aj _ _)).wr dG (λe=>HO.fb.1 (by rw[e];exact fG.out)) (λe=>HO.tb.1 (by rw[e];exact fG.out)) (λg hg e=>(HO.lv g hg).1 (by rw[e];exact fG.out)));have iw:=ae (HK.below bn (aN _));go_loopw [7,8] (λv i wr=>∃(k:Nat)(l:List V),k<=n/\i= .int .i64 k/\aD s.mem tp lo (ks.take k)=some l/\wr.ownsRow w1.heap.size 72 2 v k (bV l)/\Below w1.heap.size w1 wr) (λ_ i _=>n-(intOf i).toNat)
 case atStart=>exact⟨0,[],by omega,rfl,by simp[aD],World.ownsRow_nil _ _ _ _,bI _ _⟩
 case round=>
  obtain⟨k,l,hk,rfl,cu,hown,bR⟩:=hrel;have hz2:=bR.size;have hz3:w.heap.size<wr.heap.size:=by omega
  have dw:=iL.below bR (by omega);have c0:wr.cell? ⟨w.heap.size,0,none⟩=some (.int .i64 3):=dw.cell (j:=0) rfl;have c1:wr.cell? ⟨w.heap.size,1,none⟩=some (.int .i64 dst):=dw.cell (j:=1) rfl;have c2:wr.cell? ⟨w.heap.size,2,none⟩=some (.int .i64 size):=dw.cell (j:=2) rfl;have c3:wr.cell? ⟨w.heap.size,3,none⟩=some (.int .i64 fn):=dw.cell (j:=3) rfl;have c4:wr.cell? ⟨w.heap.size,4,none⟩=some (.slice A n aA):=dw.cell (j:=4) rfl;clear dw;have kB:=ae (n9.below bR);have iy:=ae (jB.below bR);have iV:ai<=w1.heap.size:=by omega
  by_cases hlt:k<n
  ·obtain⟨b,off,t,v0,v1,v2,rfl,hb,bA,k0,k1,k2,ht⟩:=(iw.below (bR.mono iV) (aN _)).get hlt;have gF:=(by obtain⟨_,_,_,_,h⟩:=kB.out;exact h.rest.mem.ok:b9 s.mem)
   have HC:=ae (eU t.size t ai mc own P ah {s with steps:=s.steps+1} fb tb G tp lv lo ng wr v0 v1 v2 (aN _) kB.out xT.out iy.out gF zY (HT.get bA) ht);have og:=ae bA;have eY:(k:Int)<(n:Int):=by omega
   have HE:=ae cu;have HW:=ae hown;have HX:=ae bR;have bG:l.length=k:=by
    have:=aK cu;rw[List.length_take,HK.1]at this;omega
   clear bA ht cu hown bR gF;cases hv:bZ s.mem tp lo t with
   |none=>
    exact absurd (cI og.out hv) (by rw[qh.choose_spec];simp)
   |some v=>
    rw[hv]at HC;obtain⟨i0,hi,hz0,jg,lK⟩:=info_parts dK;go_wp2_with fail;refine HC.mono ?_;rintro e w2 ⟨rfl,hb1⟩;simp only[aI];have hz:=hb1.size;have hown1:=(aB HW (di hb1) (λ_ _ h=>h))
    go_wp2_with(at_builtin;refine wpList_append_own _ rfl (.tmp 37) (.tmp 39) 67 rfl w1.heap.size 72 i0 (.agg #[.int .i64 0,.int .i64 0]) 2 16 underlying67 hi hz0 jg lK rfl (by decide) _ _ _ rfl ((hown1.alloc _).alloc _) ⟨w2.heap.size+1,0,none⟩ 1 1 [.int .i64 v.obj,.int .i64 v.n] rfl rfl ?c1 ?c2 ?c3 ?c4 ?c5 ?_)
    case c1=>exact cK _ _ _ _ _ (by simp)
    case c2=>exact dS _ _
    case c3=>have:=iD;unfold maxLen;omega
    case c4=>have:=iD;omega
    case c5=>simp;omega
    ·intro v' w3 hown2 hgrow _;have bL:=ae ((((HX.trans (hb1.mono (show w1.heap.size<=wr.heap.size from by omega))).alloc (by omega) _).alloc (by simp;omega) _).grown hgrow (by simp;omega) (λg hg=>(HW.lt g hg).1));have rq:=ae hown2;clear hown2 hgrow hown1 hb1;go_wp2_with fail;go_roundw
     case rel=>exact⟨k+1,l++[v],by omega,by go_num,cE HE.out og.out hv,by rw[bP];exact rq.out,bL.out⟩
     case measure=>simp[intOf];omega
  ·obtain rfl:k=n:=by omega
   rw[show ks.take k=ks from by rw[<-HK.1,List.take_length]]at cu;have bG:l.length=k:=by rw[aK cu,HK.1]
   have HE:=ae cu;have HW:=ae hown;have HX:=ae bR;clear cu hown bR;obtain⟨AA,fX,Q0⟩:=yu HW.out;subst Q0;have FD:=aj wr (.cells #[.int .i64 0,.int .i64 0] 72);have ed:=ae FD;have MZ:Below ai w (wr.alloc (.cells #[.int .i64 0,.int .i64 0] 72)):=bn.trans ((HX.trans (FD.mono hz2)).mono (by omega));have hown1:∀i,own i->i<w1.heap.size:=λi hi=>by obtain⟨_,_,_,_,h⟩:=n9.out;exact(h.rest.own i hi).2
   have eF:∀(j:Nat)(u:V),l[j]? =some u->∃b off,AA=some ⟨b,off,none⟩/\b<(wr.alloc (.cells #[.int .i64 0,.int .i64 0] 72)).heap.size/\¬own b/\bg (wr.alloc (.cells #[.int .i64 0,.int .i64 0] 72)) b (off+j*2) u:=λj u hj=>by
    have J2:0<k:=by
     rw[<-bG];rcases Nat.eq_zero_or_pos l.length with h|h
     ·rw[List.eq_nil_of_length_eq_zero h]at hj;simp at hj
     ·exact h
    obtain⟨g,gc,hg,hg0,hg1,sJ⟩:=bQ HW.out bG J2;injection hg with hg;refine⟨g,0,hg,by simp;omega,λho=>by have:=hown1 g ho;omega,?_⟩;have:=(sJ j u hj).below FD hg1;simpa using this
   have Kp:=ae (jY (wr.alloc (.cells #[.int .i64 0,.int .i64 0] 72)) AA k fX l MZ (kB.below FD) HE.out bG eF);have BQ:=ae (HR.out l HE.out);clear FD MZ hown1 eF bG;obtain⟨s5,OJ⟩:=BQ.out;rw[OJ]at Kp;have M3:=ae OJ;clear OJ;go_wp2_with fail;refine Kp.mono ?_;rintro e w5 ⟨rfl,pP,Tr,Ey,rV,lC⟩;simp only[aI];have yV:=ae rV;have qM:=ae lC;have Y6:=ae Tr;have Pw:=ae Ey;have QS:=lC.size;simp only[World.size_alloc]at QS;clear rV lC Tr Ey;go_wp2_with fail;go_ret;have hres:bu R ah lo s tp ⟨3,dst,size,fn,ks⟩=(false,s5,tp):=by rw[cF HY.out sY.out HE.out];simp[ik,M3.out]
   rw[hres];refine⟨rfl,pP,Y6.out,λi hi=>?_,yV.below (aj _ _),λh=>(by cases h),?_⟩
   ·rcases Pw.out i hi with h|h
    ·exact aH h
    ·exact aT (by simp only[World.size_alloc]at h;omega)
   ·exact(((((Wr.of_below (aj _ _)).trans dG (λi hi=>aH (aH (hi▸fG.out)))).trans (di HX.out) (λi hi=>hi.elim)).trans (di ed.out) (λi hi=>hi.elim)).trans qM (λi hi=>aH (aH hi))).trans (di (aj w5 _)) (λi hi=>hi.elim)
end Go.Proofs.YtikbdplllopjlaaGreat
