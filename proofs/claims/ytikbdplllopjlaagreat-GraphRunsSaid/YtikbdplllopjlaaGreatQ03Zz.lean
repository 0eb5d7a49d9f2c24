/- The page's machine: what a tree comes to. Conditions: as stated. The page's machine: what a step's walk is asked; a frame's temporaries written. No condition. The page's memory: an object more; what a made row of values holds. No program in sight but its name. No condition. -/
import Derived.Test.YtikbdplllopjlaaGreatTreeBZz
import Derived.Test.YtikbdplllopjlaaGreatTreeCZz
import Derived.Test.YtikbdplllopjlaaGreatTreeDZz
import Derived.Laws.MakeOwn
set_option linter.unusedVariables false
set_option linter.unusedSimpArgs false
set_option maxHeartbeats 8000000
open Go.Proofs.Tryz
namespace Go.Proofs.YtikbdplllopjlaaGreat
open Go.RowKit
theorem eU(m:Nat):r9 m:=by
 induction m with
 |zero=>intro t _ _ _ _ _ _ _ _ _ _ _ _ _ _ _ _ _ hm;have:=t.size_pos;omega
 |succ m ih=>
  intro t ai mc own P ah s fb tb G tp lv lo ng w v0 v1 v2 hm hM cA hF DF kM hT hv;obtain⟨op,x,ks⟩:=t;cases cu:aD s.mem tp lo ks with
  |none=>exact KF m ih _ ai mc own P ah s fb tb G tp lv lo ng w v0 v1 v2 hm hM cA hF DF kM hT hv ⟨op,x,ks,rfl,cu⟩
  |some l=>
   by_cases hop:op<=4
   ·exact KD m ih _ ai mc own P ah s fb tb G tp lv lo ng w v0 v1 v2 hm hM cA hF DF kM hT hv ⟨op,x,ks,l,rfl,cu,hop⟩
   ·cases hap:iJ s.mem op l with
    |some r=>exact KA m ih _ ai mc own P ah s fb tb G tp lv lo ng w v0 v1 v2 hm hM cA hF DF kM hT hv ⟨op,x,ks,l,rfl,cu,by omega,r,hap⟩
    |none=>exact KC m ih _ ai mc own P ah s fb tb G tp lv lo ng w v0 v1 v2 hm hM cA hF DF kM hT hv ⟨op,x,ks,l,rfl,cu,by omega,hap⟩
structure mG (ai:Nat) (own:Nat->Prop) (fb tb:Nat) (lv:Value):Prop where
 fb:¬own fb/\ai<=fb
 tb:¬own tb/\ai<=tb
 lv:∀g,lv.ownBlock=some g->¬own g/\ai<=g
def cX(ai mc:Nat)(own:Nat->Prop)(P:Value×Value×Value)(ah:Int)(fb tb:Nat)(G:Value×Value×Value×Value)(lv:Value)(lo:List Nat)(r:Bool×St×List V)(w:World)(e:Ending)(w':World):Prop:=
 e= .returned (.bool r.1)/\∃own':Nat->Prop,(∀k,own k->own' k)/\(∀k,own' k->own k\/w.heap.size<=k)/\cN w' ai mc own' P ah r.2.1/\(r.1=true->bM w' fb G tb r.2.2 lv lo)/\Wr (λb=>own b\/b=tb) w w'
theorem r8.set{cs:Array Value}{l:List V}(h:r8 cs l)(k:Nat)(v:V):r8 ((cs.setIfInBounds (k*2) (.int .i64 v.obj)).setIfInBounds (k*2+1) (.int .i64 v.n)) (l.set k v):=by
 obtain⟨h0,h1⟩:=h;refine⟨by simp[h0],λj u hj=>?_⟩;by_cases e:k=j
 ·subst e;have hk:k<l.length:=by
   rcases Nat.lt_or_ge k l.length with h|h
   ·exact h
   ·rw[List.getElem?_eq_none (by simpa using h)]at hj;cases hj
  rw[List.getElem?_set_self hk]at hj;injection hj with hj;subst hj;refine⟨?_,?_⟩
  ·rw[Array.getElem?_setIfInBounds_ne (by omega),Array.getElem?_setIfInBounds_self_of_lt (by omega)]
  ·rw[Array.getElem?_setIfInBounds_self_of_lt (by simp;omega)]
 ·rw[List.getElem?_set_ne e]at hj;obtain⟨a,b⟩:=h1 j u hj;refine⟨?_,?_⟩
  ·rw[Array.getElem?_setIfInBounds_ne (by omega),Array.getElem?_setIfInBounds_ne (by omega)];exact a
  ·rw[Array.getElem?_setIfInBounds_ne (by omega),Array.getElem?_setIfInBounds_ne (by omega)];exact b
theorem iq.set{w:World}{b:Nat}{l:List V}(h:iq w b l)(k:Nat)(v:V):iq ((w.setCell ⟨b,k*2,none⟩ (.int .i64 v.obj)).setCell ⟨b,k*2+1,none⟩ (.int .i64 v.n)) b (l.set k v):=by
 obtain⟨cs,hr,hv⟩:=h;exact⟨_,(hr.set _ _).set _ _,hv.set k v⟩
theorem eB(w1:World)(r j k:Nat)(u v:Value):Wr (λb=>b=r) w1 ((w1.setCell ⟨r,j,none⟩ u).setCell ⟨r,k,none⟩ v):=
 (Wr.cell1 w1 r j u).trans (Wr.cell1 _ r k v) (λ_ h=>aH h)
theorem bM.set{w:World}{fb tb:Nat}{G:Value×Value×Value×Value}{tp:List V}{lv:Value}{lo:List Nat}(h:bM w fb G tb tp lv lo)(k:Nat)(v:V):
  bM ((w.setCell ⟨tb,k*2,none⟩ (.int .i64 v.obj)).setCell ⟨tb,k*2+1,none⟩ (.int .i64 v.n)) fb G tb (tp.set k v) lv lo:=by
 obtain⟨h1,h2,h3,h4⟩:=h;have hw:=eB w tb (k*2) (k*2+1) (.int .i64 v.obj) (.int .i64 v.n);obtain⟨cs,hr,hv⟩:=id h2;refine⟨?_,h2.set k v,aB h3 hw (λg hg he=>?_),by simpa using h4⟩
 ·rw[List.length_set];exact h1.wr hw (λe=>h1.ne hr (by decide) e)
 ·obtain⟨_,cs',eu⟩:=aC h3 hg;exact eu.ne hr (by decide) he
theorem cO{ah n:Int}{s:St}(h:(aW ah n s).1=true):s.kind=0/\¬n>ah-s.steps/\(aW ah n s).2={s with steps:=s.steps+n}:=by
 unfold aW at h ⊢;by_cases h0:s.kind=0
 ·rw[if_pos h0]at h ⊢;by_cases h1:n>ah-s.steps
  ·rw[if_pos h1]at h;cases h
  ·rw[if_neg h1];exact⟨h0,h1,rfl⟩
 ·rw[if_neg h0]at h;cases h
theorem sF(ah n:Int)(s:St):(aW ah n s).2.mem=s.mem:=by
 unfold aW
 (repeat' split)<;>rfl
theorem bQ{w:World}{ai:Nat}{v:Value}{l:List V}{k:Nat}(h:w.ownsRow ai 72 2 v k (bV l))(hk:l.length=k)(hp:0<k):∃g aA,v= .slice (some ⟨g,0,none⟩) k aA/\ai<=g/\g<w.heap.size/\∀j x,l[j]? =some x->bg w g (j*2) x:=by
 subst hk;obtain⟨g,aA,h0,h1,h2,h3⟩:=qT h hp;exact⟨g,aA,h0,h1,h2,λj x hj=>by simpa using h3 j x hj⟩
theorem nH{α:Type}{l:List α}(h:l.length=1):∃a,l=[a]:=by
 match l,h with
 |[a],_=>exact⟨a,rfl⟩
theorem Dl{α:Type}{l:List α}(h:l.length=2):∃a b,l=[a,b]:=by
 match l,h with
 |[a,b],_=>exact⟨a,b,rfl⟩
theorem cF{R:cC}{ah:Int}{lo:List Nat}{s s':St}{tp:List V}{x:cM}{l:List V}(h:(aW ah 1 s).1=true)(h2:(aW ah 1 s).2=s')(he:aD s.mem tp lo x.args=some l):bu R ah lo s tp x=ik R s' tp x l:=by
 have hm:=sF ah 1 s;unfold bu;rw[if_neg (by rw[h];simp),hm,he,h2]
theorem cG.Th{w:World}{ai mc:Nat}{own:Nat->Prop}{P:Value×Value×Value}{ah:Int}{s:St}{inv outv aU:Value}{rb:Nat->Nat}(h:cG w ai mc own P ah s inv outv aU rb)(v:Value)(l:List Int)
  (hl:vE w ai v l):cG (w.setCell ⟨mc,3,none⟩ v) ai mc own P ah {s with inp:=l} v outv aU rb:=by
 obtain⟨hr,hm,hs⟩:=h;have hb:=(hs.own mc hm)
 have hw:Wr (λk=>k=mc) w (w.setCell ⟨mc,3,none⟩ v):=Wr.setCell w ⟨mc,3,none⟩ v rfl;have h':=hs.wr hw (λk hk=>by subst hk;exact⟨hb.1,λ_=>⟨_,hr⟩⟩) (by omega);exact⟨hr.set 3 v,hm,⟨hl.below (λb o hb'=>World.cell?_of_block (a:=⟨b,o,none⟩) (hw.block b (by omega) (λhf=>by omega))),h'.out,h'.rH,h'.mem,h'.memo,h'.own⟩⟩
theorem cG.below{w w':World}{ai mc:Nat}{own:Nat->Prop}{P:Value×Value×Value}{ah:Int}{s:St}{inv outv aU:Value}{rb:Nat->Nat}(h:cG w ai mc own P ah s inv outv aU rb)(hw:Below w.heap.size w w'):cG w' ai mc own P ah s inv outv aU rb:=by
 obtain⟨hr,hm,hs⟩:=h;have hb:=(hs.own mc hm)
 exact⟨hr.below hw hr.lt,hm,hs.wr (F:=λ_=>False) (Wr.of_below hw) (λk hk=>hk.elim) (by omega)⟩
theorem vE.tail{w:World}{ai:Nat}{b off aA q:Nat}{x:Int}{l:List Int}(h:∀j y,(x::l)[j]? =some y->w.cell? ⟨b,off+j,none⟩=some (.int .i64 y)/\bz y)(hb:b<ai)(hq:q=l.length)(h1:q+1<=aA)(h2:aA<=9223372036854775807):
  vE w ai (.slice (some ⟨b,off+1,none⟩) q (aA-1)) l:=by
 subst hq;exact⟨_,_,rfl,by omega,by omega,λ_=>⟨b,off+1,rfl,hb,λj y hj=>by have:=h (j+1) y (by simpa using hj);rw[show off+1+j=off+(j+1) by omega];exact this⟩⟩
theorem vE.empty{w:World}{ai:Nat}{A:Option Addr}:vE w ai (.slice A 0 0) []:=⟨A,0,rfl,by simp,by omega,λh=>by simp at h⟩
theorem E9(c i:Nat)(h:i<c*2):(madeCells (Value.agg #[.int .i64 0,.int .i64 0]).cells (c*2))[i]? =some (.int .i64 0):=by
 have e:(Value.agg #[Value.int .i64 0,Value.int .i64 0]).cells=#[.int .i64 0,.int .i64 0]:=by kernel_rfl
 rw[e];unfold madeCells;rw[Array.getElem?_map,Array.getElem?_range,if_pos h];rcases Nat.mod_two_eq_zero_or_one i with h|h<;>simp[h]
theorem K6(c:Nat):r8 (madeCells (Value.agg #[.int .i64 0,.int .i64 0]).cells (c*2)) (List.replicate c ⟨0,0⟩):=by
 refine⟨by rw[size_madeCells];simp,λj v hj=>?_⟩;have hlt:j<c:=by
  rcases Nat.lt_or_ge j c with h|h
  ·exact h
  ·rw[List.getElem?_eq_none (by simpa using h)]at hj;cases hj
 rw[List.getElem?_replicate,if_pos hlt]at hj;injection hj with hj;subst hj;exact⟨E9 c _ (by omega),E9 c _ (by omega)⟩
theorem nA(ct:Nat)(h:ct<=1000000):∃Z:Array Value,r8 Z (List.replicate ct ⟨0,0⟩)/\∀W:World,(Instr.makeSlice 67 (.int .i64 ct) (.int .i64 ct)).run prog W= .ok (.slice (some ⟨W.heap.size,0,none⟩) ct ct) (W.alloc (.cells Z 72)):=by
 obtain⟨i0,hi,hz0,hz1,hz2⟩:=info_parts dK;refine⟨_,K6 ct,λW=>?_⟩;have:=run_make (P:=prog) W 67 72 i0 _ underlying67 hi hz0 .i64 .i64 ct ct (by omega) (by omega) (by rw[hz2];omega) (by omega);rw[hz1]at this;simpa using this
def jk(o:jR)(k:Nat):List V:=(List.range o.count.toNat).map λi=>⟨0,if i<k then eC o.size.toNat (o.init.getD i 0)else 0⟩
theorem nN(o:jR):jk o 0=List.replicate o.count.toNat ⟨0,0⟩:=by
 apply List.ext_getElem?;intro i;unfold jk;by_cases h:i<o.count.toNat
 ·simp[h]
 ·simp[h]
theorem yL(o:jR):jk o o.init.length=kF o:=by
 unfold jk kF;apply List.map_congr_left;intro i _;by_cases h:i<o.init.length
 ·rw[if_pos h,List.getD_eq_getElem?_getD,List.getElem?_eq_getElem h];rfl
 ·rw[if_neg h,List.getElem?_eq_none (by omega)]
theorem vA(o:jR)(k:Nat)(hk:k<o.count.toNat):(jk o k).set k ⟨0,eC o.size.toNat (o.init.getD k 0)⟩=jk o (k+1):=by
 apply List.ext_getElem?;intro i;unfold jk;by_cases e:k=i
 ·subst e;rw[List.getElem?_set_self (by simpa using hk)];simp[hk]
 ·rw[List.getElem?_set_ne e];by_cases h:i<o.count.toNat
  ·simp[h];have:(i<k)↔(i<k+1):=by omega
   simp[this]
  ·simp[h]
theorem xI(o:jR)(k:Nat):(jk o k).length=o.count.toNat:=by simp[jk]
theorem yK(o:jR)(k:Nat)(hk:k<o.count.toNat):(jk o k)[k]? =some ⟨0,0⟩:=by simp[jk,hk]
theorem iq.Uh{w:World}{b:Nat}{l:List V}(h:iq w b l)(k:Nat)(v:V)(n:Int)(hv:l[k]? =some v):iq (w.setCell ⟨b,k*2+1,none⟩ (.int .i64 n)) b (l.set k ⟨v.obj,n⟩):=by
 obtain⟨cs,hr,h0,h1⟩:=h;refine⟨_,hr.set _ _,by simp[h0],λj u hj=>?_⟩;have hk:k<l.length:=by
  rcases Nat.lt_or_ge k l.length with h|h
  ·exact h
  ·rw[List.getElem?_eq_none h]at hv;cases hv
 by_cases e:k=j
 ·subst e;rw[List.getElem?_set_self hk]at hj;injection hj with hj;subst hj;exact⟨by rw[Array.getElem?_setIfInBounds_ne (by omega)];exact(h1 k v hv).1,by rw[Array.getElem?_setIfInBounds_self_of_lt (by omega)]⟩
 ·rw[List.getElem?_set_ne e]at hj;obtain⟨a,b⟩:=h1 j u hj;exact⟨by rw[Array.getElem?_setIfInBounds_ne (by omega)];exact a,by rw[Array.getElem?_setIfInBounds_ne (by omega)];exact b⟩
theorem nY.wr{w w':World}{ai:Nat}{own F:Nat->Prop}{aU:Value}{rb:Nat->Nat}{M:List MO}(h:nY w ai own aU rb M)(ho:∀g,aU.ownBlock=some g->own g)(hw:Wr F w w')(hF:∀k,F k->¬own k):nY w' ai own aU rb M:=by
 obtain⟨⟨xs,hx,oC⟩,hm,hi,hk⟩:=h;refine⟨⟨xs,aB hx hw (λg hg hf=>hF g hf (ho g hg)),oC⟩,λk o h1 rL=>?_,hi,hk⟩;obtain⟨h2,cs,hr,hv⟩:=hm k o h1 rL;exact⟨h2,cs,hr.wr hw (λhf=>hF _ hf h2),hv⟩
theorem lY.mono{n m:Nat}{v:V}(h:lY n v)(hm:n<=m):lY m v:=⟨by have:=h.1;omega,h.2⟩
theorem LR(o:jR)(hi:∀x,x∈o.init->bz x)(v:V)(hv:v∈kF o):v.obj=0/\bz v.n:=by
 unfold kF at hv;simp only[List.mem_map,List.mem_range]at hv;obtain⟨i,_,rfl⟩:=hv;refine⟨rfl,?_⟩;simp only;split
 ·rename_i n hn;exact rM (hi n (List.mem_of_getElem? hn))
 ·unfold bz;omega
theorem wX{M:List MO}(h:b9 M)(o:jR)(hs:o.size=1\/o.size=2\/o.size=4\/o.size=8)(hc:o.count.toNat<=64)(hi:∀x,x∈o.init->bz x)(hm:(au M).length+1<=4294967296):b9 (gG M o):=by
 rw[jf];have hb:=lJ h;have hp:=dY M;refine⟨by simpa using hm,λx hx=>?_,λk x hk hx=>?_,λx hx v hv=>?_⟩
 ·rw[List.getElem?_append_left hp]at hx;exact hb.zero x hx
 ·rcases Nat.lt_or_ge k (au M).length with h|h
  ·rw[List.getElem?_append_left h]at hx;exact hb.size k x hk hx
  ·rw[List.getElem?_append_right h]at hx;rcases Nat.lt_or_ge (k-(au M).length) 1 with h'|h'
   ·rw[show k-(au M).length=0 by omega]at hx;simp at hx;subst hx;exact⟨hs,by simp[kF];omega⟩
   ·rw[List.getElem?_eq_none (by simpa using h')]at hx;cases hx
 ·rw[List.length_append];simp only[List.mem_append,List.mem_singleton]at hx;rcases hx with hx|rfl
  ·exact(hb.vals x hx v hv).mono (by omega)
  ·obtain⟨h0,h1⟩:=LR o hi v hv;exact⟨by omega,λh=>absurd h0 h,h1⟩
theorem nY.push{w w':World}{ai:Nat}{own own':Nat->Prop}{aU je:Value}{rb:Nat->Nat}{M:List MO}{o:MO}{ob:Nat}{xs:List Value}(h:nY w ai own aU rb M)(gP:0<M.length)
  (nV:∀k x,M[k]? =some x->uL xs rb k x)(hlen:xs.length=M.length*3)
  (hown:w'.ownsRow ai 116 3 je (M.length+1) (xs++[.int .i64 o.size,.slice (some ⟨ob,0,none⟩) o.l.length o.l.length,.bool o.live]))
  (Oq:∀k x,1<=k->M[k]? =some x->iq w' (rb k) x.l)(oD:iq w' ob o.l)(N9:¬own ob)(h1:∀k,own k->own' k)(h2:own' ob)(gu:b9 (M++[o])):
  nY w' ai own' je (λk=>if k=M.length then ob else rb k) (M++[o]):=by
 have mO:∀k x,(M++[o])[k]? =some x->(k<M.length/\M[k]? =some x)\/(k=M.length/\x=o):=by
  intro k x hx;rcases Nat.lt_or_ge k M.length with h|h
  ·rw[List.getElem?_append_left h]at hx;exact aH ⟨h,hx⟩
  ·rw[List.getElem?_append_right h]at hx;rcases Nat.lt_or_ge (k-M.length) 1 with h'|h'
   ·rw[show k-M.length=0 by omega]at hx;simp at hx;exact aT ⟨by omega,hx.symm⟩
   ·rw[List.getElem?_eq_none (by simpa using h')]at hx;cases hx
 refine⟨⟨_,by rw[List.length_append];exact hown,λk x hx=>?_⟩,λk x hk hx=>?_,λi j Ye hi2 DB xk he=>?_,gu⟩
 ·rcases mO k x hx with⟨hlt,hx⟩|⟨rfl,rfl⟩
  ·obtain⟨a,b,c⟩:=nV k x hx;unfold uL;rw[List.getElem?_append_left (by omega),List.getElem?_append_left (by omega),List.getElem?_append_left (by omega)];simp only[if_neg (show¬k=M.length by omega)];exact⟨a,b,c⟩
  ·unfold uL;rw[List.getElem?_append_right (by omega),List.getElem?_append_right (by omega),List.getElem?_append_right (by omega),hlen];simp only[if_neg (show¬M.length=0 by omega),if_true];rw[show M.length*3-M.length*3=0 by omega,show M.length*3+1-M.length*3=1 by omega,show M.length*3+2-M.length*3=2 by omega];exact⟨rfl,rfl,rfl⟩
 ·rcases mO k x hx with⟨hlt,hx⟩|⟨rfl,rfl⟩
  ·rw[if_neg (by omega:¬k=M.length)];exact⟨h1 _ (h.mine k x hk hx).1,Oq k x hk hx⟩
  ·rw[if_pos rfl];exact⟨h2,oD⟩
 ·simp only[List.length_append,List.length_singleton]at hi2 xk;have rD:∀k,1<=k->k<M.length->own (rb k):=λk h1 h2=>(h.mine k _ h1 (List.getElem?_eq_getElem h2)).1;by_cases ei:i=M.length<;>by_cases ej:j=M.length
  ·omega
  ·rw[if_pos ei,if_neg ej]at he;exact absurd (he▸rD j DB (by omega)) N9
  ·rw[if_neg ei,if_pos ej]at he;exact absurd (he▸rD i Ye (by omega)) N9
  ·rw[if_neg ei,if_neg ej]at he;exact h.inj i j Ye (by omega) DB (by omega) he
theorem nY.first{w w':World}{ai:Nat}{own own':Nat->Prop}{aU je:Value}{rb:Nat->Nat}(h:nY w ai own aU rb [])
  (hown:w'.ownsRow ai 116 3 je 1 [.int .i64 0,.slice none 0 0,.bool false]):nY w' ai own' je rb (au []):=by
 unfold au;rw[if_pos rfl];refine⟨⟨_,hown,λk x hx=>?_⟩,λk x hk hx=>?_,λi j Ye hi2 DB xk he=>?_,?_⟩
 ·cases k with
  |zero=>simp at hx;subst hx;exact⟨rfl,rfl,rfl⟩
  |succ k=>rw[List.getElem?_eq_none (by simp)]at hx;cases hx
 ·rw[List.getElem?_eq_none (by simp;omega)]at hx;cases hx
 ·simp at hi2 xk;omega
 ·have:=lJ h.ok;unfold au at this;rw[if_pos rfl]at this;exact this
end Go.Proofs.YtikbdplllopjlaaGreat
