/- The graph's heap: an object is made. Conditions: as stated. -/
import Derived.Test.YtinmgbodgecoeaaGreatQ06Zz
set_option linter.unusedSimpArgs false
set_option linter.unusedVariables false
set_option maxHeartbeats 8000000
set_option maxRecDepth 100000
open Go.Proofs.Tryz
namespace Go.Proofs.YtinmgbodgecoeaaGreat
open Go.RowKit
attribute [local go_sem ↓] Go.wp_at_zero Go.wp_at_succ
theorem M6:(prog.info? 128).map (λi=>(i.zero,i.size,i.bytes))=some (some (.agg #[.int .i64 0,.slice none 0 0,.bool false]),3,40):=by kernel_rfl
theorem jq.push{w w':World}{ai:Nat}{own own':Nat->Prop}{aU iL:Value}{rb:Nat->Nat}{M:List MO}{o:MO}{ob:Nat}{xs:List Value}(h:jq w ai own aU rb M)(hpos:0<M.length)(ho:o.live=true)
  (hxs:∀k x,M.tail[k]? =some x->vk xs rb k x)(hlen:xs.length=M.tail.length*3)
  (hown:w'.ownsRow ai 128 3 iL (M.tail.length+1) (xs++[.int .i64 o.size,.slice (some ⟨ob,0,none⟩) o.l.length o.l.length,.bool false]))
  (DG:∀k x,M.tail[k]? =some x->iG w' (rb k) x.l)(ja:iG w' ob o.l)(hnew:∀k,k<M.tail.length->rb k≠ob)(h1:∀k,k<M.tail.length->own' (rb k))(h2:own' ob)(hok:cQ (M++[o]))(zk:eI (M++[o])):
  jq w' ai own' iL (λk=>if k=M.tail.length then ob else rb k) (M++[o]):=by
 have oM:(M++[o]).tail=M.tail++[o]:=by cases M with|nil=>simp at hpos|cons a l=>rfl
 have hget:∀k x,(M.tail++[o])[k]? =some x->(k<M.tail.length/\M.tail[k]? =some x)\/(k=M.tail.length/\x=o):=by
  intro k x hx;rcases Nat.lt_or_ge k M.tail.length with h|h
  ·rw[List.getElem?_append_left h]at hx;exact aK ⟨h,hx⟩
  ·rw[List.getElem?_append_right h]at hx;rcases Nat.lt_or_ge (k-M.tail.length) 1 with h'|h'
   ·rw[show k-M.tail.length=0 by omega]at hx;simp at hx;exact bu ⟨by omega,hx.symm⟩
   ·rw[List.getElem?_eq_none (by simpa using h')]at hx;cases hx
 refine⟨⟨_,by rw[oM,List.length_append];exact hown,λk x hx=>?_⟩,λk x hx=>?_,λi j hi hj he=>?_,hok,zk⟩
 ·rw[oM]at hx;rcases hget k x hx with⟨hlt,hx⟩|⟨rfl,rfl⟩
  ·obtain⟨a,b,c⟩:=hxs k x hx;unfold vk;rw[List.getElem?_append_left (by omega),List.getElem?_append_left (by omega),List.getElem?_append_left (by omega)];simp only[if_neg (show¬k=M.tail.length by omega)];exact⟨a,b,c⟩
  ·unfold vk;rw[List.getElem?_append_right (by omega),List.getElem?_append_right (by omega),List.getElem?_append_right (by omega),hlen];simp only[if_true,ho];rw[show M.tail.length*3-M.tail.length*3=0 by omega,show M.tail.length*3+1-M.tail.length*3=1 by omega,show M.tail.length*3+2-M.tail.length*3=2 by omega];exact⟨rfl,rfl,rfl⟩
 ·rw[oM]at hx;rcases hget k x hx with⟨hlt,hx⟩|⟨rfl,rfl⟩
  ·rw[if_neg (by omega:¬k=M.tail.length)];exact⟨h1 _ hlt,DG k x hx⟩
  ·rw[if_pos rfl];exact⟨h2,ja⟩
 ·rw[oM,List.length_append,List.length_singleton]at hi hj;by_cases ei:i=M.tail.length<;>by_cases ej:j=M.tail.length
  ·omega
  ·rw[if_pos ei,if_neg ej]at he;exact absurd he.symm (hnew j (by omega))
  ·rw[if_neg ei,if_pos ej]at he;exact absurd he (hnew i (by omega))
  ·rw[if_neg ei,if_neg ej]at he;exact h.inj i j (by omega) (by omega) he
def D7(ai:Nat)(own:Nat->Prop)(hb:Nat)(M:List MO)(o:kH)(w:World)(e:Ending)(w':World):Prop:=
 e= .returned (.agg #[.int .i64 (M.length:Nat),.int .i64 0])/\∃(own':Nat->Prop)(iL:Value)(NV:Nat->Nat),(∀k,own k->own' k)/\(∀k,own' k->own k\/w.heap.size<=k)/\(∀k,own' k->k<w'.heap.size)/\
  E0 w' ai own' hb iL NV (gP M o)/\Wr (λk=>(own k/\∃cs,Row w k cs 128)\/k=hb) w w'
theorem M7{w wr w2:World}{ai hb ob ct sz gg cap2 fJ q:Nat}{own:Nat->Prop}{M:List MO}{o:kH}{rb:Nat->Nat}{A2:Option Addr}{xs:List Value}{X:Obj}{v0 v1:Value}
  (hq0:q=M.tail.length)(hsz:o.size=1\/o.size=2\/o.size=4\/o.size=8)(hin:∀x,x∈o.init->In64 x)(hc:o.count.toNat<=64)(hpos:0<M.length)(jk:M.length+1<=1000000000)(hsz':o.size=sz)(hct:o.count=ct)
  (hM:jq w ai own (.slice A2 q cap2) rb M)(hmo:∀g,(Value.slice A2 q cap2).ownBlock=some g->own g)(hR:Row w hb #[.slice A2 q cap2] 66)
  (ja:w.heap.size+1<ob)(hwr:Wr (λ_=>False) w wr)(hV:iG wr ob (mN o))
  (hx:wr.ownsRow ai 128 3 (.slice A2 q cap2) q xs)(qO:∀k x,M.tail[k]? =some x->vk xs rb k x)
  (hg:(wr.alloc X).drew.grownBy w2 (Value.slice A2 q cap2).ownBlock)(hown2:w2.ownsRow ai 128 3 (.slice (some ⟨gg,0,none⟩) (q+1) fJ) (q+1) (xs++[.int .i64 sz,.slice (some ⟨ob,0,none⟩) ct ct,.bool false]))
  (hat:(Value.slice A2 q cap2).ownBlock=some gg\/gg=wr.heap.size+1)(hlt2:gg<w2.heap.size)(hq:Row w2 hb #[.slice A2 q cap2] 66)(hbs:ai<=w.heap.size)(hown:∀k,own k->ai<=k/\k<w.heap.size):
  D7 ai own hb M o w (.returned (.agg #[.int .i64 (M.length:Nat),.int .i64 0])) (((w2.setCell ⟨hb,0,none⟩ (.slice (some ⟨gg,0,none⟩) (q+1) fJ)).setCell ⟨w.heap.size+1,0,none⟩ v0).setCell ⟨w.heap.size+1,1,none⟩ v1):=by
 subst hq0;have hbl:=hR.lt;obtain⟨cv,hVr,hVi⟩:=id hV;have hol:=hVr.lt;have hz2:=hg.size;have hz1:=hwr.size;simp only[World.size_drew,World.size_alloc]at hz2;have W1:Wr (λ_=>False) w (wr.alloc X).drew:=hwr.trans (eW (ax wr X).drew) (λ_ h=>h.elim);have W1b:Wr (λ_=>False) wr (wr.alloc X).drew:=eW (ax wr X).drew;have W2:Wr (λk=>(Value.slice A2 M.tail.length cap2).ownBlock=some k) (wr.alloc X).drew w2:=Wr.grown hg (λk hk=>hk);have W3:=Wr.cell1 w2 hb 0 (.slice (some ⟨gg,0,none⟩) (M.tail.length+1) fJ);have W4:=gI (w2.setCell ⟨hb,0,none⟩ (.slice (some ⟨gg,0,none⟩) (M.tail.length+1) fJ)) (w.heap.size+1) 0 1 v0 v1
 have all:∀a:World,Wr (λ_=>False) a (wr.alloc X).drew->Wr (λk=>(Value.slice A2 M.tail.length cap2).ownBlock=some k\/k=hb\/k=w.heap.size+1) a (((w2.setCell ⟨hb,0,none⟩ (.slice (some ⟨gg,0,none⟩) (M.tail.length+1) fJ)).setCell ⟨w.heap.size+1,0,none⟩ v0).setCell ⟨w.heap.size+1,1,none⟩ v1):=λa h=>
  (((h.mono (λ_ h=>h.elim)).trans W2 (λi h=>aK (aK h))).trans W3 (λi h=>aK (bu (aK h)))).trans W4 (λi h=>aK (bu (bu h)))
 have Wa:=all w W1;have Wb:=all wr W1b;obtain⟨⟨xs0,hx0,_⟩,su,_,hok,zk⟩:=id hM;have hrow:∀g,(Value.slice A2 M.tail.length cap2).ownBlock=some g->∃cs',Row w g cs' 128:=λg h=>(aC hx0 h).2;have hrow':∀g,(Value.slice A2 M.tail.length cap2).ownBlock=some g->∃cs',Row wr g cs' 128:=λg h=>(aC hx h).2;have Vg:au M=M:=nO hpos;have hmk:gP M o=M++[⟨o.size,mN o,true⟩]:=by rw[j4,Vg]
 have hMok:cQ (M++[⟨o.size,mN o,true⟩]):=hmk▸vO hok o hsz hc hin (by rw[Vg];omega);have ZW:eI (M++[⟨o.size,mN o,true⟩]):=hmk▸zk.make o;have hfl:(mN o).length=ct:=by simp[mN,hct]
 have hgg:gg<w.heap.size\/w.heap.size+1<gg:=by
  rcases hat with h|h
  ·obtain⟨cs',hr⟩:=hrow gg h;exact aK hr.lt
  ·exact bu (by omega)
 have hggh:gg≠hb:=λe=>by
  obtain⟨_,cs',hr⟩:=aC hown2 (g:=gg) rfl;exact hr.ne hq (by decide) e
 refine⟨rfl,λk=>own k\/k=ob\/k=gg,.slice (some ⟨gg,0,none⟩) (M.tail.length+1) fJ,λk=>if k=M.tail.length then ob else rb k,λk hk=>aK hk,λk hk=>?_,λk hk=>?_,⟨?_,?_,λg h=>?_⟩,?_⟩
 ·rcases hk with hk|rfl|rfl
  ·exact aK hk
  ·exact bu (by omega)
  ·rcases hat with h|h
   ·exact aK (hmo _ h)
   ·exact bu (by omega)
 ·simp only[World.size_setCell];rcases hk with hk|rfl|rfl
  ·have:=(hown k hk).2;omega
  ·omega
  ·exact hlt2
 ·have h1:=hq.set 0 (.slice (some ⟨gg,0,none⟩) (M.tail.length+1) fJ);exact h1.wr W4 (by omega)
 ·rw[hmk];refine jq.push (o:=⟨o.size,mN o,true⟩) hM hpos rfl qO hx.1 ?_ (λk x hx'=>?_) ?_ (λk hk=>?_) (λk hk=>aK (hM.get hk).1) (bu (aK rfl)) hMok ZW
  ·simp only[hfl,hsz'];refine aF (aF hown2 W3 (λg h=>?_)) W4 (λg h=>?_)
   ·simp only[Value.ownBlock,Option.some.injEq]at h;subst h;exact hggh
   ·simp only[Value.ownBlock,Option.some.injEq]at h;subst h;omega
  ·obtain⟨_,cs',hr,hv⟩:=su k x hx';refine⟨cs',hr.wr Wa (λh=>?_),hv⟩;rcases h with h|h|h
   ·obtain⟨cs2,hr2⟩:=hrow _ h;exact hr.ne hr2 (by decide) rfl
   ·exact hr.ne hR (by decide) h
   ·have:=hr.lt;omega
  ·refine⟨cv,hVr.wr Wb (λh=>?_),hVi⟩;rcases h with h|h|h
   ·obtain⟨cs2,hr2⟩:=hrow' _ h;exact hVr.ne hr2 (by decide) rfl
   ·omega
   ·omega
  ·obtain⟨_,cs',hr⟩:=hM.get hk;have:=hr.lt;omega
 ·simp only[Value.ownBlock,Option.some.injEq]at h;exact bu (bu h.symm)
 ·refine Wa.mono (λi hi=>?_);rcases hi with hi|hi|hi
  ·exact aK (aK ⟨hmo i hi,hrow i hi⟩)
  ·exact aK (bu hi)
  ·exact bu (by omega)
theorem M8(hb ai:Nat)(own:Nat->Prop)(aU:Value)(rb:Nat->Nat)(M:List MO)(o:kH)(v:Value)(w:World)
  (hH:E0 w ai own hb aU rb M)(hown:∀k,own k->ai<=k/\k<w.heap.size)(hbs:ai<=w.heap.size)(hpos:0<M.length)(ho:rY o)(hl:aD w ai o.init v)(jk:M.length+1<=1000000000):
  Calls prog 44 #[.pointer (some ⟨hb,0,none⟩),.agg #[.int .i64 o.size,.int .i64 o.count,v]] w λe w'=>D7 ai own hb M o w e w':=by
 obtain⟨hR,hM,hmo⟩:=hH;obtain⟨hsz,hc1,hc2,hc3⟩:=ho;obtain⟨ct,hct⟩:=Int.eq_ofNat_of_zero_le (show 0<=o.count by omega);have hin:=hl.Pd;obtain⟨A,aA,rfl,_,_⟩:=id hl;have yF:=hl.len;obtain⟨sz,hsz',hsz0⟩:∃sz:Nat,o.size=sz/\(sz=1\/sz=2\/sz=4\/sz=8):=(by rcases hsz with h|h|h|h;exact⟨1,h,by omega⟩;exact⟨2,h,by omega⟩;exact⟨4,h,by omega⟩;exact⟨8,h,by omega⟩)
 rw[hct,hsz'];obtain⟨n,hn⟩:∃n,n=o.init.length:=⟨_,rfl⟩
 rw[<-hn]at hl ⊢ yF;have Km:1<=ct:=by omega
 have C3:ct<=64:=by omega
 have hnct:n<=ct:=by omega
 have hpl:=hR.lt;obtain⟨xs,hx,qO⟩:=hM.row;obtain⟨q,hq0⟩:∃q,q=M.tail.length:=⟨_,rfl⟩
 rw[<-hq0]at hx;have WV:=ae hq0;obtain⟨A1,fK,hmv⟩:∃A1 fK,aU= .slice A1 q fK:=(by obtain⟨_,h|⟨g,c,cur,h,_⟩⟩:=id hx;exact⟨none,0,by rw[h.1,h.2]⟩;exact⟨_,_,h⟩)
 subst hmv;have yE:∀g,(Value.slice A1 q fK).ownBlock=some g->∃cs',Row w g cs' 128:=λg h=>(aC hx h).2;have HR:=ae hR;have HO:=ae hown;have TP:=ae hmo;have HL:=ae hl;have x9:=ae hn;have Fl:=ae hsz;have vC:=ae hin;have HM:=ae hM;have Dl:=ae hct;have IB:=ae hsz';have QK:=ae hx;have HOX:=ae qO;have dI:=ae yE;have IL:=ae jk;have hmn:q<=1000000000:=by rw[hq0,List.length_tail];omega
 have uQ:M.length=q+1:=by rw[hq0,List.length_tail];omega
 have HML:=ae uQ;have NK:=ae hpos;obtain⟨Z,hZ,hmk⟩:=o8 ct (by omega);have HZ:=ae hZ;clear hq0 hR hM hmo hown hx qO hct hl yF hsz hin hsz' yE hn hc1 hc2 hc3 hZ hpos uQ jk;go_enter func44,ntmps44;go_wp2_with fail;go_loopw [14] (λi wr=>∃k:Nat,k<=n/\i= .int .i64 k/\iG wr (w.heap.size+1+1) (ku o k)/\Row wr w.heap.size #[.int .i64 sz,.int .i64 ct,.slice A n aA] 90/\Row wr (w.heap.size+1) #[.int .i64 0,.int .i64 0] 75/\Wr (λ_=>False) w wr) (λi _=>n-(intOf i).toNat)
 case atStart=>
  exact⟨0,by omega,rfl,⟨Z,Row.new' _ _ (by simp),by rw[pL,Dl.out,Int.toNat_natCast];exact HZ.out⟩,((Row.new _ _ _).alloc _).alloc _,(Row.new' _ _ (by simp)).alloc _,Wr.of_below (aN _ _ _ _)⟩
 case round=>
  obtain⟨k,hk,rfl,Fk,kJ,hrx,hwr⟩:=hrel;have hB':Below ai w wr:=hwr.below hbs (λk hk=>hk.elim);have c0:wr.cell? ⟨w.heap.size,0,none⟩=some (.int .i64 sz):=kJ.cell (j:=0) rfl;have pS:=hwr.size;have tN:=ae hwr;have cS:=ae kJ;have XT:=ae hrx;have hlb:=kJ.lt;have hlr:=hrx.lt;by_cases hlt:k<n
  ·obtain⟨b,off,y,rfl,hb,hy,hy0,hyi⟩:=(HL.below hB' (aY _)).get hlt;simp only[Nat.mul_one,Nat.add_zero]at hy0;have hg:=xU o k (by rw[Dl.out];simp;omega);obtain⟨cv,yD,gT⟩:=Fk;have e1:=yD.cell (gT.2 k _ hg).2;have e2:=yD.free (k*2+1);have KY:=ae (show iG wr (w.heap.size+1+1) (ku o k)from⟨cv,yD,gT⟩);have HY:=ae hy;have HG:=ae hg;have hk0:(0:Int)<=(k:Int):=by omega
   have hk1:(k:Int)<(n:Int):=by omega
   have hk2:(k:Int)<(ct:Int):=by omega
   have hbl:b<wr.heap.size:=by have:=hB'.size;omega
   have HU:=ae (λW=>Ha sz y W hsz0 hyi);clear yD gT hy hg hwr kJ hrx hB' hyi;go_wp2_with fail;refine(HU _).mono ?_;rintro e w3 ⟨rfl,rfl⟩;go_wp2_with fail;go_roundw
   case rel=>
    refine⟨k+1,by omega,by go_num,?_,?_,?_,?_⟩
    ·have h1:=KY.Uy k ⟨0,0⟩ (eA sz y) HG.out;have h2:=uT o k (by rw[Dl.out];simp;omega);rw[IB.out,Int.toNat_natCast,List.getD_eq_getElem?_getD,HY.out]at h2;rw[<-h2];exact h1
    ·exact cS.other (by omega) _ _
    ·exact XT.other (by omega) _ _
    ·exact tN.cJ _ _ _ (bu (by omega))
   case measure=>simp[intOf];omega
  ·obtain rfl:k=n:=by omega
   obtain⟨i0,hi,hz0,hz1,hz2⟩:=info_parts M6;have hMr:=(HM.wr hwr (λ_ _ h=>h) (λ_ _ h=>h))
   have HX:=ae (aF QK.out hwr (λ_ _ h=>h));have rI:=ae (HR.wr hwr (λh=>h));have p0:wr.cell? ⟨hb,0,none⟩=some (.slice A1 q fK):=rI.cell rfl;have p1:=rI.free 0;have Si:=rI.lt;have KY:=ae Fk;have hrx0:=hrx.cell (j:=0) rfl;have hrx1:=hrx.cell (j:=1) rfl;have hrf0:=hrx.free 0;have hrf1:=hrx.free 1;have hlv:=(by obtain⟨_,h,_⟩:=Fk;exact h.lt:w.heap.size+1+1<wr.heap.size)
   have HNE:=ae (show¬(Value.slice A1 q fK).ownBlock=some hb from λe=>by obtain⟨cs',hr'⟩:=dI _ e;exact hr'.ne HR (by decide) rfl);have HNE2:=ae (show¬(Value.slice A1 q fK).ownBlock=some (w.heap.size+1)from λe=>by obtain⟨cs',hr'⟩:=dI _ e;have:=hr'.lt;omega);have hnb:¬hb=w.heap.size+1:=by omega
   have hnb2:¬w.heap.size+1=hb:=by omega
   have U7:∀o,(wr.alloc o).frozen? ⟨hb,0,none⟩=false:=λo=>(rI.alloc o).free 0;have U6:∀o,(wr.alloc o).drew.frozen? ⟨hb,0,none⟩=false:=λo=>((rI.alloc o).drew).free 0;clear hMr Fk kJ hrx hwr hB';go_wp2_with fail;go_region_law
    ((refine step_append_lies _ (by rfl) _ _ _ (by rfl) ai 128 i0 _ 3 40 underlying64 hi hz0 hz1 hz2 rfl (by omega) _ _ _ (by rfl) (tu HX _) ⟨wr.heap.size,0,none⟩ 1 1 [.int .i64 sz,.slice (some ⟨w.heap.size+1+1,0,none⟩) ct ct,.bool false] (by rfl) (by rfl) (o6 _ _ _ _ rfl) (zV _ _ _ _ _) (by omega) (by unfold maxLen;omega) (by omega) (by simp;omega) (wr.heap.size+1) (by simp) ?_;intro gg fJ w2 hown2 hgrow hat hlt2;have hq:=((rI.alloc (.cells #[.int .i64 sz,.slice (some ⟨w.heap.size+1+1,0,none⟩) ct ct,.bool false] 128)).drew).wr (Wr.grown (F:=λk=>(Value.slice A1 q fK).ownBlock=some k) hgrow (λk hk=>hk)) HNE.out;have hq1:w2.cell? ⟨hb,0,none⟩=some (.slice A1 q fK):=hq.cell rfl;have hq2:=hq.free 0;have hx2:=((XT.alloc (.cells #[.int .i64 sz,.slice (some ⟨w.heap.size+1+1,0,none⟩) ct ct,.bool false] 128)).drew).wr (Wr.grown (F:=λk=>(Value.slice A1 q fK).ownBlock=some k) hgrow (λk hk=>hk)) HNE2.out;have x0:=hx2.cell (j:=0) rfl;have x1:=hx2.cell (j:=1) rfl;have x2:=hx2.free 0;have x3:=hx2.free 1;have x4:=hx2.lt;have x5:=hq.lt;have HQ2:=ae hq;have NP:=ae hgrow;have x8:=ae hown2;have uw:=ae hat;clear hq hx2 hgrow hown2 hat))
   all_goals go_wp2_with fail
   all_goals
    have e:((M.length:Nat):Int)=(q:Int)+1:=by rw[HML.out];simp
    refine aS (v:= .agg #[.int .i64 (M.length:Nat),.int .i64 0]) (by simp[results,results44,go_sem,e,x0,x1,hnb,hnb2,x4]) rfl ?_;exact M7 WV.out Fl.out vC (by rw[Dl.out];simpa using C3) NK.out IL.out IB.out Dl.out HM.out TP.out HR (by omega) tN (by rw[<-xV o,<-x9.out];exact KY.out) HX.out HOX.out NP.out x8.out uw.out hlt2 HQ2.out hbs HO.out
end Go.Proofs.YtinmgbodgecoeaaGreat
