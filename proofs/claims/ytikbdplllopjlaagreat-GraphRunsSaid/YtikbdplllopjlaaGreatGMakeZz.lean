/- The graph's heap: an object is made. Conditions: as stated. -/
import Derived.Test.YtikbdplllopjlaaGreatQ05Zz
set_option linter.unusedVariables false
set_option linter.unusedSimpArgs false
set_option maxHeartbeats 8000000
set_option maxRecDepth 100000
open Go.Proofs.Tryz
namespace Go.Proofs.YtikbdplllopjlaaGreat
open Go.RowKit
attribute [local go_sem ↓] Go.wp_at_zero Go.wp_at_succ
theorem LF:(prog.info? 131).map (λi=>(i.zero,i.size,i.bytes))=some (some (.agg #[.int .i64 0,.slice none 0 0,.bool false]),3,40):=by kernel_rfl
theorem i4.push{w w':World}{ai:Nat}{own own':Nat->Prop}{aU je:Value}{rb:Nat->Nat}{M:List MO}{o:MO}{ob:Nat}{xs:List Value}(h:i4 w ai own aU rb M)(gP:0<M.length)(ho:o.live=true)
  (nV:∀k x,M.tail[k]? =some x->vH xs rb k x)(hlen:xs.length=M.tail.length*3)
  (hown:w'.ownsRow ai 131 3 je (M.tail.length+1) (xs++[.int .i64 o.size,.slice (some ⟨ob,0,none⟩) o.l.length o.l.length,.bool false]))
  (Oq:∀k x,M.tail[k]? =some x->iq w' (rb k) x.l)(oD:iq w' ob o.l)(N9:∀k,k<M.tail.length->rb k≠ob)(h1:∀k,k<M.tail.length->own' (rb k))(h2:own' ob)(gu:b9 (M++[o]))(Iu:fP (M++[o])):
  i4 w' ai own' je (λk=>if k=M.tail.length then ob else rb k) (M++[o]):=by
 have mS:(M++[o]).tail=M.tail++[o]:=by cases M with|nil=>simp at gP|cons a l=>rfl
 have mO:∀k x,(M.tail++[o])[k]? =some x->(k<M.tail.length/\M.tail[k]? =some x)\/(k=M.tail.length/\x=o):=by
  intro k x hx;rcases Nat.lt_or_ge k M.tail.length with h|h
  ·rw[List.getElem?_append_left h]at hx;exact aH ⟨h,hx⟩
  ·rw[List.getElem?_append_right h]at hx;rcases Nat.lt_or_ge (k-M.tail.length) 1 with h'|h'
   ·rw[show k-M.tail.length=0 by omega]at hx;simp at hx;exact aT ⟨by omega,hx.symm⟩
   ·rw[List.getElem?_eq_none (by simpa using h')]at hx;cases hx
 refine⟨⟨_,by rw[mS,List.length_append];exact hown,λk x hx=>?_⟩,λk x hx=>?_,λi j hi hj he=>?_,gu,Iu⟩
 ·rw[mS]at hx;rcases mO k x hx with⟨hlt,hx⟩|⟨rfl,rfl⟩
  ·obtain⟨a,b,c⟩:=nV k x hx;unfold vH;rw[List.getElem?_append_left (by omega),List.getElem?_append_left (by omega),List.getElem?_append_left (by omega)];simp only[if_neg (show¬k=M.tail.length by omega)];exact⟨a,b,c⟩
  ·unfold vH;rw[List.getElem?_append_right (by omega),List.getElem?_append_right (by omega),List.getElem?_append_right (by omega),hlen];simp only[if_true,ho];rw[show M.tail.length*3-M.tail.length*3=0 by omega,show M.tail.length*3+1-M.tail.length*3=1 by omega,show M.tail.length*3+2-M.tail.length*3=2 by omega];exact⟨rfl,rfl,rfl⟩
 ·rw[mS]at hx;rcases mO k x hx with⟨hlt,hx⟩|⟨rfl,rfl⟩
  ·rw[if_neg (by omega:¬k=M.tail.length)];exact⟨h1 _ hlt,Oq k x hx⟩
  ·rw[if_pos rfl];exact⟨h2,oD⟩
 ·rw[mS,List.length_append,List.length_singleton]at hi hj;by_cases ei:i=M.tail.length<;>by_cases ej:j=M.tail.length
  ·omega
  ·rw[if_pos ei,if_neg ej]at he;exact absurd he.symm (N9 j (by omega))
  ·rw[if_neg ei,if_pos ej]at he;exact absurd he (N9 i (by omega))
  ·rw[if_neg ei,if_neg ej]at he;exact h.inj i j (by omega) (by omega) he
def Df(ai:Nat)(own:Nat->Prop)(hb:Nat)(M:List MO)(o:jR)(w:World)(e:Ending)(w':World):Prop:=
 e= .returned (.agg #[.int .i64 (M.length:Nat),.int .i64 0])/\∃(own':Nat->Prop)(je:Value)(PU:Nat->Nat),(∀k,own k->own' k)/\(∀k,own' k->own k\/w.heap.size<=k)/\(∀k,own' k->k<w'.heap.size)/\
  Eh w' ai own' hb je PU (gG M o)/\Wr (λk=>(own k/\∃cs,Row w k cs 131)\/k=hb) w w'
theorem LH{w wr w2:World}{ai hb ob ct sz gg gT fC q:Nat}{own:Nat->Prop}{M:List MO}{o:jR}{rb:Nat->Nat}{A2:Option Addr}{xs:List Value}{X:Obj}{v0 v1:Value}
  (zP:q=M.tail.length)(hsz:o.size=1\/o.size=2\/o.size=4\/o.size=8)(gZ:∀x,x∈o.init->bz x)(hc:o.count.toNat<=64)(gP:0<M.length)(gX:M.length+1<=1000000000)(hsz':o.size=sz)(lW:o.count=ct)
  (hM:i4 w ai own (.slice A2 q gT) rb M)(A8:∀g,(Value.slice A2 q gT).ownBlock=some g->own g)(hR:Row w hb #[.slice A2 q gT] 66)
  (oD:w.heap.size+1<ob)(hwr:Wr (λ_=>False) w wr)(hV:iq wr ob (kF o))
  (hx:wr.ownsRow ai 131 3 (.slice A2 q gT) q xs)(oC:∀k x,M.tail[k]? =some x->vH xs rb k x)
  (hg:(wr.alloc X).drew.grownBy w2 (Value.slice A2 q gT).ownBlock)(hown2:w2.ownsRow ai 131 3 (.slice (some ⟨gg,0,none⟩) (q+1) fC) (q+1) (xs++[.int .i64 sz,.slice (some ⟨ob,0,none⟩) ct ct,.bool false]))
  (hat:(Value.slice A2 q gT).ownBlock=some gg\/gg=wr.heap.size+1)(mA:gg<w2.heap.size)(hq:Row w2 hb #[.slice A2 q gT] 66)(kE:ai<=w.heap.size)(hown:∀k,own k->ai<=k/\k<w.heap.size):
  Df ai own hb M o w (.returned (.agg #[.int .i64 (M.length:Nat),.int .i64 0])) (((w2.setCell ⟨hb,0,none⟩ (.slice (some ⟨gg,0,none⟩) (q+1) fC)).setCell ⟨w.heap.size+1,0,none⟩ v0).setCell ⟨w.heap.size+1,1,none⟩ v1):=by
 subst zP;have hbl:=hR.lt;obtain⟨cv,hVr,hVi⟩:=id hV;have Z8:=hVr.lt;have hz2:=hg.size;have hz1:=hwr.size;simp only[World.size_drew,World.size_alloc]at hz2;have W1:Wr (λ_=>False) w (wr.alloc X).drew:=hwr.trans (di (aj wr X).drew) (λ_ h=>h.elim);have W1b:Wr (λ_=>False) wr (wr.alloc X).drew:=di (aj wr X).drew;have W2:Wr (λk=>(Value.slice A2 M.tail.length gT).ownBlock=some k) (wr.alloc X).drew w2:=Wr.grown hg (λk hk=>hk);have W3:=Wr.cell1 w2 hb 0 (.slice (some ⟨gg,0,none⟩) (M.tail.length+1) fC);have W4:=eB (w2.setCell ⟨hb,0,none⟩ (.slice (some ⟨gg,0,none⟩) (M.tail.length+1) fC)) (w.heap.size+1) 0 1 v0 v1
 have all:∀a:World,Wr (λ_=>False) a (wr.alloc X).drew->Wr (λk=>(Value.slice A2 M.tail.length gT).ownBlock=some k\/k=hb\/k=w.heap.size+1) a (((w2.setCell ⟨hb,0,none⟩ (.slice (some ⟨gg,0,none⟩) (M.tail.length+1) fC)).setCell ⟨w.heap.size+1,0,none⟩ v0).setCell ⟨w.heap.size+1,1,none⟩ v1):=λa h=>
  (((h.mono (λ_ h=>h.elim)).trans W2 (λi h=>aH (aH h))).trans W3 (λi h=>aH (aT (aH h)))).trans W4 (λi h=>aH (aT (aT h)))
 have Wa:=all w W1;have Wb:=all wr W1b;obtain⟨⟨xs0,hx0,_⟩,rD,_,gu,Iu⟩:=id hM;have hrow:∀g,(Value.slice A2 M.tail.length gT).ownBlock=some g->∃cs',Row w g cs' 131:=λg h=>(aC hx0 h).2;have hrow':∀g,(Value.slice A2 M.tail.length gT).ownBlock=some g->∃cs',Row wr g cs' 131:=λg h=>(aC hx h).2;have Wz:au M=M:=jE gP;have Od:gG M o=M++[⟨o.size,kF o,true⟩]:=by rw[jf,Wz]
 have Ru:b9 (M++[⟨o.size,kF o,true⟩]):=Od▸wX gu o hsz hc gZ (by rw[Wz];omega);have YF:fP (M++[⟨o.size,kF o,true⟩]):=Od▸Iu.make o;have tq:(kF o).length=ct:=by simp[kF,lW]
 have hgg:gg<w.heap.size\/w.heap.size+1<gg:=by
  rcases hat with h|h
  ·obtain⟨cs',hr⟩:=hrow gg h;exact aH hr.lt
  ·exact aT (by omega)
 have hggh:gg≠hb:=λe=>by
  obtain⟨_,cs',hr⟩:=aC hown2 (g:=gg) rfl;exact hr.ne hq (by decide) e
 refine⟨rfl,λk=>own k\/k=ob\/k=gg,.slice (some ⟨gg,0,none⟩) (M.tail.length+1) fC,λk=>if k=M.tail.length then ob else rb k,λk hk=>aH hk,λk hk=>?_,λk hk=>?_,⟨?_,?_,λg h=>?_⟩,?_⟩
 ·rcases hk with hk|rfl|rfl
  ·exact aH hk
  ·exact aT (by omega)
  ·rcases hat with h|h
   ·exact aH (A8 _ h)
   ·exact aT (by omega)
 ·simp only[World.size_setCell];rcases hk with hk|rfl|rfl
  ·have:=(hown k hk).2;omega
  ·omega
  ·exact mA
 ·have h1:=hq.set 0 (.slice (some ⟨gg,0,none⟩) (M.tail.length+1) fC);exact h1.wr W4 (by omega)
 ·rw[Od];refine i4.push (o:=⟨o.size,kF o,true⟩) hM gP rfl oC hx.1 ?_ (λk x Wp=>?_) ?_ (λk hk=>?_) (λk hk=>aH (hM.get hk).1) (aT (aH rfl)) Ru YF
  ·simp only[tq,hsz'];refine aB (aB hown2 W3 (λg h=>?_)) W4 (λg h=>?_)
   ·simp only[Value.ownBlock,Option.some.injEq]at h;subst h;exact hggh
   ·simp only[Value.ownBlock,Option.some.injEq]at h;subst h;omega
  ·obtain⟨_,cs',hr,hv⟩:=rD k x Wp;refine⟨cs',hr.wr Wa (λh=>?_),hv⟩;rcases h with h|h|h
   ·obtain⟨cs2,hr2⟩:=hrow _ h;exact hr.ne hr2 (by decide) rfl
   ·exact hr.ne hR (by decide) h
   ·have:=hr.lt;omega
  ·refine⟨cv,hVr.wr Wb (λh=>?_),hVi⟩;rcases h with h|h|h
   ·obtain⟨cs2,hr2⟩:=hrow' _ h;exact hVr.ne hr2 (by decide) rfl
   ·omega
   ·omega
  ·obtain⟨_,cs',hr⟩:=hM.get hk;have:=hr.lt;omega
 ·simp only[Value.ownBlock,Option.some.injEq]at h;exact aT (aT h.symm)
 ·refine Wa.mono (λi hi=>?_);rcases hi with hi|hi|hi
  ·exact aH (aH ⟨A8 i hi,hrow i hi⟩)
  ·exact aH (aT hi)
  ·exact aT (by omega)
theorem LI(hb ai:Nat)(own:Nat->Prop)(aU:Value)(rb:Nat->Nat)(M:List MO)(o:jR)(v:Value)(w:World)
  (hH:Eh w ai own hb aU rb M)(hown:∀k,own k->ai<=k/\k<w.heap.size)(kE:ai<=w.heap.size)(gP:0<M.length)(ho:q9 o)(hl:bE w ai o.init v)(gX:M.length+1<=1000000000):
  Calls prog 42 #[.pointer (some ⟨hb,0,none⟩),.agg #[.int .i64 o.size,.int .i64 o.count,v]] w λe w'=>Df ai own hb M o w e w':=by
 obtain⟨hR,hM,A8⟩:=hH;obtain⟨hsz,hc1,hc2,hc3⟩:=ho;obtain⟨ct,lW⟩:=Int.eq_ofNat_of_zero_le (show 0<=o.count by omega);have gZ:=hl.Ib;obtain⟨A,aA,rfl,_,_⟩:=id hl;have xg:=hl.len;obtain⟨sz,hsz',Ih⟩:∃sz:Nat,o.size=sz/\(sz=1\/sz=2\/sz=4\/sz=8):=(by rcases hsz with h|h|h|h;exact⟨1,h,by omega⟩;exact⟨2,h,by omega⟩;exact⟨4,h,by omega⟩;exact⟨8,h,by omega⟩)
 rw[lW,hsz'];obtain⟨n,hn⟩:∃n,n=o.init.length:=⟨_,rfl⟩
 rw[<-hn]at hl ⊢ xg;have IG:1<=ct:=by omega
 have Cj:ct<=64:=by omega
 have hnct:n<=ct:=by omega
 have hpl:=hR.lt;obtain⟨xs,hx,oC⟩:=hM.row;obtain⟨q,zP⟩:∃q,q=M.tail.length:=⟨_,rfl⟩
 rw[<-zP]at hx;have VR:=ae zP;obtain⟨A1,eT,Ob⟩:∃A1 eT,aU= .slice A1 q eT:=(by obtain⟨_,h|⟨g,c,cur,h,_⟩⟩:=id hx;exact⟨none,0,by rw[h.1,h.2]⟩;exact⟨_,_,h⟩)
 subst Ob;have zy:∀g,(Value.slice A1 q eT).ownBlock=some g->∃cs',Row w g cs' 131:=λg h=>(aC hx h).2;have HR:=ae hR;have HO:=ae hown;have Qm:=ae A8;have HL:=ae hl;have Dd:=ae hn;have yR:=ae hsz;have yX:=ae gZ;have HM:=ae hM;have vG:=ae lW;have Gs:=ae hsz';have PE:=ae hx;have Zl:=ae oC;have yS:=ae zy;have Gu:=ae gX;have Fo:q<=1000000000:=by rw[zP,List.length_tail];omega
 have Iy:M.length=q+1:=by rw[zP,List.length_tail];omega
 have HML:=ae Iy;have ML:=ae gP;obtain⟨Z,hZ,Od⟩:=nA ct (by omega);have HZ:=ae hZ;clear zP hR hM A8 hown hx oC lW hl xg hsz gZ hsz' zy hn hc1 hc2 hc3 hZ gP Iy gX;go_enter func42,ntmps42;go_wp2_with fail;go_loopw [14] (λi wr=>∃k:Nat,k<=n/\i= .int .i64 k/\iq wr (w.heap.size+1+1) (jk o k)/\Row wr w.heap.size #[.int .i64 sz,.int .i64 ct,.slice A n aA] 85/\Row wr (w.heap.size+1) #[.int .i64 0,.int .i64 0] 72/\Wr (λ_=>False) w wr) (λi _=>n-(intOf i).toNat)
 case atStart=>
  exact⟨0,by omega,rfl,⟨Z,Row.new' _ _ (by simp),by rw[nN,vG.out,Int.toNat_natCast];exact HZ.out⟩,((Row.new _ _ _).alloc _).alloc _,(Row.new' _ _ (by simp)).alloc _,Wr.of_below (aO _ _ _ _)⟩
 case round=>
  obtain⟨k,hk,rfl,EB,gY,AX,hwr⟩:=hrel;have Cr:Below ai w wr:=hwr.below kE (λk hk=>hk.elim);have c0:wr.cell? ⟨w.heap.size,0,none⟩=some (.int .i64 sz):=gY.cell (j:=0) rfl;have fV:=hwr.size;have mK:=ae hwr;have ed:=ae gY;have WE:=ae AX;have MW:=gY.lt;have UL:=AX.lt;by_cases hlt:k<n
  ·obtain⟨b,off,y,rfl,hb,hy,qE,hyi⟩:=(HL.below Cr (aN _)).get hlt;simp only[Nat.mul_one,Nat.add_zero]at qE;have hg:=yK o k (by rw[vG.out];simp;omega);obtain⟨cv,vK,jh⟩:=EB;have e1:=vK.cell (jh.2 k _ hg).2;have e2:=vK.free (k*2+1);have Ej:=ae (show iq wr (w.heap.size+1+1) (jk o k)from⟨cv,vK,jh⟩);have HY:=ae hy;have HG:=ae hg;have iZ:(0:Int)<=(k:Int):=by omega
   have bA:(k:Int)<(n:Int):=by omega
   have hk2:(k:Int)<(ct:Int):=by omega
   have hbl:b<wr.heap.size:=by have:=Cr.size;omega
   have HU:=ae (λW=>FW sz y W Ih hyi);clear vK jh hy hg hwr gY AX Cr hyi;go_wp2_with fail;refine(HU _).mono ?_;rintro e w3 ⟨rfl,rfl⟩;go_wp2_with fail;go_roundw
   case rel=>
    refine⟨k+1,by omega,by go_num,?_,?_,?_,?_⟩
    ·have h1:=Ej.Uh k ⟨0,0⟩ (eC sz y) HG.out;have h2:=vA o k (by rw[vG.out];simp;omega);rw[Gs.out,Int.toNat_natCast,List.getD_eq_getElem?_getD,HY.out]at h2;rw[<-h2];exact h1
    ·exact ed.other (by omega) _ _
    ·exact WE.other (by omega) _ _
    ·exact mK.iO _ _ _ (aT (by omega))
   case measure=>simp[intOf];omega
  ·obtain rfl:k=n:=by omega
   obtain⟨i0,hi,hz0,hz1,hz2⟩:=info_parts LF;have hMr:=(HM.wr hwr (λ_ _ h=>h) (λ_ _ h=>h))
   have HX:=ae (aB PE.out hwr (λ_ _ h=>h));have BQ:=ae (HR.wr hwr (λh=>h));have p0:wr.cell? ⟨hb,0,none⟩=some (.slice A1 q eT):=BQ.cell rfl;have p1:=BQ.free 0;have XS:=BQ.lt;have Ej:=ae EB;have hrx0:=AX.cell (j:=0) rfl;have hrx1:=AX.cell (j:=1) rfl;have hrf0:=AX.free 0;have hrf1:=AX.free 1;have hlv:=(by obtain⟨_,h,_⟩:=EB;exact h.lt:w.heap.size+1+1<wr.heap.size)
   have Zp:=ae (show¬(Value.slice A1 q eT).ownBlock=some hb from λe=>by obtain⟨cs',eu⟩:=yS _ e;exact eu.ne HR (by decide) rfl);have HNE2:=ae (show¬(Value.slice A1 q eT).ownBlock=some (w.heap.size+1)from λe=>by obtain⟨cs',eu⟩:=yS _ e;have:=eu.lt;omega);have sL:¬hb=w.heap.size+1:=by omega
   have Ch:¬w.heap.size+1=hb:=by omega
   have UR:∀o,(wr.alloc o).frozen? ⟨hb,0,none⟩=false:=λo=>(BQ.alloc o).free 0;have UQ:∀o,(wr.alloc o).drew.frozen? ⟨hb,0,none⟩=false:=λo=>((BQ.alloc o).drew).free 0;clear hMr EB gY AX hwr Cr;go_wp2_with fail;go_region_law
    ((refine step_append_lies _ (by rfl) _ _ _ (by rfl) ai 131 i0 _ 3 40 underlying64 hi hz0 hz1 hz2 rfl (by omega) _ _ _ (by rfl) (rN HX _) ⟨wr.heap.size,0,none⟩ 1 1 [.int .i64 sz,.slice (some ⟨w.heap.size+1+1,0,none⟩) ct ct,.bool false] (by rfl) (by rfl) (ny _ _ _ _ rfl) (z6 _ _ _ _ _) (by omega) (by unfold maxLen;omega) (by omega) (by simp;omega) (wr.heap.size+1) (by simp) ?_;intro gg fC w2 hown2 hgrow hat mA;have hq:=((BQ.alloc (.cells #[.int .i64 sz,.slice (some ⟨w.heap.size+1+1,0,none⟩) ct ct,.bool false] 131)).drew).wr (Wr.grown (F:=λk=>(Value.slice A1 q eT).ownBlock=some k) hgrow (λk hk=>hk)) Zp.out;have jZ:w2.cell? ⟨hb,0,none⟩=some (.slice A1 q eT):=hq.cell rfl;have Dx:=hq.free 0;have hx2:=((WE.alloc (.cells #[.int .i64 sz,.slice (some ⟨w.heap.size+1+1,0,none⟩) ct ct,.bool false] 131)).drew).wr (Wr.grown (F:=λk=>(Value.slice A1 q eT).ownBlock=some k) hgrow (λk hk=>hk)) HNE2.out;have x0:=hx2.cell (j:=0) rfl;have x1:=hx2.cell (j:=1) rfl;have x2:=hx2.free 0;have x3:=hx2.free 1;have x4:=hx2.lt;have x5:=hq.lt;have SS:=ae hq;have MN:=ae hgrow;have yT:=ae hown2;have s7:=ae hat;clear hq hx2 hgrow hown2 hat))
   all_goals go_wp2_with fail
   all_goals
    have e:((M.length:Nat):Int)=(q:Int)+1:=by rw[HML.out];simp
    refine aR (v:= .agg #[.int .i64 (M.length:Nat),.int .i64 0]) (by simp[results,results42,go_sem,e,x0,x1,sL,Ch,x4]) rfl ?_;exact LH VR.out yR.out yX (by rw[vG.out];simpa using Cj) ML.out Gu.out Gs.out vG.out HM.out Qm.out HR (by omega) mK (by rw[<-yL o,<-Dd.out];exact Ej.out) HX.out Zl.out MN.out yT.out s7.out mA SS.out kE HO.out
end Go.Proofs.YtikbdplllopjlaaGreat
