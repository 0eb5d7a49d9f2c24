/- The page's memory: an object is made. Conditions: as stated. -/
import Derived.Test.YtikbdplllopjlaaGreatQ03Zz
import Derived.Deep.RegionHeld3
import Derived.Deep.AppendLies
import Derived.Deep.RegionLaw
import Derived.Deep.DrawnRows
set_option linter.unusedVariables false
set_option linter.unusedSimpArgs false
set_option maxHeartbeats 8000000
set_option maxRecDepth 100000
open Go.Proofs.Tryz
namespace Go.Proofs.YtikbdplllopjlaaGreat
open Go.RowKit
attribute [local go_sem ↓] Go.wp_at_zero Go.wp_at_succ
theorem Nk{cs:Array Value}{j:Nat}{v:Value}(h:cs[j]? =some v):cs.setIfInBounds j v=cs:=by
 apply Array.ext_getElem?;intro i;by_cases e:j=i
 ·subst e;rw[Array.getElem?_setIfInBounds_self,h];have:j<cs.size:=by
   rcases Nat.lt_or_ge j cs.size with h'|h'
   ·exact h'
   ·rw[Array.getElem?_eq_none h']at h;cases h
  simp[this]
 ·rw[Array.getElem?_setIfInBounds_ne e]
theorem qC{cs:Array Value}{j:Nat}{v:Value}(h:cs[j]? =some v):j<cs.size:=by
 rcases Nat.lt_or_ge j cs.size with h'|h'
 ·exact h'
 ·rw[Array.getElem?_eq_none h']at h;cases h
theorem AE:(prog.info? 116).map (λi=>(i.zero,i.size,i.bytes))=some (some (.agg #[.int .i64 0,.slice none 0 0,.bool false]),3,40):=by kernel_rfl
theorem rN{w:World}{ai:Nat}{e:TypeId}{size:Nat}{v:Value}{n:Nat}{xs:List Value}(h:w.ownsRow ai e size v n xs)(o:Obj):(w.alloc o).drew.ownsRow ai e size v n xs:=
 aB h (di (aj w o).drew) (λ_ _ h=>h)
theorem ny(w:World)(cs:List Value)(t:TypeId)(r:Nat)(hr:r=w.heap.size):∀(j:Nat)(u:Value),cs[j]? =some u->(w.alloc (.cells cs.toArray t)).drew.cell? ((⟨r,0,none⟩:Addr).add j)=some u:=by
 subst hr;intro j u hj;rw[uJ];exact(Row.new w cs.toArray t).drew.cell (by simpa using hj)
theorem Hf(w:World)(cs:List Value)(t:TypeId)(r:Nat)(hr:r=w.heap.size):∀(j:Nat)(u:Value),cs[j]? =some u->(w.alloc (.cells cs.toArray t)).cell? ((⟨r,0,none⟩:Addr).add j)=some u:=ny w cs t r hr
theorem Nu{w:World}{ai:Nat}{e:TypeId}{size:Nat}{v:Value}{n:Nat}{xs:List Value}(h:w.ownsRow ai e size v n xs)(o o':Obj):((w.alloc o).alloc o').ownsRow ai e size v n xs:=
 aB h (di (aJ w o o')) (λ_ _ h=>h)
theorem z6(a:Int)(v:Option Addr)(n m:Nat)(b:Bool):∀u:Value,u∈[Value.int .i64 a,.slice v n m,.bool b]->u.oneCell'=true:=by
 intro u hu;simp at hu;rcases hu with rfl|rfl|rfl<;>rfl
def xS(ai:Nat)(own:Nat->Prop)(pb po:Nat)(cs:Array Value)(t:TypeId)(M:List MO)(o:jR)(w:World)(e:Ending)(w':World):Prop:=
 e= .returned (.int .i64 (au M).length)/\∃(own':Nat->Prop)(je:Value)(PU:Nat->Nat),(∀k,own k->own' k)/\(∀k,own' k->own k\/w.heap.size<=k)/\(∀k,own' k->k<w'.heap.size)/\
  nY w' ai own' je PU (gG M o)/\(∀g,je.ownBlock=some g->own' g)/\Row w' pb (cs.setIfInBounds po je) t/\Wr (λk=>own k\/k=pb) w w'
theorem E8{w wc wr w2:World}{ai pb po ob ct sz gg gT fC:Nat}{own dQ:Nat->Prop}{cs:Array Value}{t:TypeId}{M:List MO}{o:jR}{rb:Nat->Nat}{A2:Option Addr}{xs:List Value}{X:Obj}
  (ht:t≠72/\t≠116)(hsz:o.size=1\/o.size=2\/o.size=4\/o.size=8)(gZ:∀x,x∈o.init->bz x)(hc:o.count.toNat<=64)(gX:(au M).length+1<=1000000000)(hsz':o.size=sz)(lW:o.count=ct)
  (jy:nY wc ai dQ (.slice A2 (au M).length gT) rb (au M))(A8:∀g,(Value.slice A2 (au M).length gT).ownBlock=some g->dQ g)(jc:Row wc pb (cs.setIfInBounds po (.slice A2 (au M).length gT)) t)
  (hW1:Wr (λk=>own k\/k=pb) w wc)(N7:∀k,own k->dQ k)(Ir:∀k,dQ k->own k\/w.heap.size<k)(UF:∀k,dQ k->k<wc.heap.size)(oD:w.heap.size<ob)(Iw:¬dQ ob)(hwr:Wr (λb=>b=ob) wc wr)(hV:iq wr ob (kF o))
  (hx:wr.ownsRow ai 116 3 (.slice A2 (au M).length gT) (au M).length xs)(oC:∀k x,(au M)[k]? =some x->uL xs rb k x)
  (hg:(wr.alloc X).drew.grownBy w2 (Value.slice A2 (au M).length gT).ownBlock)(hown2:w2.ownsRow ai 116 3 (.slice (some ⟨gg,0,none⟩) ((au M).length+1) fC) ((au M).length+1) (xs++[.int .i64 sz,.slice (some ⟨ob,0,none⟩) ct ct,.bool true]))
  (hat:(Value.slice A2 (au M).length gT).ownBlock=some gg\/gg=wr.heap.size+1)(mA:gg<w2.heap.size)(hq:Row w2 pb (cs.setIfInBounds po (.slice A2 (au M).length gT)) t)(kE:ai<=w.heap.size)(aZ:ai<=pb)(hpl:pb<w.heap.size)(hown:∀k,own k->ai<=k/\k<w.heap.size):
  xS ai own pb po cs t M o w (.returned (.int .i64 (au M).length)) (w2.setCell ⟨pb,po,none⟩ (.slice (some ⟨gg,0,none⟩) ((au M).length+1) fC)):=by
 have hMr:=jy.wr A8 hwr (λk hk ho=>Iw (hk▸ho));have hmp:=dY M;have hz1:=hW1.size;have hz2:=hwr.size;have hz3:=hg.size;simp only[World.size_drew,World.size_alloc]at hz3;have N0:∀g,(Value.slice A2 (au M).length gT).ownBlock=some g->∃cs',Row wr g cs' 116:=λg h=>(aC hx h).2;have PZ:Wr (λk=>(Value.slice A2 (au M).length gT).ownBlock=some k) (wr.alloc X).drew w2:=Wr.grown hg (λk hk=>hk);have CV:=Wr.cell1 w2 pb po (.slice (some ⟨gg,0,none⟩) ((au M).length+1) fC);have Tl:∀g l,iq wr g l->iq (w2.setCell ⟨pb,po,none⟩ (.slice (some ⟨gg,0,none⟩) ((au M).length+1) fC)) g l:=by
  rintro g l ⟨cv,hr,hv⟩;have h1:Row w2 g cv 72:=((hr.alloc X).drew).wr PZ (λh=>by obtain⟨cs',h'⟩:=N0 g h;exact hr.ne h' (by decide) rfl);exact⟨cv,h1.wr CV (λh=>h1.ne hq (λh=>ht.1 h.symm) h),hv⟩
 have gu:=wX jy.ok;have hmok:b9 (gG M o):=by
  have h:=lJ (M:=M);have hb:=jy.ok;rw[jf];have h3:=wX hb o hsz hc gZ (by
   have:au (au M)=au M:=by unfold au;split<;>simp_all
   rw[this];omega)
  rw[jf]at h3;have:au (au M)=au M:=by unfold au;split<;>simp_all
  rw[this]at h3;exact h3
 have tq:(kF o).length=ct:=by simp[kF,lW]
 refine⟨rfl,λk=>dQ k\/k=ob\/k=gg,.slice (some ⟨gg,0,none⟩) ((au M).length+1) fC,λk=>if k=(au M).length then ob else rb k,λk hk=>aH (N7 k hk),λk hk=>?_,λk hk=>?_,?_,λg h=>?_,?_,?_⟩
 ·rcases hk with hk|rfl|rfl
  ·rcases Ir k hk with h|h
   ·exact aH h
   ·exact aT (by omega)
  ·exact aT (by omega)
  ·rcases hat with h|h
   ·rcases Ir _ (A8 _ h)with h|h
    ·exact aH h
    ·exact aT (by omega)
   ·exact aT (by omega)
 ·simp only[World.size_setCell];rcases hk with hk|rfl|rfl
  ·have:=UF k hk;omega
  ·obtain⟨_,h,_⟩:=hV;have:=h.lt;omega
  ·exact mA
 ·refine nY.push (M:=au M) (o:=⟨o.size,kF o,true⟩) hMr hmp oC ?_ ?_ (λk x hk Wp=>Tl _ _ (hMr.mine k x hk Wp).2) (Tl _ _ hV) Iw (λk hk=>aH hk) (aT (aH rfl)) hmok
  ·exact hx.1
  ·simp only[tq,hsz'];exact aB hown2 CV (λg h h'=>by obtain⟨_,cs',hr⟩:=aC hown2 h;exact hr.ne hq (λh=>ht.2 h.symm) h')
 ·simp only[Value.ownBlock,Option.some.injEq]at h;exact aT (aT h.symm)
 ·have:=hq.set po (.slice (some ⟨gg,0,none⟩) ((au M).length+1) fC);rw[Array.setIfInBounds_setIfInBounds]at this;exact this
 ·refine(((hW1.trans hwr (λi hi=>aT (by omega))).trans (di (aj wr X).drew) (λi hi=>hi.elim)).trans PZ (λi hi=>?_)).trans CV (λi hi=>aH (aT hi));rcases Ir i (A8 i hi)with h|h
  ·exact aH (aH h)
  ·exact aT (by omega)
theorem K5(pb po ai:Nat)(own:Nat->Prop)(aU:Value)(rb:Nat->Nat)(M:List MO)(cs:Array Value)(t:TypeId)(o:jR)(ct:Nat)(A:Option Addr)(n aA:Nat)(w:World)
  (hR:Row w pb cs t)(hp:cs[po]? =some aU)(ht:t≠72/\t≠116)(hM:nY w ai own aU rb M)(A8:∀g,aU.ownBlock=some g->own g)(hown:∀k,own k->ai<=k/\k<w.heap.size)(kE:ai<=w.heap.size)(aZ:ai<=pb)
  (lW:o.count=ct)(IG:1<=ct)(Cj:ct<=64)(hn:n<=ct)(hl:bE w ai o.init (.slice A n aA))(hsz:o.size=1\/o.size=2\/o.size=4\/o.size=8)(gZ:∀x,x∈o.init->bz x)(gX:(au M).length+1<=1000000000)(TI:M≠[]):
  Calls prog 29 #[.pointer (some ⟨pb,po,none⟩),.agg #[.int .i64 o.size,.int .i64 ct,.slice A n aA]] w λe w'=>xS ai own pb po cs t M o w e w':=by
 have hpl:=hR.lt;have HR:=ae hR;have HO:=ae hown;have Qm:=ae A8;have HP:=ae hp;have HT:=ae ht;obtain⟨sz,hsz',Ih⟩:∃sz:Nat,o.size=sz/\(sz=1\/sz=2\/sz=4\/sz=8):=(by rcases hsz with h|h|h|h;exact⟨1,h,by omega⟩;exact⟨2,h,by omega⟩;exact⟨4,h,by omega⟩;exact⟨8,h,by omega⟩)
 have HL:=ae hl;have xg:=hl.len;have Dd:=ae xg.1;have yR:=ae hsz;have yX:=ae gZ;have HM:=ae hM;have vG:=ae lW;have Gs:=ae hsz';rw[hsz'];have HNS:=ae (show∀k,own k->k≠w.heap.size/\k<w.heap.size from λk hk=>by have:=hown k hk;omega);obtain⟨xs,hx,oC⟩:=hM.row;have Iy:0<M.length:=by cases M with|nil=>exact absurd rfl TI|cons a l=>simp
 have eW:au M=M:=by unfold au;rw[if_neg TI]
 obtain⟨A1,eT,Ob⟩:∃A1 eT,aU= .slice A1 M.length eT:=(by obtain⟨_,h|⟨g,c,cur,h,_⟩⟩:=hx;exact absurd h.2 (by omega);exact⟨_,_,h⟩)
 subst Ob;have p0:w.cell? ⟨pb,po,none⟩=some (.slice A1 M.length eT):=hR.cell hp;have mr:((M.length:Int)==0)=false:=by simp;omega
 have Km:=ae eW;clear hM TI hR hp ht A8 hown hx oC eW lW hl xg hsz gZ hsz';obtain⟨Z,hZ,Od⟩:=nA ct (by omega);have HZ:=ae hZ;clear hZ;go_enter func29,ntmps29;go_upto_region 3 with fail;go_cut [5] (λv5 wx=>∃(xb ob:Nat)(dQ:Nat->Prop)(qA:Value),v5= .pointer (some ⟨xb,0,none⟩)/\Row wx xb #[.int .i64 sz,.slice (some ⟨ob,0,none⟩) ct ct,.bool true] 116/\iq wx ob (jk o 0)/\¬xb=ob/\w.heap.size<xb/\w.heap.size<ob/\
   Row wx w.heap.size #[.int .i64 sz,.int .i64 ct,.slice A n aA] 85/\nY wx ai dQ qA rb (au M)/\(∀g,qA.ownBlock=some g->dQ g)/\Row wx pb (cs.setIfInBounds po qA) t/\Wr (λk=>own k\/k=pb) w wx/\(∀k,own k->dQ k)/\(∀k,dQ k->own k\/w.heap.size<k)/\¬dQ ob/\¬dQ xb/\(∀k,dQ k->k<wx.heap.size))
 case first=>
  go_region
  all_goals go_wp2_with fail
  all_goals go_meet
  all_goals
   have j4:∀wx,Below w.heap.size w wx->nY wx ai own (.slice A1 M.length eT) rb (au M)/\Row wx pb (cs.setIfInBounds po (.slice A1 M.length eT)) t/\Wr (λk=>own k\/k=pb) w wx/\(∀k,own k->k<wx.heap.size):=λwx hb=>
    ⟨Km.symm▸HM.wr Qm (di hb) (λ_ h=>h.elim),(Nk HP.out).symm▸HR.below hb hpl,Wr.of_below hb,λk hk=>by have:=(HO.out k hk).2;have:=hb.size;omega⟩
  ·obtain⟨f1,f2,f3,f4⟩:=j4 _ ((aO w (.cells #[.int .i64 sz,.int .i64 ct,.slice A n aA] 85) (.cells Z 72) (.cells #[.int .i64 sz,.slice (some ⟨w.heap.size+1,0,none⟩) ct ct,.bool true] 116)).drew);exact⟨w.heap.size+1+1,w.heap.size+1,own,.slice A1 M.length eT,rfl,(Row.new' _ _ (by simp)).drew,⟨Z,((Row.new' _ _ (by simp)).alloc _).drew,by rw[nN,vG.out,Int.toNat_natCast];exact HZ.out⟩,by omega,by omega,by omega,
    (((Row.new _ _ _).alloc _).alloc _).drew,f1,Qm.out,f2,f3,λ_ h=>h,λ_ h=>aH h,λh=>by have:=(HO _ h).2;omega,λh=>by have:=(HO _ h).2;omega,f4⟩
  ·obtain⟨f1,f2,f3,f4⟩:=j4 _ ((aO w (.cells #[.int .i64 sz,.int .i64 ct,.slice A n aA] 85) (.cells #[.int .i64 sz,.slice (some ⟨w.heap.size+1+1,0,none⟩) ct ct,.bool true] 116) (.cells Z 72)).drew);exact⟨w.heap.size+1,w.heap.size+1+1,own,.slice A1 M.length eT,rfl,((Row.new' _ _ (by simp)).alloc _).drew,⟨Z,(Row.new' _ _ (by simp)).drew,by rw[nN,vG.out,Int.toNat_natCast];exact HZ.out⟩,by omega,by omega,by omega,
    (((Row.new _ _ _).alloc _).alloc _).drew,f1,Qm.out,f2,f3,λ_ h=>h,λ_ h=>aH h,λh=>by have:=(HO _ h).2;omega,λh=>by have:=(HO _ h).2;omega,f4⟩
 case rest=>
  obtain⟨xb,ob,dQ,qA,rfl,hX,hV,hne,hx1,hx2,gY,jy,Oc,jc,hW1,N7,Ir,jw,iD,UF⟩:=hcut;have HX:=ae hX;have HV:=ae hV;have ed:=ae gY;have n9:=ae jy;have JB:=ae Oc;have iK:=ae jc;have dG:=ae hW1;have Kj:=ae (And.intro N7 (And.intro Ir UF));have HN:=ae (And.intro jw iD);have sI:=hX.lt;have Z8:=(by obtain⟨_,h,_⟩:=hV;exact h.lt:ob<wc.heap.size)
  clear hX hV gY jy Oc jc hW1 N7 Ir UF jw iD;go_wp2_with fail;go_loopw [6] (λi wr=>∃k:Nat,k<=n/\i= .int .i64 k/\iq wr ob (jk o k)/\Wr (λb=>b=ob) wc wr) (λi _=>n-(intOf i).toNat)
  case atStart=>exact⟨0,by omega,rfl,HV.out,Wr.refl _ _⟩
  case round=>
   obtain⟨k,hk,rfl,EB,hwr⟩:=hrel;have NU:=HX.wr hwr hne;have hbr:=ed.wr hwr (show¬w.heap.size=ob by omega);have Cr:Below ai w wr:=(dG.below kE (λk hk=>by rcases hk with h|h;exact(HO.out k h).1;exact h▸aZ)).trans (hwr.below (by have:=dG.size;omega) (λk hk=>by omega));have c0:wr.cell? ⟨w.heap.size,0,none⟩=some (.int .i64 sz):=hbr.cell (j:=0) rfl;have c2:wr.cell? ⟨w.heap.size,2,none⟩=some (.slice A n aA):=hbr.cell (j:=2) rfl;have d1:wr.cell? ⟨xb,1,none⟩=some (.slice (some ⟨ob,0,none⟩) ct ct):=NU.cell (j:=1) rfl;have fV:=hwr.size;have mK:=ae hwr;by_cases hlt:k<n
   ·obtain⟨b,off,y,rfl,hb,hy,qE,_⟩:=(HL.below Cr (aN _)).get hlt;simp only[Nat.mul_one,Nat.add_zero]at qE;have hkc:k<(jk o k).length:=by rw[xI,vG.out];simp;omega
    have hg:=yK o k (by rw[vG.out];simp;omega);obtain⟨cv,vK,jh⟩:=EB;have e1:=vK.cell (jh.2 k _ hg).2;have e2:=vK.free (k*2+1);have Ej:=ae (show iq wr ob (jk o k)from⟨cv,vK,jh⟩);have HY:=ae hy;have HG:=ae hg;have bA:(k:Int)<(n:Int):=by omega
    have hk2:(k:Int)<(ct:Int):=by omega
    have hbl:b<wr.heap.size:=by have:=Cr.size;omega
    clear vK jh hy hg hwr hkc NU hbr Cr;go_wp2_with fail;refine fB 13 (by kernel_rfl) (by kernel_rfl) ?_;simp only[List.take_succ_cons,List.take_zero,List.drop_succ_cons,List.drop_zero]
    repeat still_step
    still_call ((uP sz y _ Ih).mono λ_ _ h=>⟨h.1,h.2.symm⟩)
    repeat still_step
    try refine wpStill_nil ?_
    go_wp2_with fail;go_roundw
    case rel=>
     refine⟨k+1,by omega,by go_num,?_,?_⟩
     ·have h1:=Ej.Uh k ⟨0,0⟩ (eC sz y) HG.out;have h2:=vA o k (by rw[vG.out];simp;omega);rw[Gs.out,Int.toNat_natCast,List.getD_eq_getElem?_getD,HY.out]at h2;rw[<-h2];exact h1
     ·exact(mK.trans (Wr.cell1 _ _ _ _) (λi h=>aH h)).trans (di (bI _ _).drew) (λi h=>h.elim)
    case measure=>simp[intOf];omega
   ·obtain rfl:k=n:=by omega
    obtain⟨xs,hx,oC⟩:=(n9.wr JB.out hwr (λi hi ho=>HN.1 (hi▸ho))).row;obtain⟨cv,vK,jh⟩:=id EB;have Uz:¬pb=ob:=(by obtain⟨_,h,_⟩:=HV.out;exact iK.ne h HT.1)
    have XR:¬pb=xb:=iK.ne HX.out HT.2;have OI:=iK.wr hwr Uz;have ML:=ae (qC HP.out);have gP:po<cs.size:=qC HP.out;have p0:wr.cell? ⟨pb,po,none⟩=some qA:=OI.cell (by rw[Array.getElem?_setIfInBounds_self_of_lt gP]);have p1:=OI.free po;have d0:wr.cell? ⟨xb,0,none⟩=some (.int .i64 sz):=NU.cell (j:=0) rfl;have d2:wr.cell? ⟨xb,2,none⟩=some (.bool true):=NU.cell (j:=2) rfl;have XS:pb<wr.heap.size:=OI.lt;have hmp:=dY M;obtain⟨A2,gT,UH⟩:∃A2 gT,qA= .slice A2 (au M).length gT:=(by obtain⟨_,h|⟨g,c,cur,h,_⟩⟩:=id hx;exact absurd h.2 (by omega);exact⟨_,_,h⟩)
    obtain⟨i0,hi,hz0,hz1,hz2⟩:=info_parts AE;have HB':=ae Cr;have BQ:=ae OI;have Ej:=ae EB;have Zl:=ae oC;have PE:=ae hx;have Fo:(au M).length<=1000000000:=by omega
    subst UH;clear NU hbr Cr hwr EB vK jh OI hx oC;go_wp2_with fail;have Cc:(Value.slice A2 (au M).length gT).ownBlock≠some pb:=by
     intro e;obtain⟨_,cs',eu⟩:=aC PE.out e;exact eu.ne BQ (λh=>HT.2 h.symm) rfl
    have Io:(Value.slice A2 (au M).length gT).ownBlock≠some xb:=λe=>HN.2 (JB _ e);have Pz:=ae Cc;have VO:=ae Io;clear Cc Io;have UR:∀o,(wr.alloc o).frozen? ⟨pb,po,none⟩=false:=λo=>(BQ.alloc o).free po;have UQ:∀o,(wr.alloc o).drew.frozen? ⟨pb,po,none⟩=false:=λo=>((BQ.alloc o).drew).free po;go_region_law
     ((refine step_append_lies _ (by rfl) _ _ _ (by rfl) ai 116 i0 _ 3 40 underlying78 hi hz0 hz1 hz2 rfl (by omega) _ _ _ (by rfl) (rN PE _) ⟨wr.heap.size,0,none⟩ 1 1 [.int .i64 sz,.slice (some ⟨ob,0,none⟩) ct ct,.bool true] (by rfl) (by rfl) (ny _ _ _ _ rfl) (z6 _ _ _ _ _) (by omega) (by unfold maxLen;omega) (by omega) (by simp;omega) (wr.heap.size+1) (by simp) ?_;intro gg fC w2 hown2 hgrow hat mA;have hq:=((BQ.alloc (.cells #[.int .i64 sz,.slice (some ⟨ob,0,none⟩) ct ct,.bool true] 116)).drew).wr (Wr.grown (F:=λk=>(Value.slice A2 (au M).length gT).ownBlock=some k) hgrow (λk hk=>hk)) Pz.out;have jZ:w2.cell? ⟨pb,po,none⟩=some (.slice A2 (au M).length gT):=hq.cell (by rw[Array.getElem?_setIfInBounds_self_of_lt ML.out]);have Dx:=hq.free po;have HQ:=ae hq;have MN:=ae hgrow;have yT:=ae hown2;have s7:=ae hat;clear hq hgrow hown2 hat))
    all_goals go_wp2_with fail
    all_goals go_ret
    all_goals exact E8 HT.out yR.out yX (by rw[vG.out];simpa using Cj) gX Gs.out vG.out n9.out JB.out iK.out dG.out Kj.1 Kj.2.1 Kj.2.2 hx2 HN.1 mK (by rw[<-yL o,Dd.out];exact Ej.out) PE.out Zl.out MN.out yT.out s7.out mA HQ.out kE aZ hpl HO.out
end Go.Proofs.YtikbdplllopjlaaGreat
