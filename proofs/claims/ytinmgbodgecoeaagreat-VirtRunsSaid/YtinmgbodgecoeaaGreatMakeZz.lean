/- The page's memory: an object is made. Conditions: as stated. -/
import Derived.Test.YtinmgbodgecoeaaGreatQ03Zz
import Derived.Deep.RegionHeld3
import Derived.Deep.RegionLaw
import Derived.Deep.DrawnRows
import Derived.Deep.DeepCutAuto
set_option linter.unusedSimpArgs false
set_option linter.unusedVariables false
set_option maxHeartbeats 8000000
set_option maxRecDepth 100000
open Go.Proofs.Tryz
namespace Go.Proofs.YtinmgbodgecoeaaGreat
open Go.RowKit
attribute [local go_sem ↓] Go.wp_at_zero Go.wp_at_succ
theorem Ox{cs:Array Value}{j:Nat}{v:Value}(h:cs[j]? =some v):cs.setIfInBounds j v=cs:=by
 apply Array.ext_getElem?;intro i;by_cases e:j=i
 ·subst e;rw[Array.getElem?_setIfInBounds_self,h];have:j<cs.size:=by
   rcases Nat.lt_or_ge j cs.size with h'|h'
   ·exact h'
   ·rw[Array.getElem?_eq_none h']at h;cases h
  simp[this]
 ·rw[Array.getElem?_setIfInBounds_ne e]
theorem rC{cs:Array Value}{j:Nat}{v:Value}(h:cs[j]? =some v):j<cs.size:=by
 rcases Nat.lt_or_ge j cs.size with h'|h'
 ·exact h'
 ·rw[Array.getElem?_eq_none h']at h;cases h
theorem AO:(prog.info? 116).map (λi=>(i.zero,i.size,i.bytes))=some (some (.agg #[.int .i64 0,.slice none 0 0,.bool false]),3,40):=by kernel_rfl
theorem tu{w:World}{ai:Nat}{e:TypeId}{size:Nat}{v:Value}{n:Nat}{xs:List Value}(h:w.ownsRow ai e size v n xs)(o:Obj):(w.alloc o).drew.ownsRow ai e size v n xs:=
 aF h (eW (ax w o).drew) (λ_ _ h=>h)
theorem o6(w:World)(cs:List Value)(t:TypeId)(r:Nat)(hr:r=w.heap.size):∀(j:Nat)(u:Value),cs[j]? =some u->(w.alloc (.cells cs.toArray t)).drew.cell? ((⟨r,0,none⟩:Addr).add j)=some u:=by
 subst hr;intro j u hj;rw[wY];exact(Row.new w cs.toArray t).drew.cell (by simpa using hj)
theorem Jp(w:World)(cs:List Value)(t:TypeId)(r:Nat)(hr:r=w.heap.size):∀(j:Nat)(u:Value),cs[j]? =some u->(w.alloc (.cells cs.toArray t)).cell? ((⟨r,0,none⟩:Addr).add j)=some u:=o6 w cs t r hr
theorem OO{w:World}{ai:Nat}{e:TypeId}{size:Nat}{v:Value}{n:Nat}{xs:List Value}(h:w.ownsRow ai e size v n xs)(o o':Obj):((w.alloc o).alloc o').ownsRow ai e size v n xs:=
 aF h (eW (aB w o o')) (λ_ _ h=>h)
theorem zV(a:Int)(v:Option Addr)(n m:Nat)(b:Bool):∀u:Value,u∈[Value.int .i64 a,.slice v n m,.bool b]->u.oneCell'=true:=by
 intro u hu;simp at hu;rcases hu with rfl|rfl|rfl<;>rfl
def xg(ai:Nat)(own:Nat->Prop)(pb po:Nat)(cs:Array Value)(t:TypeId)(M:List MO)(o:kH)(w:World)(e:Ending)(w':World):Prop:=
 e= .returned (.int .i64 (au M).length)/\∃(own':Nat->Prop)(iL:Value)(NV:Nat->Nat),(∀k,own k->own' k)/\(∀k,own' k->own k\/w.heap.size<=k)/\(∀k,own' k->k<w'.heap.size)/\
  qg w' ai own' iL NV (gP M o)/\(∀g,iL.ownBlock=some g->own' g)/\Row w' pb (cs.setIfInBounds po iL) t/\Wr (λk=>own k\/k=pb) w w'
theorem Gi{w wc wr w2:World}{ai pb po ob ct sz gg cap2 fJ:Nat}{own df:Nat->Prop}{cs:Array Value}{t:TypeId}{M:List MO}{o:kH}{rb:Nat->Nat}{A2:Option Addr}{xs:List Value}{X:Obj}
  (ht:t≠75/\t≠116)(hsz:o.size=1\/o.size=2\/o.size=4\/o.size=8)(hin:∀x,x∈o.init->In64 x)(hc:o.count.toNat<=64)(jk:(au M).length+1<=1000000000)(hsz':o.size=sz)(hct:o.count=ct)
  (EC:qg wc ai df (.slice A2 (au M).length cap2) rb (au M))(hmo:∀g,(Value.slice A2 (au M).length cap2).ownBlock=some g->df g)(hR1:Row wc pb (cs.setIfInBounds po (.slice A2 (au M).length cap2)) t)
  (hW1:Wr (λk=>own k\/k=pb) w wc)(ho1:∀k,own k->df k)(ho2:∀k,df k->own k\/w.heap.size<k)(UY:∀k,df k->k<wc.heap.size)(ja:w.heap.size<ob)(Ki:¬df ob)(hwr:Wr (λb=>b=ob) wc wr)(hV:iG wr ob (mN o))
  (hx:wr.ownsRow ai 116 3 (.slice A2 (au M).length cap2) (au M).length xs)(qO:∀k x,(au M)[k]? =some x->uA xs rb k x)
  (hg:(wr.alloc X).drew.grownBy w2 (Value.slice A2 (au M).length cap2).ownBlock)(hown2:w2.ownsRow ai 116 3 (.slice (some ⟨gg,0,none⟩) ((au M).length+1) fJ) ((au M).length+1) (xs++[.int .i64 sz,.slice (some ⟨ob,0,none⟩) ct ct,.bool true]))
  (hat:(Value.slice A2 (au M).length cap2).ownBlock=some gg\/gg=wr.heap.size+1)(hlt2:gg<w2.heap.size)(hq:Row w2 pb (cs.setIfInBounds po (.slice A2 (au M).length cap2)) t)(hbs:ai<=w.heap.size)(hpb:ai<=pb)(hpl:pb<w.heap.size)(hown:∀k,own k->ai<=k/\k<w.heap.size):
  xg ai own pb po cs t M o w (.returned (.int .i64 (au M).length)) (w2.setCell ⟨pb,po,none⟩ (.slice (some ⟨gg,0,none⟩) ((au M).length+1) fJ)):=by
 have hMr:=EC.wr hmo hwr (λk hk ho=>Ki (hk▸ho));have hmp:=cZ M;have hz1:=hW1.size;have hz2:=hwr.size;have hz3:=hg.size;simp only[World.size_drew,World.size_alloc]at hz3;have Po:∀g,(Value.slice A2 (au M).length cap2).ownBlock=some g->∃cs',Row wr g cs' 116:=λg h=>(aC hx h).2;have DD:Wr (λk=>(Value.slice A2 (au M).length cap2).ownBlock=some k) (wr.alloc X).drew w2:=Wr.grown hg (λk hk=>hk);have hws:=Wr.cell1 w2 pb po (.slice (some ⟨gg,0,none⟩) ((au M).length+1) fJ);have Tu:∀g l,iG wr g l->iG (w2.setCell ⟨pb,po,none⟩ (.slice (some ⟨gg,0,none⟩) ((au M).length+1) fJ)) g l:=by
  rintro g l ⟨cv,hr,hv⟩;have h1:Row w2 g cv 75:=((hr.alloc X).drew).wr DD (λh=>by obtain⟨cs',h'⟩:=Po g h;exact hr.ne h' (by decide) rfl);exact⟨cv,h1.wr hws (λh=>h1.ne hq (λh=>ht.1 h.symm) h),hv⟩
 have hok:=vO EC.ok;have hmok:cQ (gP M o):=by
  have h:=uL (M:=M);have hb:=EC.ok;rw[j4];have h3:=vO hb o hsz hc hin (by
   have:au (au M)=au M:=by unfold au;split<;>simp_all
   rw[this];omega)
  rw[j4]at h3;have:au (au M)=au M:=by unfold au;split<;>simp_all
  rw[this]at h3;exact h3
 have hfl:(mN o).length=ct:=by simp[mN,hct]
 refine⟨rfl,λk=>df k\/k=ob\/k=gg,.slice (some ⟨gg,0,none⟩) ((au M).length+1) fJ,λk=>if k=(au M).length then ob else rb k,λk hk=>aK (ho1 k hk),λk hk=>?_,λk hk=>?_,?_,λg h=>?_,?_,?_⟩
 ·rcases hk with hk|rfl|rfl
  ·rcases ho2 k hk with h|h
   ·exact aK h
   ·exact bu (by omega)
  ·exact bu (by omega)
  ·rcases hat with h|h
   ·rcases ho2 _ (hmo _ h)with h|h
    ·exact aK h
    ·exact bu (by omega)
   ·exact bu (by omega)
 ·simp only[World.size_setCell];rcases hk with hk|rfl|rfl
  ·have:=UY k hk;omega
  ·obtain⟨_,h,_⟩:=hV;have:=h.lt;omega
  ·exact hlt2
 ·refine qg.push (M:=au M) (o:=⟨o.size,mN o,true⟩) hMr hmp qO ?_ ?_ (λk x hk hx'=>Tu _ _ (hMr.mine k x hk hx').2) (Tu _ _ hV) Ki (λk hk=>aK hk) (bu (aK rfl)) hmok
  ·exact hx.1
  ·simp only[hfl,hsz'];exact aF hown2 hws (λg h h'=>by obtain⟨_,cs',hr⟩:=aC hown2 h;exact hr.ne hq (λh=>ht.2 h.symm) h')
 ·simp only[Value.ownBlock,Option.some.injEq]at h;exact bu (bu h.symm)
 ·have:=hq.set po (.slice (some ⟨gg,0,none⟩) ((au M).length+1) fJ);rw[Array.setIfInBounds_setIfInBounds]at this;exact this
 ·refine(((hW1.trans hwr (λi hi=>bu (by omega))).trans (eW (ax wr X).drew) (λi hi=>hi.elim)).trans DD (λi hi=>?_)).trans hws (λi hi=>aK (bu hi));rcases ho2 i (hmo i hi)with h|h
  ·exact aK (aK h)
  ·exact bu (by omega)
theorem MF(pb po ai:Nat)(own:Nat->Prop)(aU:Value)(rb:Nat->Nat)(M:List MO)(cs:Array Value)(t:TypeId)(o:kH)(ct:Nat)(A:Option Addr)(n aA:Nat)(w:World)
  (hR:Row w pb cs t)(hp:cs[po]? =some aU)(ht:t≠75/\t≠116)(hM:qg w ai own aU rb M)(hmo:∀g,aU.ownBlock=some g->own g)(hown:∀k,own k->ai<=k/\k<w.heap.size)(hbs:ai<=w.heap.size)(hpb:ai<=pb)
  (hct:o.count=ct)(Km:1<=ct)(C3:ct<=64)(hn:n<=ct)(hl:aD w ai o.init (.slice A n aA))(hsz:o.size=1\/o.size=2\/o.size=4\/o.size=8)(hin:∀x,x∈o.init->In64 x)(jk:(au M).length+1<=1000000000)(TK:M≠[]):
  Calls prog 31 #[.pointer (some ⟨pb,po,none⟩),.agg #[.int .i64 o.size,.int .i64 ct,.slice A n aA]] w λe w'=>xg ai own pb po cs t M o w e w':=by
 have hpl:=hR.lt;have HR:=ae hR;have HO:=ae hown;have TP:=ae hmo;have HP:=ae hp;have HT:=ae ht;obtain⟨sz,hsz',hsz0⟩:∃sz:Nat,o.size=sz/\(sz=1\/sz=2\/sz=4\/sz=8):=(by rcases hsz with h|h|h|h;exact⟨1,h,by omega⟩;exact⟨2,h,by omega⟩;exact⟨4,h,by omega⟩;exact⟨8,h,by omega⟩)
 have HL:=ae hl;have yF:=hl.len;have x9:=ae yF.1;have Fl:=ae hsz;have vC:=ae hin;have HM:=ae hM;have Dl:=ae hct;have IB:=ae hsz';rw[hsz'];have HNS:=ae (show∀k,own k->k≠w.heap.size/\k<w.heap.size from λk hk=>by have:=hown k hk;omega);obtain⟨xs,hx,qO⟩:=hM.row;have uQ:0<M.length:=by cases M with|nil=>exact absurd rfl TK|cons a l=>simp
 have hmb:au M=M:=by unfold au;rw[if_neg TK]
 obtain⟨A1,fK,hmv⟩:∃A1 fK,aU= .slice A1 M.length fK:=(by obtain⟨_,h|⟨g,c,cur,h,_⟩⟩:=hx;exact absurd h.2 (by omega);exact⟨_,_,h⟩)
 subst hmv;have p0:w.cell? ⟨pb,po,none⟩=some (.slice A1 M.length fK):=hR.cell hp;have hm1:((M.length:Int)==0)=false:=by simp;omega
 have CH:=ae hmb;clear hM TK hR hp ht hmo hown hx qO hmb hct hl yF hsz hin hsz';obtain⟨Z,hZ,hmk⟩:=o8 ct (by omega);have HZ:=ae hZ;clear hZ;go_enter func31,ntmps31;go_upto_region 3 with fail;go_cut [5] (λv5 wx=>∃(xb ob:Nat)(df:Nat->Prop)(rB:Value),v5= .pointer (some ⟨xb,0,none⟩)/\Row wx xb #[.int .i64 sz,.slice (some ⟨ob,0,none⟩) ct ct,.bool true] 116/\iG wx ob (ku o 0)/\¬xb=ob/\w.heap.size<xb/\w.heap.size<ob/\
   Row wx w.heap.size #[.int .i64 sz,.int .i64 ct,.slice A n aA] 90/\qg wx ai df rB rb (au M)/\(∀g,rB.ownBlock=some g->df g)/\Row wx pb (cs.setIfInBounds po rB) t/\Wr (λk=>own k\/k=pb) w wx/\(∀k,own k->df k)/\(∀k,df k->own k\/w.heap.size<k)/\¬df ob/\¬df xb/\(∀k,df k->k<wx.heap.size))
 case first=>
  go_region
  all_goals go_wp2_with fail
  all_goals go_meet
  all_goals
   have hfin:∀wx,Below w.heap.size w wx->qg wx ai own (.slice A1 M.length fK) rb (au M)/\Row wx pb (cs.setIfInBounds po (.slice A1 M.length fK)) t/\Wr (λk=>own k\/k=pb) w wx/\(∀k,own k->k<wx.heap.size):=λwx hb=>
    ⟨CH.symm▸HM.wr TP (eW hb) (λ_ h=>h.elim),(Ox HP.out).symm▸HR.below hb hpl,Wr.of_below hb,λk hk=>by have:=(HO.out k hk).2;have:=hb.size;omega⟩
  ·obtain⟨f1,f2,f3,f4⟩:=hfin _ ((aN w (.cells #[.int .i64 sz,.int .i64 ct,.slice A n aA] 90) (.cells Z 75) (.cells #[.int .i64 sz,.slice (some ⟨w.heap.size+1,0,none⟩) ct ct,.bool true] 116)).drew);exact⟨w.heap.size+1+1,w.heap.size+1,own,.slice A1 M.length fK,rfl,(Row.new' _ _ (by simp)).drew,⟨Z,((Row.new' _ _ (by simp)).alloc _).drew,by rw[pL,Dl.out,Int.toNat_natCast];exact HZ.out⟩,by omega,by omega,by omega,
    (((Row.new _ _ _).alloc _).alloc _).drew,f1,TP.out,f2,f3,λ_ h=>h,λ_ h=>aK h,λh=>by have:=(HO _ h).2;omega,λh=>by have:=(HO _ h).2;omega,f4⟩
  ·obtain⟨f1,f2,f3,f4⟩:=hfin _ ((aN w (.cells #[.int .i64 sz,.int .i64 ct,.slice A n aA] 90) (.cells #[.int .i64 sz,.slice (some ⟨w.heap.size+1+1,0,none⟩) ct ct,.bool true] 116) (.cells Z 75)).drew);exact⟨w.heap.size+1,w.heap.size+1+1,own,.slice A1 M.length fK,rfl,((Row.new' _ _ (by simp)).alloc _).drew,⟨Z,(Row.new' _ _ (by simp)).drew,by rw[pL,Dl.out,Int.toNat_natCast];exact HZ.out⟩,by omega,by omega,by omega,
    (((Row.new _ _ _).alloc _).alloc _).drew,f1,TP.out,f2,f3,λ_ h=>h,λ_ h=>aK h,λh=>by have:=(HO _ h).2;omega,λh=>by have:=(HO _ h).2;omega,f4⟩
 case rest=>
  obtain⟨xb,ob,df,rB,rfl,hX,hV,hne,hx1,hx2,kJ,EC,PC,hR1,hW1,ho1,ho2,rT,GH,UY⟩:=hcut;have HX:=ae hX;have HV:=ae hV;have cS:=ae kJ;have LL:=ae EC;have K4:=ae PC;have oY:=ae hR1;have uo:=ae hW1;have LK:=ae (And.intro ho1 (And.intro ho2 UY));have HN:=ae (And.intro rT GH);have hxl:=hX.lt;have hol:=(by obtain⟨_,h,_⟩:=hV;exact h.lt:ob<wc.heap.size)
  clear hX hV kJ EC PC hR1 hW1 ho1 ho2 UY rT GH;go_wp2_with fail;go_loopw [6] (λi wr=>∃k:Nat,k<=n/\i= .int .i64 k/\iG wr ob (ku o k)/\Wr (λb=>b=ob) wc wr) (λi _=>n-(intOf i).toNat)
  case atStart=>exact⟨0,by omega,rfl,HV.out,Wr.refl _ _⟩
  case round=>
   obtain⟨k,hk,rfl,Fk,hwr⟩:=hrel;have Gw:=HX.wr hwr hne;have hbr:=cS.wr hwr (show¬w.heap.size=ob by omega);have hB':Below ai w wr:=(uo.below hbs (λk hk=>by rcases hk with h|h;exact(HO.out k h).1;exact h▸hpb)).trans (hwr.below (by have:=uo.size;omega) (λk hk=>by omega));have c0:wr.cell? ⟨w.heap.size,0,none⟩=some (.int .i64 sz):=hbr.cell (j:=0) rfl;have c2:wr.cell? ⟨w.heap.size,2,none⟩=some (.slice A n aA):=hbr.cell (j:=2) rfl;have d1:wr.cell? ⟨xb,1,none⟩=some (.slice (some ⟨ob,0,none⟩) ct ct):=Gw.cell (j:=1) rfl;have pS:=hwr.size;have tN:=ae hwr;by_cases hlt:k<n
   ·obtain⟨b,off,y,rfl,hb,hy,hy0,_⟩:=(HL.below hB' (aY _)).get hlt;simp only[Nat.mul_one,Nat.add_zero]at hy0;have hkc:k<(ku o k).length:=by rw[wM,Dl.out];simp;omega
    have hg:=xU o k (by rw[Dl.out];simp;omega);obtain⟨cv,yD,gT⟩:=Fk;have e1:=yD.cell (gT.2 k _ hg).2;have e2:=yD.free (k*2+1);have KY:=ae (show iG wr ob (ku o k)from⟨cv,yD,gT⟩);have HY:=ae hy;have HG:=ae hg;have hk1:(k:Int)<(n:Int):=by omega
    have hk2:(k:Int)<(ct:Int):=by omega
    have hbl:b<wr.heap.size:=by have:=hB'.size;omega
    clear yD gT hy hg hwr hkc Gw hbr hB';go_wp2_with fail;refine nI 13 (by kernel_rfl) (by kernel_rfl) ?_;simp only[List.take_succ_cons,List.take_zero,List.drop_succ_cons,List.drop_zero]
    repeat still_step
    still_call ((uF sz y _ hsz0).mono λ_ _ h=>⟨h.1,h.2.symm⟩)
    repeat still_step
    try refine wpStill_nil ?_
    go_wp2_with fail;go_roundw
    case rel=>
     refine⟨k+1,by omega,by go_num,?_,?_⟩
     ·have h1:=KY.Uy k ⟨0,0⟩ (eA sz y) HG.out;have h2:=uT o k (by rw[Dl.out];simp;omega);rw[IB.out,Int.toNat_natCast,List.getD_eq_getElem?_getD,HY.out]at h2;rw[<-h2];exact h1
     ·exact(tN.trans (Wr.cell1 _ _ _ _) (λi h=>aK h)).trans (eW (aV _ _).drew) (λi h=>h.elim)
    case measure=>simp[intOf];omega
   ·obtain rfl:k=n:=by omega
    obtain⟨xs,hx,qO⟩:=(LL.wr K4.out hwr (λi hi ho=>HN.1 (hi▸ho))).row;obtain⟨cv,yD,gT⟩:=id Fk;have UT:¬pb=ob:=(by obtain⟨_,h,_⟩:=HV.out;exact oY.ne h HT.1)
    have Zf:¬pb=xb:=oY.ne HX.out HT.2;have PY:=oY.wr hwr UT;have NK:=ae (rC HP.out);have hpos:po<cs.size:=rC HP.out;have p0:wr.cell? ⟨pb,po,none⟩=some rB:=PY.cell (by rw[Array.getElem?_setIfInBounds_self_of_lt hpos]);have p1:=PY.free po;have d0:wr.cell? ⟨xb,0,none⟩=some (.int .i64 sz):=Gw.cell (j:=0) rfl;have d2:wr.cell? ⟨xb,2,none⟩=some (.bool true):=Gw.cell (j:=2) rfl;have Si:pb<wr.heap.size:=PY.lt;have hmp:=cZ M;obtain⟨A2,cap2,U1⟩:∃A2 cap2,rB= .slice A2 (au M).length cap2:=(by obtain⟨_,h|⟨g,c,cur,h,_⟩⟩:=id hx;exact absurd h.2 (by omega);exact⟨_,_,h⟩)
    obtain⟨i0,hi,hz0,hz1,hz2⟩:=info_parts AO;have HB':=ae hB';have rI:=ae PY;have KY:=ae Fk;have HOX:=ae qO;have QK:=ae hx;have hmn:(au M).length<=1000000000:=by omega
    subst U1;clear Gw hbr hB' hwr Fk yD gT PY hx qO;go_wp2_with fail;have Gy:(Value.slice A2 (au M).length cap2).ownBlock≠some pb:=by
     intro e;obtain⟨_,cs',hr'⟩:=aC QK.out e;exact hr'.ne rI (λh=>HT.2 h.symm) rfl
    have Pq:(Value.slice A2 (au M).length cap2).ownBlock≠some xb:=λe=>HN.2 (K4 _ e);have IC:=ae Gy;have NJ:=ae Pq;clear Gy Pq;have U7:∀o,(wr.alloc o).frozen? ⟨pb,po,none⟩=false:=λo=>(rI.alloc o).free po;have U6:∀o,(wr.alloc o).drew.frozen? ⟨pb,po,none⟩=false:=λo=>((rI.alloc o).drew).free po;go_region_law
     ((refine step_append_lies _ (by rfl) _ _ _ (by rfl) ai 116 i0 _ 3 40 underlying82 hi hz0 hz1 hz2 rfl (by omega) _ _ _ (by rfl) (tu QK _) ⟨wr.heap.size,0,none⟩ 1 1 [.int .i64 sz,.slice (some ⟨ob,0,none⟩) ct ct,.bool true] (by rfl) (by rfl) (o6 _ _ _ _ rfl) (zV _ _ _ _ _) (by omega) (by unfold maxLen;omega) (by omega) (by simp;omega) (wr.heap.size+1) (by simp) ?_;intro gg fJ w2 hown2 hgrow hat hlt2;have hq:=((rI.alloc (.cells #[.int .i64 sz,.slice (some ⟨ob,0,none⟩) ct ct,.bool true] 116)).drew).wr (Wr.grown (F:=λk=>(Value.slice A2 (au M).length cap2).ownBlock=some k) hgrow (λk hk=>hk)) IC.out;have hq1:w2.cell? ⟨pb,po,none⟩=some (.slice A2 (au M).length cap2):=hq.cell (by rw[Array.getElem?_setIfInBounds_self_of_lt NK.out]);have hq2:=hq.free po;have HQ:=ae hq;have NP:=ae hgrow;have x8:=ae hown2;have uw:=ae hat;clear hq hgrow hown2 hat))
    all_goals go_wp2_with fail
    all_goals go_ret
    all_goals exact Gi HT.out Fl.out vC (by rw[Dl.out];simpa using C3) jk IB.out Dl.out LL.out K4.out oY.out uo.out LK.1 LK.2.1 LK.2.2 hx2 HN.1 tN (by rw[<-xV o,x9.out];exact KY.out) QK.out HOX.out NP.out x8.out uw.out hlt2 HQ.out hbs hpb hpl HO.out
end Go.Proofs.YtinmgbodgecoeaaGreat
