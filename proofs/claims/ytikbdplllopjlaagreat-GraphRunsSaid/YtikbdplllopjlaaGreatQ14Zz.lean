/- The page's machine: a call whose value is let go. Conditions: as stated. The page's machine: a call whose value is kept. Conditions: as stated. The page's machine: every step. Conditions: as stated. The page's machine: a call that is too deep. Conditions: as stated. The page's machine: a call's locals are no more, one by one. Conditions: as stated. -/
import Derived.Test.YtikbdplllopjlaaGreatQ13Zz
import Derived.Test.YtikbdplllopjlaaGreatDoesGetBZz
set_option linter.unusedVariables false
set_option linter.unusedSimpArgs false
set_option maxHeartbeats 8000000
set_option maxRecDepth 100000
open Go.Proofs.Tryz
namespace Go.Proofs.YtikbdplllopjlaaGreat
open Go.RowKit
theorem Cw(ai mc:Nat)(own:Nat->Prop)(P:Value×Value×Value)(ah:Int)(s:St)(fb tb:Nat)(G:Value×Value×Value×Value)(tp:List V)(lv:Value)(lo:List Nat)(ng:Nat)(R:cC)(op dst size fn:Int)(ks:List T)(A:Option Addr)(n aA:Nat)(w:World)
  (hM:cN w ai mc own P ah s)(cA:s.kind=0)(hs0:0<=s.steps)(hs1:s.steps<=ah)(hf:ah<=1000000000)(hF:bM w fb G tb tp lv lo)(hO:mG ai own fb tb lv)(kM:dW (au s.mem) tp lo ng)(hT:fY tp.length lo.length ng ks)(hk:bC w ai ks A n)(iD:n<=1000)
  (rE:e9 ks)(hy:(aW ah 1 s).1=true)(cu:∃l,aD s.mem tp lo ks=some l)(hop:op=3)(dF:∀(W:World)(AA:Option Addr)(an fX:Nat)(l:List V),Below ai w W->cN W ai mc own P ah {s with steps:=s.steps+1}->aD s.mem tp lo ks=some l->l.length=an->(∀j v,l[j]? =some v->∃b off,AA=some ⟨b,off,none⟩/\b<W.heap.size/\¬own b/\bg W b (off+j*2) v)->Calls prog 30 #[.pointer (some ⟨mc,0,none⟩),.int .i64 fn,.slice AA an fX] W λe w'=>gC ai mc own P ah (R fn l {s with steps:=s.steps+1}) W e w')(hdst:dst= -1)(hR:∀l,aD s.mem tp lo ks=some l->∃v s5,R fn l {s with steps:=s.steps+1}=(some v,s5)):
  Calls prog 52 #[.pointer (some ⟨mc,0,none⟩),.pointer (some ⟨fb,0,none⟩),.agg #[.int .i64 op,.int .i64 dst,.int .i64 size,.int .i64 fn,.slice A n aA]] w λe w'=>cX ai mc own P ah fb tb G lv lo (bu R ah lo s tp ⟨op,dst,size,fn,ks⟩) w e w':=by
 subst hop;subst hdst;have HOW:=ae (show∀i,own i->i<w.heap.size from λi hi=>by obtain⟨_,_,_,_,h⟩:=hM;exact(h.rest.own i hi).2);have jY:=ae dF;have HR:=ae hR;clear dF hR;obtain⟨qE,pU,iY⟩:=cO hy;have hm:own mc:=(by obtain⟨_,_,_,_,h⟩:=hM;exact h.mine)
 have sV:=(by obtain⟨_,_,_,_,h⟩:=hM;exact h.rest.own mc h.mine:ai<=mc/\mc<w.heap.size)
 have oF:e9 ks:=rE;have HST:=ae (λW(hb:Below w.heap.size w W)=>(iY▸hy▸eD ai mc own P ah 1 s W (hM.below hb) hs0 hs1 hf (by omega) (by omega):Calls prog 51 #[.pointer (some ⟨mc,0,none⟩),.int .i64 1] W λe w'=>e= .returned (.bool true)/\cN w' ai mc own P ah {s with steps:=s.steps+1}/\Wr (λb=>b=mc) W w'));have xT:=ae cA;have HF:=ae hF;have HO:=ae hO;have zY:=ae kM;have HT:=ae hT;have HK:=ae hk;have nZ:=ae oF;have hB:ai<=w.heap.size:=by omega
 have MU:=hk.2.1;have qh:=ae cu;clear cu;have sY:=ae iY;have HY:=ae hy;have fG:=ae hm;obtain⟨ve,u9⟩:=sV;clear hM cA hF hO kM hT hk hy qE pU iY hm rE oF hs0 hs1;go_enter func52,ntmps52;go_wp2_with(go_at_call 51;refine(HST _ (aj _ _)).mono ?_;rintro e w1 ⟨rfl,jy,bT⟩;have n9:=ae jy;have dG:=ae bT;have hz1:w.heap.size+1<=w1.heap.size:=(by have:=bT.size;simpa using this);clear jy bT);have iL:=ae (show Row w1 w.heap.size #[.int .i64 3,.int .i64 (-1),.int .i64 size,.int .i64 fn,.slice A n aA] 96 from(Row.new w _ _).wr dG (show¬w.heap.size=mc by omega));have bn:=ae (show Below ai w w1 from((aj w _).mono hB).trans (dG.below (by simp;omega) (λk hk=>by omega)))
 have jB:=ae (show bM w1 fb G tb tp lv lo from(HF.below (aj _ _)).wr dG (λe=>HO.fb.1 (by rw[e];exact fG.out)) (λe=>HO.tb.1 (by rw[e];exact fG.out)) (λg hg e=>(HO.lv g hg).1 (by rw[e];exact fG.out)));have iw:=ae (HK.below bn (aN _));go_loopw [7,8] (λv i wr=>∃(k:Nat)(l:List V),k<=n/\i= .int .i64 k/\aD s.mem tp lo (ks.take k)=some l/\wr.ownsRow w1.heap.size 72 2 v k (bV l)/\Below w1.heap.size w1 wr) (λ_ i _=>n-(intOf i).toNat)
 case atStart=>exact⟨0,[],by omega,rfl,by simp[aD],World.ownsRow_nil _ _ _ _,bI _ _⟩
 case round=>
  obtain⟨k,l,hk,rfl,cu,hown,bR⟩:=hrel;have hz2:=bR.size;have hz3:w.heap.size<wr.heap.size:=by omega
  have dw:=iL.below bR (by omega);have c0:wr.cell? ⟨w.heap.size,0,none⟩=some (.int .i64 3):=dw.cell (j:=0) rfl;have c1:wr.cell? ⟨w.heap.size,1,none⟩=some (.int .i64 (-1)):=dw.cell (j:=1) rfl;have c2:wr.cell? ⟨w.heap.size,2,none⟩=some (.int .i64 size):=dw.cell (j:=2) rfl;have c3:wr.cell? ⟨w.heap.size,3,none⟩=some (.int .i64 fn):=dw.cell (j:=3) rfl;have c4:wr.cell? ⟨w.heap.size,4,none⟩=some (.slice A n aA):=dw.cell (j:=4) rfl;clear dw;have kB:=ae (n9.below bR);have iy:=ae (jB.below bR);have iV:ai<=w1.heap.size:=by omega
  by_cases hlt:k<n
  ·obtain⟨b,off,t,v0,v1,v2,rfl,hb,bA,k0,k1,k2,ht⟩:=(iw.below (bR.mono iV) (aN _)).get hlt;have gF:=(by obtain⟨_,_,_,_,h⟩:=kB.out;exact h.rest.mem.ok:b9 s.mem)
   have HC:=ae (eU t.size t ai mc own P ah {s with steps:=s.steps+1} fb tb G tp lv lo ng wr v0 v1 v2 (aN _) kB.out xT.out iy.out gF zY (HT.get bA) ht);have og:=ae bA;have eY:(k:Int)<(n:Int):=by omega
   have HE:=ae cu;have HW:=ae hown;have HX:=ae bR;have bG:l.length=k:=by
    have:=aK cu;rw[List.length_take,HK.1]at this;omega
   clear bA ht cu hown bR gF;cases hv:bZ s.mem tp lo t with
   |none=>
    exact absurd (cI og.out hv) (by rw[qh.choose_spec];simp)
   |some v=>
    rw[hv]at HC;obtain⟨i0,hi,hz0,jg,lK⟩:=info_parts dK;go_wp2_with fail;refine HC.mono ?_;rintro e w2 ⟨rfl,hb1⟩;simp only[aI];have hz:=hb1.size;have hown1:=(aB HW (di hb1) (λ_ _ h=>h))
    go_wp2_with(at_builtin;refine wpList_append_own _ rfl (.tmp 37) (.tmp 39) 67 rfl w1.heap.size 72 i0 (.agg #[.int .i64 0,.int .i64 0]) 2 16 underlying67 hi hz0 jg lK rfl (by decide) _ _ _ rfl ((hown1.alloc _).alloc _) ⟨w2.heap.size+1,0,none⟩ 1 1 [.int .i64 v.obj,.int .i64 v.n] rfl rfl ?c1 ?c2 ?c3 ?c4 ?c5 ?_)
    case c1=>exact cK _ _ _ _ _ (by simp)
    case c2=>exact dS _ _
    case c3=>have:=iD;unfold maxLen;omega
    case c4=>have:=iD;omega
    case c5=>simp;omega
    ·intro v' w3 hown2 hgrow _;have bL:=ae ((((HX.trans (hb1.mono (show w1.heap.size<=wr.heap.size from by omega))).alloc (by omega) _).alloc (by simp;omega) _).grown hgrow (by simp;omega) (λg hg=>(HW.lt g hg).1));have rq:=ae hown2;clear hown2 hgrow hown1 hb1;go_wp2_with fail;go_roundw
     case rel=>exact⟨k+1,l++[v],by omega,by go_num,cE HE.out og.out hv,by rw[bP];exact rq.out,bL.out⟩
     case measure=>simp[intOf];omega
  ·obtain rfl:k=n:=by omega
   rw[show ks.take k=ks from by rw[<-HK.1,List.take_length]]at cu;have bG:l.length=k:=by rw[aK cu,HK.1]
   have HE:=ae cu;have HW:=ae hown;have HX:=ae bR;clear cu hown bR;obtain⟨AA,fX,Q0⟩:=yu HW.out;subst Q0;have FD:=aj wr (.cells #[.int .i64 0,.int .i64 0] 72);have ed:=ae FD;have MZ:Below ai w (wr.alloc (.cells #[.int .i64 0,.int .i64 0] 72)):=bn.trans ((HX.trans (FD.mono hz2)).mono (by omega));have hown1:∀i,own i->i<w1.heap.size:=λi hi=>by obtain⟨_,_,_,_,h⟩:=n9.out;exact(h.rest.own i hi).2
   have eF:∀(j:Nat)(u:V),l[j]? =some u->∃b off,AA=some ⟨b,off,none⟩/\b<(wr.alloc (.cells #[.int .i64 0,.int .i64 0] 72)).heap.size/\¬own b/\bg (wr.alloc (.cells #[.int .i64 0,.int .i64 0] 72)) b (off+j*2) u:=λj u hj=>by
    have J2:0<k:=by
     rw[<-bG];rcases Nat.eq_zero_or_pos l.length with h|h
     ·rw[List.eq_nil_of_length_eq_zero h]at hj;simp at hj
     ·exact h
    obtain⟨g,gc,hg,hg0,hg1,sJ⟩:=bQ HW.out bG J2;injection hg with hg;refine⟨g,0,hg,by simp;omega,λho=>by have:=hown1 g ho;omega,?_⟩;have:=(sJ j u hj).below FD hg1;simpa using this
   have Kp:=ae (jY (wr.alloc (.cells #[.int .i64 0,.int .i64 0] 72)) AA k fX l MZ (kB.below FD) HE.out bG eF);have BQ:=ae (HR.out l HE.out);clear FD MZ hown1 eF bG;obtain⟨rv,s5,OJ⟩:=BQ.out;rw[OJ]at Kp;have M3:=ae OJ;clear OJ;have Ci:¬own wr.heap.size:=λh=>by have:=HOW _ h;omega
   have Oa:¬own w.heap.size:=λh=>by have:=HOW _ h;omega
   have HN11:=ae Ci;have VL:=ae ((iL.below HX (by omega)).below ed (by omega));go_wp2_with fail;refine Kp.mono ?_;rintro e w5 ⟨rfl,pP,Tr,Ey,rV,lC⟩;simp only[aI];have QS:=lC.size;simp only[World.size_alloc]at QS;have xu:=(Row.new wr #[.int .i64 0,.int .i64 0] 72).wr lC Ci;have Fi:=VL.wr lC Oa;have d1:w5.cell? ⟨w.heap.size,1,none⟩=some (.int .i64 (-1)):=Fi.cell (j:=1) rfl;have dl:=Fi.lt;have e0:=xu.cell (j:=0) rfl;have e1:=xu.cell (j:=1) rfl;have ef0:=xu.free 0;have ef1:=xu.free 1;have el:=xu.lt;have yV:=ae rV;have qM:=ae lC;have Y6:=ae Tr;have Pw:=ae Ey;have HF5:=ae ((iy.below ed.out).wr lC HO.fb.1 HO.tb.1 (λg hg=>(HO.lv g hg).1))
   have HO5:=ae (show¬pP wr.heap.size from λh=>by rcases Ey _ h with h|h;exact Ci h;simp only[World.size_alloc]at h;omega);have tq:fb<wr.heap.size:=iy.row.lt;have uY:tb<wr.heap.size:=by obtain⟨_,hr,_⟩:=iy.ay;exact hr.lt
   have jb:∀g,lv.ownBlock=some g->g<wr.heap.size:=λg hg=>by obtain⟨_,cs,hr⟩:=aC iy.az hg;exact hr.lt
   have HLL:=ae jb;clear rV lC Tr Ey xu Fi Ci Oa jb;go_wp2_with fail;go_ret;have hres:bu R ah lo s tp ⟨3,-1,size,fn,ks⟩=(true,s5,tp):=by rw[cF HY.out sY.out HE.out];simp[ik,M3.out,pN]
   rw[hres];have zx:Wr (λi=>i=wr.heap.size) w5 (((w5.setCell ⟨wr.heap.size,0,none⟩ (.int .i64 rv.obj)).setCell ⟨wr.heap.size,1,none⟩ (.int .i64 rv.n)).alloc (.cells #[.int .i64 rv.obj,.int .i64 rv.n] 72)):=((Wr.cell1 w5 wr.heap.size 0 (.int .i64 rv.obj)).trans (Wr.cell1 _ wr.heap.size 1 (.int .i64 rv.n)) (λi hi=>aH hi)).trans (di (aj _ _)) (λi hi=>hi.elim);refine⟨rfl,pP,Y6.out,λi hi=>?_,yV.wr zx (λi hi=>⟨by subst hi;omega,by subst hi;exact HO5.out⟩),λ_=>HF5.wr zx (λe=>by omega) (λe=>by omega) (λg hg e=>by have:=HLL.out g hg;omega),?_⟩
   ·rcases Pw.out i hi with h|h
    ·exact aH h
    ·exact aT (by simp only[World.size_alloc]at h;omega)
   ·exact(((((Wr.of_below (aj _ _)).trans dG (λi hi=>aH (aH (hi▸fG.out)))).trans (di HX.out) (λi hi=>hi.elim)).trans (di ed.out) (λi hi=>hi.elim)).trans qM (λi hi=>aH (aH hi))).trans zx (λi hi=>aT (by omega))
theorem DV(ai mc:Nat)(own:Nat->Prop)(P:Value×Value×Value)(ah:Int)(s:St)(fb tb:Nat)(G:Value×Value×Value×Value)(tp:List V)(lv:Value)(lo:List Nat)(ng:Nat)(R:cC)(op dst size fn:Int)(ks:List T)(A:Option Addr)(n aA:Nat)(w:World)
  (hM:cN w ai mc own P ah s)(cA:s.kind=0)(hs0:0<=s.steps)(hs1:s.steps<=ah)(hf:ah<=1000000000)(hF:bM w fb G tb tp lv lo)(hO:mG ai own fb tb lv)(kM:dW (au s.mem) tp lo ng)(hT:fY tp.length lo.length ng ks)(hk:bC w ai ks A n)(iD:n<=1000)
  (rE:e9 ks)(hy:(aW ah 1 s).1=true)(cu:∃l,aD s.mem tp lo ks=some l)(hop:op=3)(dF:∀(W:World)(AA:Option Addr)(an fX:Nat)(l:List V),Below ai w W->cN W ai mc own P ah {s with steps:=s.steps+1}->aD s.mem tp lo ks=some l->l.length=an->(∀j v,l[j]? =some v->∃b off,AA=some ⟨b,off,none⟩/\b<W.heap.size/\¬own b/\bg W b (off+j*2) v)->Calls prog 30 #[.pointer (some ⟨mc,0,none⟩),.int .i64 fn,.slice AA an fX] W λe w'=>gC ai mc own P ah (R fn l {s with steps:=s.steps+1}) W e w')(m:Nat)(P3:dst=m)(Re:m<tp.length)(hR:∀l,aD s.mem tp lo ks=some l->∃v s5,R fn l {s with steps:=s.steps+1}=(some v,s5)):
  Calls prog 52 #[.pointer (some ⟨mc,0,none⟩),.pointer (some ⟨fb,0,none⟩),.agg #[.int .i64 op,.int .i64 dst,.int .i64 size,.int .i64 fn,.slice A n aA]] w λe w'=>cX ai mc own P ah fb tb G lv lo (bu R ah lo s tp ⟨op,dst,size,fn,ks⟩) w e w':=by
 subst hop;subst P3;have HOW:=ae (show∀i,own i->i<w.heap.size from λi hi=>by obtain⟨_,_,_,_,h⟩:=hM;exact(h.rest.own i hi).2);have jY:=ae dF;have HR:=ae hR;clear dF hR;obtain⟨qE,pU,iY⟩:=cO hy;have hm:own mc:=(by obtain⟨_,_,_,_,h⟩:=hM;exact h.mine)
 have sV:=(by obtain⟨_,_,_,_,h⟩:=hM;exact h.rest.own mc h.mine:ai<=mc/\mc<w.heap.size)
 have oF:e9 ks:=rE;have HST:=ae (λW(hb:Below w.heap.size w W)=>(iY▸hy▸eD ai mc own P ah 1 s W (hM.below hb) hs0 hs1 hf (by omega) (by omega):Calls prog 51 #[.pointer (some ⟨mc,0,none⟩),.int .i64 1] W λe w'=>e= .returned (.bool true)/\cN w' ai mc own P ah {s with steps:=s.steps+1}/\Wr (λb=>b=mc) W w'));have xT:=ae cA;have HF:=ae hF;have HO:=ae hO;have zY:=ae kM;have HT:=ae hT;have HK:=ae hk;have nZ:=ae oF;have hB:ai<=w.heap.size:=by omega
 have MU:=hk.2.1;have qh:=ae cu;clear cu;have sY:=ae iY;have HY:=ae hy;have fG:=ae hm;obtain⟨ve,u9⟩:=sV;clear hM cA hF hO kM hT hk hy qE pU iY hm rE oF hs0 hs1;go_enter func52,ntmps52;go_wp2_with(go_at_call 51;refine(HST _ (aj _ _)).mono ?_;rintro e w1 ⟨rfl,jy,bT⟩;have n9:=ae jy;have dG:=ae bT;have hz1:w.heap.size+1<=w1.heap.size:=(by have:=bT.size;simpa using this);clear jy bT);have iL:=ae (show Row w1 w.heap.size #[.int .i64 3,.int .i64 (m:Int),.int .i64 size,.int .i64 fn,.slice A n aA] 96 from(Row.new w _ _).wr dG (show¬w.heap.size=mc by omega));have bn:=ae (show Below ai w w1 from((aj w _).mono hB).trans (dG.below (by simp;omega) (λk hk=>by omega)))
 have jB:=ae (show bM w1 fb G tb tp lv lo from(HF.below (aj _ _)).wr dG (λe=>HO.fb.1 (by rw[e];exact fG.out)) (λe=>HO.tb.1 (by rw[e];exact fG.out)) (λg hg e=>(HO.lv g hg).1 (by rw[e];exact fG.out)));have iw:=ae (HK.below bn (aN _));go_loopw [7,8] (λv i wr=>∃(k:Nat)(l:List V),k<=n/\i= .int .i64 k/\aD s.mem tp lo (ks.take k)=some l/\wr.ownsRow w1.heap.size 72 2 v k (bV l)/\Below w1.heap.size w1 wr) (λ_ i _=>n-(intOf i).toNat)
 case atStart=>exact⟨0,[],by omega,rfl,by simp[aD],World.ownsRow_nil _ _ _ _,bI _ _⟩
 case round=>
  obtain⟨k,l,hk,rfl,cu,hown,bR⟩:=hrel;have hz2:=bR.size;have hz3:w.heap.size<wr.heap.size:=by omega
  have dw:=iL.below bR (by omega);have c0:wr.cell? ⟨w.heap.size,0,none⟩=some (.int .i64 3):=dw.cell (j:=0) rfl;have c1:wr.cell? ⟨w.heap.size,1,none⟩=some (.int .i64 (m:Int)):=dw.cell (j:=1) rfl;have c2:wr.cell? ⟨w.heap.size,2,none⟩=some (.int .i64 size):=dw.cell (j:=2) rfl;have c3:wr.cell? ⟨w.heap.size,3,none⟩=some (.int .i64 fn):=dw.cell (j:=3) rfl;have c4:wr.cell? ⟨w.heap.size,4,none⟩=some (.slice A n aA):=dw.cell (j:=4) rfl;clear dw;have kB:=ae (n9.below bR);have iy:=ae (jB.below bR);have iV:ai<=w1.heap.size:=by omega
  by_cases hlt:k<n
  ·obtain⟨b,off,t,v0,v1,v2,rfl,hb,bA,k0,k1,k2,ht⟩:=(iw.below (bR.mono iV) (aN _)).get hlt;have gF:=(by obtain⟨_,_,_,_,h⟩:=kB.out;exact h.rest.mem.ok:b9 s.mem)
   have HC:=ae (eU t.size t ai mc own P ah {s with steps:=s.steps+1} fb tb G tp lv lo ng wr v0 v1 v2 (aN _) kB.out xT.out iy.out gF zY (HT.get bA) ht);have og:=ae bA;have eY:(k:Int)<(n:Int):=by omega
   have HE:=ae cu;have HW:=ae hown;have HX:=ae bR;have bG:l.length=k:=by
    have:=aK cu;rw[List.length_take,HK.1]at this;omega
   clear bA ht cu hown bR gF;cases hv:bZ s.mem tp lo t with
   |none=>
    exact absurd (cI og.out hv) (by rw[qh.choose_spec];simp)
   |some v=>
    rw[hv]at HC;obtain⟨i0,hi,hz0,jg,lK⟩:=info_parts dK;go_wp2_with fail;refine HC.mono ?_;rintro e w2 ⟨rfl,hb1⟩;simp only[aI];have hz:=hb1.size;have hown1:=(aB HW (di hb1) (λ_ _ h=>h))
    go_wp2_with(at_builtin;refine wpList_append_own _ rfl (.tmp 37) (.tmp 39) 67 rfl w1.heap.size 72 i0 (.agg #[.int .i64 0,.int .i64 0]) 2 16 underlying67 hi hz0 jg lK rfl (by decide) _ _ _ rfl ((hown1.alloc _).alloc _) ⟨w2.heap.size+1,0,none⟩ 1 1 [.int .i64 v.obj,.int .i64 v.n] rfl rfl ?c1 ?c2 ?c3 ?c4 ?c5 ?_)
    case c1=>exact cK _ _ _ _ _ (by simp)
    case c2=>exact dS _ _
    case c3=>have:=iD;unfold maxLen;omega
    case c4=>have:=iD;omega
    case c5=>simp;omega
    ·intro v' w3 hown2 hgrow _;have bL:=ae ((((HX.trans (hb1.mono (show w1.heap.size<=wr.heap.size from by omega))).alloc (by omega) _).alloc (by simp;omega) _).grown hgrow (by simp;omega) (λg hg=>(HW.lt g hg).1));have rq:=ae hown2;clear hown2 hgrow hown1 hb1;go_wp2_with fail;go_roundw
     case rel=>exact⟨k+1,l++[v],by omega,by go_num,cE HE.out og.out hv,by rw[bP];exact rq.out,bL.out⟩
     case measure=>simp[intOf];omega
  ·obtain rfl:k=n:=by omega
   rw[show ks.take k=ks from by rw[<-HK.1,List.take_length]]at cu;have bG:l.length=k:=by rw[aK cu,HK.1]
   have HE:=ae cu;have HW:=ae hown;have HX:=ae bR;clear cu hown bR;obtain⟨AA,fX,Q0⟩:=yu HW.out;subst Q0;have FD:=aj wr (.cells #[.int .i64 0,.int .i64 0] 72);have ed:=ae FD;have MZ:Below ai w (wr.alloc (.cells #[.int .i64 0,.int .i64 0] 72)):=bn.trans ((HX.trans (FD.mono hz2)).mono (by omega));have hown1:∀i,own i->i<w1.heap.size:=λi hi=>by obtain⟨_,_,_,_,h⟩:=n9.out;exact(h.rest.own i hi).2
   have eF:∀(j:Nat)(u:V),l[j]? =some u->∃b off,AA=some ⟨b,off,none⟩/\b<(wr.alloc (.cells #[.int .i64 0,.int .i64 0] 72)).heap.size/\¬own b/\bg (wr.alloc (.cells #[.int .i64 0,.int .i64 0] 72)) b (off+j*2) u:=λj u hj=>by
    have J2:0<k:=by
     rw[<-bG];rcases Nat.eq_zero_or_pos l.length with h|h
     ·rw[List.eq_nil_of_length_eq_zero h]at hj;simp at hj
     ·exact h
    obtain⟨g,gc,hg,hg0,hg1,sJ⟩:=bQ HW.out bG J2;injection hg with hg;refine⟨g,0,hg,by simp;omega,λho=>by have:=hown1 g ho;omega,?_⟩;have:=(sJ j u hj).below FD hg1;simpa using this
   have Kp:=ae (jY (wr.alloc (.cells #[.int .i64 0,.int .i64 0] 72)) AA k fX l MZ (kB.below FD) HE.out bG eF);have BQ:=ae (HR.out l HE.out);clear FD MZ hown1 eF bG;obtain⟨rv,s5,OJ⟩:=BQ.out;rw[OJ]at Kp;have M3:=ae OJ;clear OJ;have Ci:¬own wr.heap.size:=λh=>by have:=HOW _ h;omega
   have Oa:¬own w.heap.size:=λh=>by have:=HOW _ h;omega
   have HN11:=ae Ci;have VL:=ae ((iL.below HX (by omega)).below ed (by omega));go_wp2_with fail;refine Kp.mono ?_;rintro e w5 ⟨rfl,pP,Tr,Ey,rV,lC⟩;simp only[aI];have QS:=lC.size;simp only[World.size_alloc]at QS;have xu:=(Row.new wr #[.int .i64 0,.int .i64 0] 72).wr lC Ci;have Fi:=VL.wr lC Oa;have d1:w5.cell? ⟨w.heap.size,1,none⟩=some (.int .i64 (m:Int)):=Fi.cell (j:=1) rfl;have dl:=Fi.lt;have e0:=xu.cell (j:=0) rfl;have e1:=xu.cell (j:=1) rfl;have ef0:=xu.free 0;have ef1:=xu.free 1;have el:=xu.lt;have HB11:=ae xu;have HST6:=ae Fi;have yV:=ae rV;have qM:=ae lC;have Y6:=ae Tr;have Pw:=ae Ey;have HF5:=ae ((iy.below ed.out).wr lC HO.fb.1 HO.tb.1 (λg hg=>(HO.lv g hg).1))
   have HO5:=ae (show¬pP wr.heap.size from λh=>by rcases Ey _ h with h|h;exact Ci h;simp only[World.size_alloc]at h;omega);have tq:fb<wr.heap.size:=iy.row.lt;have uY:tb<wr.heap.size:=by obtain⟨_,hr,_⟩:=iy.ay;exact hr.lt
   have jb:∀g,lv.ownBlock=some g->g<wr.heap.size:=λg hg=>by obtain⟨_,cs,hr⟩:=aC iy.az hg;exact hr.lt
   have HLL:=ae jb;clear rV lC Tr Ey xu Fi Ci Oa jb;go_wp2_with fail;have zx:Wr (λi=>i=wr.heap.size) w5 (((w5.setCell ⟨wr.heap.size,0,none⟩ (.int .i64 rv.obj)).setCell ⟨wr.heap.size,1,none⟩ (.int .i64 rv.n)).alloc (.cells #[.int .i64 rv.obj,.int .i64 rv.n] 72)):=((Wr.cell1 w5 wr.heap.size 0 (.int .i64 rv.obj)).trans (Wr.cell1 _ wr.heap.size 1 (.int .i64 rv.n)) (λi hi=>aH hi)).trans (di (aj _ _)) (λi hi=>hi.elim);have J4:Row (((w5.setCell ⟨wr.heap.size,0,none⟩ (.int .i64 rv.obj)).setCell ⟨wr.heap.size,1,none⟩ (.int .i64 rv.n)).alloc (.cells #[.int .i64 rv.obj,.int .i64 rv.n] 72)) wr.heap.size #[.int .i64 rv.obj,.int .i64 rv.n] 72:=((HB11.set 0 _).set 1 _).alloc _;have Tt:=HST6.wr zx (by omega)
   have hF6:=HF5.wr zx (λe=>by omega) (λe=>by omega) (λg hg e=>by have:=HLL.out g hg;omega);have WC:=yV.wr zx (λi hi=>⟨by subst hi;omega,by subst hi;exact HO5.out⟩);have Wo:=zx.size;generalize (((w5.setCell ⟨wr.heap.size,0,none⟩ (.int .i64 rv.obj)).setCell ⟨wr.heap.size,1,none⟩ (.int .i64 rv.n)).alloc (.cells #[.int .i64 rv.obj,.int .i64 rv.n] 72))=w6 at zx J4 Tt hF6 WC Wo ⊢;have HF6:=ae hF6;have HM6:=ae WC;have TR:=ae zx;have s1:w6.cell? ⟨w.heap.size,1,none⟩=some (.int .i64 (m:Int)):=Tt.cell (j:=1) rfl;have sl:=Tt.lt;have v0:=J4.cell (j:=0) rfl;have v1:=J4.cell (j:=1) rfl;have vl:=J4.lt;clear zx J4 Tt hF6 WC d1 dl e0 e1 ef0 ef1 el;obtain⟨xm,⟨cs,iR,jh⟩,_,Rl⟩:=HF6.out
   have t4:w6.cell? ⟨fb,4,none⟩=some (.slice (some ⟨tb,0,none⟩) tp.length tp.length):=xm.cell (j:=4) rfl;have t5:=iR.free (m*2);have t6:=iR.free (m*2+1);have t7:∃u,w6.cell? ⟨tb,m*2,none⟩=some u:=⟨_,iR.cell (Array.getElem?_eq_getElem (by rw[jh.1];omega))⟩
   have t8:∃u,w6.cell? ⟨tb,m*2+1,none⟩=some u:=⟨_,iR.cell (Array.getElem?_eq_getElem (by rw[jh.1];omega))⟩
   obtain⟨u7,t7⟩:=t7;obtain⟨u8,t8⟩:=t8;have hfl6:=xm.lt;have htl6:=iR.lt;clear xm iR jh;have UI:(m:Int)<(tp.length:Int):=by omega
   refine fB 8 (by kernel_rfl) (by kernel_rfl) ?_;simp only[List.take_succ_cons,List.take_zero,List.drop_succ_cons,List.drop_zero]
   repeat still_step
   try refine wpStill_nil ?_
   go_wp2_with fail;go_ret;have hres:bu R ah lo s tp ⟨3,(m:Int),size,fn,ks⟩=(true,s5,tp.set m rv):=by rw[cF HY.out sY.out HE.out];simp[ik,M3.out,pN]
   rw[hres];have Tp:=(eB w6 tb (m*2) (m*2+1) (.int .i64 rv.obj) (.int .i64 rv.n)).trans (di ((bI _ _).drew)) (λi hi=>hi.elim);refine⟨rfl,pP,Y6.out,λi hi=>?_,HM6.wr Tp (λk hk=>(by subst hk;exact⟨HO.tb.2,λh=>by rcases Pw _ h with h|h;exact HO.tb.1 h;simp only[World.size_alloc]at h;omega⟩)),λ_=>(HF6.set m rv).below ((bI _ _).drew),?_⟩
   ·rcases Pw.out i hi with h|h
    ·exact aH h
    ·exact aT (by simp only[World.size_alloc]at h;omega)
   ·exact((((((Wr.of_below (aj _ _)).trans dG (λi hi=>aH (aH (hi▸fG.out)))).trans (di HX.out) (λi hi=>hi.elim)).trans (di ed.out) (λi hi=>hi.elim)).trans qM (λi hi=>aH (aH hi))).trans TR (λi hi=>aT (by omega))).trans Tp (λi hi=>aH (aT hi))
def PR(R:cC)(ah:Int)(p:aM)(c:Int):Prop:=
 ∀(ai mc:Nat)(own:Nat->Prop)(P:Value×Value×Value)(s:St)(f:Nat)(g:aP)(args:List V)(AA:Option Addr)(an fX:Nat)(w:World),
  cN w ai mc own P ah s->bH w ai P p->GInv ah s->s.calls=c->p.funcs[f]? =some g->(args.length:Int)=g.params->(∀j v,args[j]? =some v->∃b off,AA=some ⟨b,off,none⟩/\b<w.heap.size/\¬own b/\bg w b (off+j*2) v)->args.length=an->
  (∀v,v∈args->lY (au s.mem).length v)->p.ax.length<(au s.mem).length->
  Calls prog 30 #[.pointer (some ⟨mc,0,none⟩),.int .i64 f,.slice AA an fX] w λe w'=>gC ai mc own P ah (R f args s) w e w'
theorem O7(R:cC)(ah:Int)(hf:ah<=100000000)(p:aM)(d:Int)(nt nl:Nat)(x:cM)(hR:PR R ah p d)(hK:∀c,zK p ah c R)(hx:sO p nt nl x):JH R ah p d p.ax.length nt nl x:=by
 intro ai mc own P s fb tb G tp lv lo A n aA w hM hP hI hd hF hO gD hlt jb hk;have J2:(bu R ah lo s tp x).1=true->Kept ah s tp lo p.ax.length (bu R ah lo s tp x).2.1 (bu R ah lo s tp x).2.2:=by
  intro ht;obtain⟨k1,k2,k3⟩:=yM hK hI gD hlt jb hx (show bu R ah lo s tp x=(true,(bu R ah lo s tp x).2.1,(bu R ah lo s tp x).2.2) by rw[<-ht]);exact⟨k1.inv,k2,k1.calls,k1.grow,k1.steps,k3⟩
 obtain⟨op,dst,size,fn,ks⟩:=x;obtain⟨fH,qf,hlen,hop⟩:=hx;simp only at fH qf hlen hop hk;have qg:=hk.1;subst hlt jb;have gu:b9 s.mem:=hI.mem.Ag;refine Calls.mono (R:=λe w'=>cX ai mc own P ah fb tb G lv lo (bu R ah lo s tp ⟨op,dst,size,fn,ks⟩) w e w') ?_ (λe w' h=>⟨h,J2⟩);by_cases hy:(aW ah 1 s).1=true
 ·cases he:aD s.mem tp lo ks with
  |none=>exact LY ai mc own P ah s fb tb G tp lv lo _ R op dst size fn ks A n aA w hM hI.kind hI.lo hI.hi (by omega) hF hO gD fH hk (by omega) qf hy he
  |some l=>
   have Q0:∀v,v∈l->lY (au s.mem).length v:=iF hI.mem gD ks qf fH (by rw[eN];exact he);rcases hop with⟨h1,h2,h3,h4⟩|⟨h1,h2,h3,h4⟩|⟨h1,⟨f,g,h2,h3,h4⟩,h5⟩|⟨h1,h2,h3⟩|⟨h1,h2,h3,h4⟩|⟨h1,h2,h3⟩
   ·obtain⟨m,hm⟩:=Int.eq_ofNat_of_zero_le h3;exact O4 ai mc own P ah s fb tb G tp lv lo _ R op dst size fn ks A n aA w hM hI.kind hI.lo hI.hi (by omega) hF hO gD fH hk (by omega) qf hy ⟨l,he⟩ h1 m hm (by omega) (by omega)
   ·obtain⟨sz,hsz⟩:∃sz:Nat,size=sz:=Int.eq_ofNat_of_zero_le (by omega);have J1:∀r x,aD s.mem tp lo ks=some [r,x]->CJ s.mem.length r:=λr x AX=>by rw[he]at AX;injection AX with AX;exact(Q0 r (by rw[AX];simp)).Pm
    cases hst:cS s.mem size (l.getD 0 ⟨0,0⟩) (l.getD 1 ⟨0,0⟩)with
    |none=>exact L3 ai mc own P ah s fb tb G tp lv lo _ R op dst size fn ks A n aA w hM hI.kind hI.lo hI.hi (by omega) hF hO gD fH hk (by omega) qf hy ⟨l,he⟩ h1 (by omega) sz hsz (by omega) J1 (λr x AX=>by rw[he]at AX;injection AX with AX;subst AX;simpa using hst)
    |some M'=>
     have U6:b9 M':=by
      have hne:s.mem≠[]:=by
       intro hn;rw[hn]at hst;unfold cS at hst;rw[show qL [] (l.getD 0 ⟨0,0⟩) size.toNat=none from by unfold qL;rw[if_neg];rintro⟨_,h,_⟩;simp[aF]at h]at hst;cases hst
      have hb:au s.mem=s.mem:=jE (List.length_pos_iff.2 hne);have yD:lY s.mem.length (l.getD 1 ⟨0,0⟩):=by rw[<-hb];exact xF (dY _) Q0 1
      exact(zi hst (by omega) gu (by rw[<-hb];exact hI.num) yD).1
     exact Jc ai mc own P ah s fb tb G tp lv lo _ R op dst size fn ks A n aA w hM hI.kind hI.lo hI.hi (by omega) hF hO gD fH hk (by omega) qf hy ⟨l,he⟩ h1 (by omega) sz hsz (by omega) J1 (λr x AX=>by rw[he]at AX;injection AX with AX;subst AX;exact⟨M',by simpa using hst,U6⟩)
   ·obtain⟨qE,pU,iY⟩:=cO hy;have kz:GInv ah {s with steps:=s.steps+1}:=hI.step1 (by omega);have hll2:(l.length:Int)=g.params:=by rw[aK he];exact h4
    have dF:∀(W:World)(AA:Option Addr)(an fX:Nat)(l:List V),Below ai w W->cN W ai mc own P ah {s with steps:=s.steps+1}->aD s.mem tp lo ks=some l->l.length=an->(∀j v,l[j]? =some v->∃b off,AA=some ⟨b,off,none⟩/\b<W.heap.size/\¬own b/\bg W b (off+j*2) v)->Calls prog 30 #[.pointer (some ⟨mc,0,none⟩),.int .i64 fn,.slice AA an fX] W λe w'=>gC ai mc own P ah (R fn l {s with steps:=s.steps+1}) W e w':=by
     intro W AA an fX l' hW hMW hl' II eF;rw[he]at hl';injection hl' with hl';subst hl';rw[h2];exact hR ai mc own P _ f g l AA an fX W hMW (hP.below hW) kz hd h3 hll2 eF II Q0 gD.ax
    cases hr:R fn l {s with steps:=s.steps+1}with
    |mk rv s5=>
     cases rv with
     |none=>exact DW ai mc own P ah s fb tb G tp lv lo _ R op dst size fn ks A n aA w hM hI.kind hI.lo hI.hi (by omega) hF hO gD fH hk (by omega) qf hy ⟨l,he⟩ h1 dF (λl' hl'=>by rw[he]at hl';injection hl' with hl';subst hl';exact⟨s5,hr⟩)
     |some v=>
      rcases h5 with h5|h5
      ·exact Cw ai mc own P ah s fb tb G tp lv lo _ R op dst size fn ks A n aA w hM hI.kind hI.lo hI.hi (by omega) hF hO gD fH hk (by omega) qf hy ⟨l,he⟩ h1 dF h5 (λl' hl'=>by rw[he]at hl';injection hl' with hl';subst hl';exact⟨v,s5,hr⟩)
      ·obtain⟨m,hm⟩:=Int.eq_ofNat_of_zero_le h5.1;exact DV ai mc own P ah s fb tb G tp lv lo _ R op dst size fn ks A n aA w hM hI.kind hI.lo hI.hi (by omega) hF hO gD fH hk (by omega) qf hy ⟨l,he⟩ h1 dF m hm (by omega) (λl' hl'=>by rw[he]at hl';injection hl' with hl';subst hl';exact⟨v,s5,hr⟩)
   ·obtain⟨r,rfl⟩:=nH (show l.length=1 by rw[aK he];exact h2);have Li:∀r',aD s.mem tp lo ks=some [r']->r'=r:=λr' eu=>by rw[he]at eu;simpa using eu.symm
    by_cases hz:r.obj=0
    ·exact O5 ai mc own P ah s fb tb G tp lv lo _ R op dst size fn ks A n aA w hM hI.kind hI.lo hI.hi (by omega) hF hO gD fH hk (by omega) qf hy ⟨_,he⟩ h1 (by omega) (by have:=hI.outs;have:=hI.hi;omega) (λr' eu=>by rw[Li r' eu];exact hz)
    ·exact L1 ai mc own P ah s fb tb G tp lv lo _ R op dst size fn ks A n aA w hM hI.kind hI.lo hI.hi (by omega) hF hO gD fH hk (by omega) qf hy ⟨_,he⟩ h1 (by omega) (λr' eu=>by rw[Li r' eu];omega)
   ·obtain⟨m,hm⟩:=Int.eq_ofNat_of_zero_le h3;cases hi:s.inp with
    |nil=>exact LX ai mc own P ah s fb tb G tp lv lo _ R op dst size fn ks A n aA w hM hI.kind hI.lo hI.hi (by omega) hF hO gD fH hk (by omega) qf hy ⟨l,he⟩ h1 m hm (by omega) hi
    |cons y il=>exact LW ai mc own P ah s fb tb G tp lv lo _ R op dst size fn ks A n aA w hM hI.kind hI.lo hI.hi (by omega) hF hO gD fH hk (by omega) qf hy ⟨l,he⟩ h1 m hm (by omega) y il hi
   ·obtain⟨r,rfl⟩:=nH (show l.length=1 by rw[aK he];exact h2);have Li:∀r',aD s.mem tp lo ks=some [r']->r'=r:=λr' eu=>by rw[he]at eu;simpa using eu.symm
    by_cases hz:r.obj=0
    ·exact LZ ai mc own P ah s fb tb G tp lv lo _ R op dst size fn ks A n aA w hM hI.kind hI.lo hI.hi (by omega) hF hO gD fH hk (by omega) qf hy ⟨_,he⟩ h1 (by omega) (λr' eu=>by rw[Li r' eu];exact hz)
    ·exact L0 ai mc own P ah s fb tb G tp lv lo _ R op dst size fn ks A n aA w hM hI.kind hI.lo hI.hi (by omega) hF hO gD fH hk (by omega) qf hy ⟨_,he⟩ h1 (by omega) (λr' eu=>by rw[Li r' eu];omega)
 ·exact O6 ai mc own P ah s fb tb G tp lv lo _ R op dst size fn ks A n aA w hM hI.kind hI.lo hI.hi (by omega) hF hO gD fH hk (by omega) (by simpa using hy)
theorem Ma(ai mc:Nat)(own:Nat->Prop)(P:Value×Value×Value)(ah:Int)(p:aM)(s:St)(f:Nat)(g:aP)(args:List V)(AA:Option Addr)(an fX:Nat)(w:World)
  (hM:cN w ai mc own P ah s)(hP:bH w ai P p)(hI:GInv ah s)(hf:ah<=100000000)(hg:p.funcs[f]? =some g)(YK:0<=s.calls)(hd:s.calls=64):
  Calls prog 30 #[.pointer (some ⟨mc,0,none⟩),.int .i64 f,.slice AA an fX] w λe w'=>gC ai mc own P ah ((none,lA 4 s)) w e w':=by
 have sV:=(by obtain⟨_,_,_,_,h⟩:=hM;exact⟨h.mine,h.rest.own mc h.mine⟩:own mc/\ai<=mc/\mc<w.heap.size)
 obtain⟨mX,ve,u9⟩:=sV;have c11:w.cell? ⟨mc,11,none⟩=some (.int .i64 64):=(by obtain⟨_,_,_,_,h⟩:=hM;exact hd▸h.row.cell (j:=11) rfl)
 have HS:=ae (λW(hb:Below w.heap.size w W)=>nE ai mc own P ah 4 s W (hM.below hb));have fG:=ae mX;have HOW:=ae (show∀k,own k->ai<=k/\k<w.heap.size from by obtain⟨_,_,_,_,h⟩:=hM;exact h.rest.own);clear hM hP hI hg hd mX;go_enter func30,ntmps30;go_wp2_with(go_at_call 50;refine(HS _ (aj _ _)).mono ?_;rintro e w1 ⟨rfl,jy,bT⟩;have n9:=ae jy;have dG:=ae bT;have hz1:=bT.size;have dw:=(Row.new w #[.int .i64 0,.int .i64 0] 72).wr bT (show¬w.heap.size=mc by omega);have r0:w1.cell? ⟨w.heap.size,0,none⟩=some (.int .i64 0):=dw.cell (j:=0) rfl;have r1:w1.cell? ⟨w.heap.size,1,none⟩=some (.int .i64 0):=dw.cell (j:=1) rfl;have r2:=dw.free 0;have r3:=dw.free 1;clear jy bT dw)
 refine aR (v:=aI none) ?_ rfl ⟨rfl,own,λ_ h=>h,λ_ h=>aH h,n9.wr (qO _ _ _ _) (λk hk=>⟨by omega,λho=>by have:=(HOW _ ho).2;omega⟩),?_⟩
 ·simp[results,results30,go_sem,aI, *]
 ·exact((Wr.of_below (aj _ _)).trans dG (λi hi=>aH (hi▸fG.out))).trans (qO _ _ _ _) (λi hi=>aT (by omega))
end Go.Proofs.YtikbdplllopjlaaGreat
namespace Go.Proofs.YtikbdplllopjlaaGreat
open Go.RowKit
def mV:Code->List Code
 | .loop c=>[.loop c]
 | .seq a b=>mV a++mV b
 | .block _ c=>mV c
 | .scope c=>mV c
 | .cond _ a b=>mV a++mV b
 |_=>[]
def Vz:Code->Code
 | .loop c=>c
 |c=>c
noncomputable def BB:Code:=(mV (Tryz.f30.body.getD .skip)).getD 3 .skip
noncomputable def Mb:Code:=(mV (Vz BB)).getD 1 .skip
theorem Jj(ai mc:Nat)(bF:Nat->Prop)(P:Value×Value×Value)(ah:Int)(s:St)(fb tb:Nat)(G:Value×Value×Value×Value)(tp:List V)(qB:Value)(lo:List Nat)(w7:World)
  (hM:cN w7 ai mc bF P ah s)(hF:bM w7 fb G tb tp qB lo)(hO:mG ai bF fb tb qB)(qV:∀x,x∈lo->x<s.mem.length)(gX:s.mem.length<=4294967296)
  (c1 c2 c3 c4 c5 c6 c7 c8 c10 c11 c12 c13 c14 c15 c16 c17 c18 c20 uI uH uG uF uE uD uC uB uA uz uy uw uu uq uo um uk uj ui uh ug wP wO wN wM wL wK uf tZ tY tX tW tV tU tT tS tR tQ tP tO tN tM tL wJ wI wH wG wF wE wD wC wB wA wz wu vZ vY vX vW vV vU vT tK tJ tI tH tG tF tE tD tC vS vR vQ vP vO vN vM vL j8 j7 j6 j5 jQ jP jO jN jM jL jK jJ jI jH jG jF lu lq lh kZ kY kX kW kV kU kT kR kQ kP kO kN kH Mo Mn Mm Ml Mk Mj Mi Mh Mg Mf Me Md Mc D3 SD SC SB Sy Sx Sw Sv Su Ss Sr Sq Sp Sn Sm Sl Sk Sj Si Sh Sg Sd Sc Sb Vy Vx Vw Vv Vu Vt Vs Vr Vq Vp Vo Vn Vm Vl Vk Vj Vi Vh Vg Vf Ve Vd Vc Sa R9 R8 R7 R6 R5 RZ RY RX RV RU RT RS RR RQ:Value)(Q:Exit->Act->World->Prop)
  (mB:∀(u19 Xj Xi Xh Xg Xf Xe Xd Xc Xb Xa W9 W8 W7 W6 WZ WY WX WW WV WU WT WS WR:Value)(w':World),cN w' ai mc bF P ah {s with mem:=dZ s.mem lo}->Wr bF w7 w'->Q (.exit 10) ⟨List.toArray ((Value.pointer (some ⟨mc,0,none⟩))::c1::c2::c3::c4::c5::c6::c7::c8::(Value.pointer (some ⟨fb,0,none⟩))::c10::c11::c12::c13::c14::c15::c16::c17::c18::u19::c20::uI::uH::uG::uF::uE::uD::uC::uB::uA::uz::uy::uw::uu::uq::uo::um::uk::uj::ui::uh::ug::wP::wO::wN::wM::wL::wK::uf::tZ::tY::tX::tW::tV::tU::tT::tS::tR::tQ::tP::tO::tN::tM::tL::wJ::wI::wH::wG::wF::wE::wD::wC::wB::wA::wz::wu::vZ::vY::vX::vW::vV::vU::vT::tK::tJ::tI::tH::tG::tF::tE::tD::tC::vS::vR::vQ::vP::vO::vN::vM::vL::j8::j7::j6::j5::jQ::jP::jO::jN::jM::jL::jK::jJ::jI::jH::jG::jF::lu::lq::lh::kZ::kY::kX::kW::kV::kU::kT::kR::kQ::kP::kO::kN::kH::Mo::Mn::Mm::Ml::Mk::Mj::Mi::Mh::Mg::Mf::Me::Md::Mc::D3::SD::SC::SB::Sy::Sx::Sw::Sv::Su::Ss::Sr::Sq::Sp::Sn::Sm::Sl::Sk::Sj::Si::Sh::Sg::Sd::Sc::Sb::Xj::Xi::Xh::Xg::Xf::Xe::Xd::Xc::Xb::Xa::W9::W8::W7::W6::WZ::WY::WX::WW::WV::WU::WT::WS::WR::Sa::R9::R8::R7::R6::R5::RZ::RY::RX::RV::RU::RT::RS::RR::RQ::[]),[]⟩ w'):
  Code.wp prog Mb Q ⟨List.toArray ((Value.pointer (some ⟨mc,0,none⟩))::c1::c2::c3::c4::c5::c6::c7::c8::(Value.pointer (some ⟨fb,0,none⟩))::c10::c11::c12::c13::c14::c15::c16::c17::c18::(Value.int .i64 0)::c20::uI::uH::uG::uF::uE::uD::uC::uB::uA::uz::uy::uw::uu::uq::uo::um::uk::uj::ui::uh::ug::wP::wO::wN::wM::wL::wK::uf::tZ::tY::tX::tW::tV::tU::tT::tS::tR::tQ::tP::tO::tN::tM::tL::wJ::wI::wH::wG::wF::wE::wD::wC::wB::wA::wz::wu::vZ::vY::vX::vW::vV::vU::vT::tK::tJ::tI::tH::tG::tF::tE::tD::tC::vS::vR::vQ::vP::vO::vN::vM::vL::j8::j7::j6::j5::jQ::jP::jO::jN::jM::jL::jK::jJ::jI::jH::jG::jF::lu::lq::lh::kZ::kY::kX::kW::kV::kU::kT::kR::kQ::kP::kO::kN::kH::Mo::Mn::Mm::Ml::Mk::Mj::Mi::Mh::Mg::Mf::Me::Md::Mc::D3::SD::SC::SB::Sy::Sx::Sw::Sv::Su::Ss::Sr::Sq::Sp::Sn::Sm::Sl::Sk::Sj::Si::Sh::Sg::Sd::Sc::Sb::Vy::Vx::Vw::Vv::Vu::Vt::Vs::Vr::Vq::Vp::Vo::Vn::Vm::Vl::Vk::Vj::Vi::Vh::Vg::Vf::Ve::Vd::Vc::Sa::R9::R8::R7::R6::R5::RZ::RY::RX::RV::RU::RT::RS::RR::RQ::[]),[]⟩ w7:=by
 obtain⟨LV,Z1,hlvk⟩:∃A c,qB= .slice A lo.length c:=(by obtain⟨_,h|⟨g,c,cur,h,_⟩⟩:=hF.az;exact⟨none,0,by rw[h.1,h.2]⟩;exact⟨_,_,h⟩)
 subst hlvk;have hlvm:lo.length<=9223372036854775807:=by
  obtain⟨_,h|⟨g,c,cur,_,_,_,h1,h2,_⟩⟩:=hF.az
  ·omega
  ·unfold maxLen at h2;omega
 have HF:=ae hF;have HM:=ae hM;have HO:=ae hO;have Kn:=ae qV;have MQ:=ae mB;clear hM hF hO qV mB
 conv=>arg 2;whnf
 go_loopw [19] (λi wr=>∃k:Nat,k<=lo.length/\i= .int .i64 k/\cN wr ai mc bF P ah {s with mem:=dZ s.mem (lo.take k)}/\Wr bF w7 wr) (λi _=>lo.length-(intOf i).toNat)
 case atStart=>exact⟨0,by omega,rfl,HM.out,Wr.refl _ _⟩
 case round=>
  obtain⟨k2,hk2,rfl,WB,PY⟩:=hrel;have FC:=HF.wr PY HO.fb.1 HO.tb.1 (λg hg=>(HO.lv g hg).1);have e5:wr.cell? ⟨fb,5,none⟩=some (.slice LV lo.length Z1):=FC.row.cell (j:=5) rfl;have HMk:=ae WB;have HWK:=ae PY;by_cases X7:k2<lo.length
  ·obtain⟨x,hx⟩:∃x,lo[k2]? =some x:=⟨_,List.getElem?_eq_getElem X7⟩
   obtain⟨lg,rfl,hlgl⟩:∃lg,LV=some ⟨lg,0,none⟩/\lg<wr.heap.size:=(by
    obtain⟨_,h|⟨g,c,cur,h,_,hh,_⟩⟩:=FC.az
    ·omega
    ·injection h with h;exact⟨g,h,Row.lt hh⟩)
   have e6:wr.cell? ⟨lg,k2,none⟩=some (.int .i64 (x:Nat)):=(by
    have:=FC.az.cells (g:=lg) rfl k2 (.int .i64 (x:Nat)) (by rw[List.getElem?_map,hx];rfl);rw[uJ]at this;exact this)
   have sI:x<s.mem.length:=Kn.out x (List.mem_of_getElem? hx);obtain⟨inv,outv,aU,rb,jV⟩:=WB;have qg:(dZ s.mem (lo.take k2)).length=s.mem.length:=kD _ _;obtain⟨⟨xs,nV,_⟩,_⟩:=jV.rest.mem;obtain⟨mg,Uq,Ob⟩:∃mg Uq,aU= .slice (some ⟨mg,0,none⟩) (dZ s.mem (lo.take k2)).length Uq:=(by
    obtain⟨_,h|⟨g,c,cur,h,_⟩⟩:=id nV
    ·have:=h.2;simp only at this;omega
    ·exact⟨g,c,h⟩)
   subst Ob;have e10:wr.cell? ⟨mc,10,none⟩=some (.slice (some ⟨mg,0,none⟩) s.mem.length Uq):=(by rw[<-qg];exact jV.row.cell (j:=10) rfl)
   obtain⟨BM,e11⟩:∃u,wr.cell? ⟨mg,x*3+2,none⟩=some u:=⟨_,by rw[nV.cellAt (x*3+2) (by rw[qg];omega)];exact List.getElem?_eq_getElem (by rw[nV.1];show _<(dZ s.mem (lo.take k2)).length*3;omega)⟩
   have e12:=nV.frozenAt (x*3+2);have bA:(k2:Int)<(lo.length:Int):=by omega
   obtain⟨_,csm,Rf⟩:=aC nV (g:=mg) rfl;have hmn1:¬fb=mg:=λe=>FC.row.ne Rf (by decide) e;have hmn2:¬mg=fb:=λe=>hmn1 e.symm;have hmn3:¬mc=mg:=λe=>jV.row.ne Rf (by decide) e;have hmn4:¬mg=mc:=λe=>hmn3 e.symm;have hmn5:¬lg=mg:=(by obtain⟨_,csl,hr⟩:=aC FC.az (g:=lg) rfl;exact λe=>hr.ne Rf (by decide) e)
   have hmn6:¬mg=lg:=λe=>hmn5 e.symm;clear Rf;have iZ:(0:Int)<=(k2:Int):=by omega
   have hx1:(x:Int)<(s.mem.length:Int):=by omega
   have hx0:(0:Int)<=(x:Int):=by omega
   have Em:=ae jV;have HX:=ae hx;clear jV nV hx FC PY qg hlgl sI;go_wp2_with fail;refine bJ 14 (by kernel_rfl) (by kernel_rfl) ?_;simp only[List.take_succ_cons,List.take_zero,List.drop_succ_cons,List.drop_zero]
   repeat(go_big_quiet_step (fail))
   refine wpQuiet_nil ?_;go_wp2_with fail;go_roundw
   case rel=>
    obtain⟨hA,hB⟩:=Em.kill x (by show x<(dZ s.mem (lo.take k2)).length;rw[kD];omega);have hC:=(cN.below ⟨_,_,_,_,hA⟩ (bI _ _).drew:cN _ ai mc bF P ah _)
    have e:dZ s.mem (lo.take (k2+1))=(dZ s.mem (lo.take k2)).modify x dead:=by rw[dH HX.out,AP]
    refine⟨k2+1,X7,by go_num,?_,(HWK.trans hB (λi hi=>aH hi)).trans (di (bI _ _).drew) (λi hi=>hi.elim)⟩;rw[e];exact hC
   case measure=>simp[intOf];omega
  ·obtain rfl:k2=lo.length:=by omega
   rw[List.take_length]at WB;clear FC HMk HWK;go_wp2_with fail;exact MQ _ _ _ _ _ _ _ _ _ _ _ _ _ _ _ _ _ _ _ _ _ _ _ _ _ WB PY
end Go.Proofs.YtikbdplllopjlaaGreat
