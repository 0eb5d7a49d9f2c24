/- The page's memory: its first object is made. Conditions: as stated. -/
import Derived.Test.YtinmgbodgecoeaaGreatMakeZz
set_option linter.unusedSimpArgs false
set_option linter.unusedVariables false
set_option maxHeartbeats 8000000
set_option maxRecDepth 100000
open Go.Proofs.Tryz
namespace Go.Proofs.YtinmgbodgecoeaaGreat
open Go.RowKit
attribute [local go_sem ↓] Go.wp_at_zero Go.wp_at_succ
theorem JU(pb po ai:Nat)(own:Nat->Prop)(aU:Value)(rb:Nat->Nat)(M:List MO)(cs:Array Value)(t:TypeId)(o:kH)(ct:Nat)(A:Option Addr)(n aA:Nat)(w:World)
  (hR:Row w pb cs t)(hp:cs[po]? =some aU)(ht:t≠75/\t≠116)(hM:qg w ai own aU rb M)(hmo:∀g,aU.ownBlock=some g->own g)(hown:∀k,own k->ai<=k/\k<w.heap.size)(hbs:ai<=w.heap.size)(hpb:ai<=pb)
  (hct:o.count=ct)(Km:1<=ct)(C3:ct<=64)(hn:n<=ct)(hl:aD w ai o.init (.slice A n aA))(hsz:o.size=1\/o.size=2\/o.size=4\/o.size=8)(hin:∀x,x∈o.init->In64 x)(jk:(au M).length+1<=1000000000)(TK:M=[]):
  Calls prog 31 #[.pointer (some ⟨pb,po,none⟩),.agg #[.int .i64 o.size,.int .i64 ct,.slice A n aA]] w λe w'=>xg ai own pb po cs t M o w e w':=by
 have hpl:=hR.lt;have HR:=ae hR;have HO:=ae hown;have TP:=ae hmo;have HP:=ae hp;have HT:=ae ht;obtain⟨sz,hsz',hsz0⟩:∃sz:Nat,o.size=sz/\(sz=1\/sz=2\/sz=4\/sz=8):=(by rcases hsz with h|h|h|h;exact⟨1,h,by omega⟩;exact⟨2,h,by omega⟩;exact⟨4,h,by omega⟩;exact⟨8,h,by omega⟩)
 have HL:=ae hl;have yF:=hl.len;have x9:=ae yF.1;have Fl:=ae hsz;have vC:=ae hin;have HM:=ae hM;have Dl:=ae hct;have IB:=ae hsz';rw[hsz'];have HNS:=ae (show∀k,own k->k≠w.heap.size/\k<w.heap.size from λk hk=>by have:=hown k hk;omega);subst TK;obtain⟨xs,hx,qO⟩:=hM.row;obtain⟨A1,fK,hmv⟩:∃A1 fK,aU= .slice A1 0 fK:=(by obtain⟨_,h|⟨g,c,cur,h,_⟩⟩:=id hx;exact⟨_,_,h.1⟩;exact⟨_,_,h⟩)
 subst hmv;obtain rfl:xs=[]:=List.eq_nil_of_length_eq_zero (by simpa using hx.1);simp only[List.length_nil]at hx;have p0:w.cell? ⟨pb,po,none⟩=some (.slice A1 0 fK):=hR.cell hp;obtain⟨i0,hi,hz0,hz1,hz2⟩:=info_parts AO;have QK:=ae hx;have Gy:(Value.slice A1 0 fK).ownBlock≠some pb:=by
  intro e;obtain⟨_,cs',hr'⟩:=aC hx e;exact hr'.ne hR (λh=>ht.2 h.symm) rfl
 have IC:=ae Gy;have NJ:=ae (show(Value.slice A1 0 fK).ownBlock≠some w.heap.size from λe=>by obtain⟨_,cs',hr'⟩:=aC hx e;exact absurd hr'.lt (by omega));have NK:=ae (rC hp);clear hM hR hp ht hmo hown hx qO hct hl yF hsz hin hsz' Gy;obtain⟨Z,hZ,hmk⟩:=o8 ct (by omega);have HZ:=ae hZ;clear hZ;go_enter func31,ntmps31
 go_upto_region 3 with(at_builtin;(refine wpList_append_lies _ rfl (.tmp 17) (.tmp 19) 82 rfl ai 116 i0 (.agg #[.int .i64 0,.slice none 0 0,.bool false]) 3 40 underlying82 hi hz0 hz1 hz2 rfl (by decide) _ _ _ rfl (OO QK _ _) ⟨w.heap.size+1,0,none⟩ 1 1 [.int .i64 0,.slice none 0 0,.bool false] rfl rfl (Jp _ _ _ _ (by simp)) (zV _ _ _ _ _) (by omega) (by unfold maxLen;omega) (by omega) (by simp;omega) (w.heap.size+1+1) (by simp) ?_;intro gg fJ w2 hown2 hgrow hat hlt2;have hq:=(((HR.alloc (.cells #[.int .i64 sz,.int .i64 ct,.slice A n aA] 90)).alloc (.cells #[.int .i64 0,.slice none 0 0,.bool false] 116))).wr (Wr.grown (F:=λk=>(Value.slice A1 0 fK).ownBlock=some k) hgrow (λk hk=>hk)) IC.out;have hq1:w2.cell? ⟨pb,po,none⟩=some (.slice A1 0 fK):=hq.cell HP.out;have hq2:=hq.free po;have HQ:=ae hq;have NP:=ae hgrow;have x8:=ae hown2;have uw:=ae hat;have Xm:=ae (((Row.new w #[.int .i64 sz,.int .i64 ct,.slice A n aA] 90).alloc (.cells #[.int .i64 0,.slice none 0 0,.bool false] 116)).wr (Wr.grown (F:=λk=>(Value.slice A1 0 fK).ownBlock=some k) hgrow (λk hk=>hk)) NJ.out);have hzz:=hgrow.size;clear hq hgrow hown2 hat))
 simp only[World.size_alloc]at hzz;have b0:w2.cell? ⟨w.heap.size,0,none⟩=some (.int .i64 sz):=Xm.cell (j:=0) rfl;have b1:w2.cell? ⟨w.heap.size,1,none⟩=some (.int .i64 ct):=Xm.cell (j:=1) rfl;have xO:¬w.heap.size=pb:=by omega
 have GF:¬pb=w.heap.size:=by omega
 have hlt3:w.heap.size<w2.heap.size:=by omega
 go_cut [5] (λv5 wx=>∃(xb ob:Nat)(df:Nat->Prop)(rB:Value),v5= .pointer (some ⟨xb,0,none⟩)/\Row wx xb #[.int .i64 sz,.slice (some ⟨ob,0,none⟩) ct ct,.bool true] 116/\iG wx ob (ku o 0)/\¬xb=ob/\w.heap.size<xb/\w.heap.size<ob/\
   Row wx w.heap.size #[.int .i64 sz,.int .i64 ct,.slice A n aA] 90/\qg wx ai df rB rb (au ([]:List MO))/\(∀g,rB.ownBlock=some g->df g)/\Row wx pb (cs.setIfInBounds po rB) t/\Wr (λk=>own k\/k=pb) w wx/\(∀k,own k->df k)/\(∀k,df k->own k\/w.heap.size<k)/\¬df ob/\¬df xb/\(∀k,df k->k<wx.heap.size))
 case first=>
  go_region
  all_goals go_wp2_with fail
  all_goals go_meet
  all_goals
   have hfin:∀wx,Below (w2.setCell ⟨pb,po,none⟩ (.slice (some ⟨gg,0,none⟩) 1 fJ)).heap.size (w2.setCell ⟨pb,po,none⟩ (.slice (some ⟨gg,0,none⟩) 1 fJ)) wx->qg wx ai (λk=>own k\/k=gg) (.slice (some ⟨gg,0,none⟩) 1 fJ) rb (au [])/\Row wx pb (cs.setIfInBounds po (.slice (some ⟨gg,0,none⟩) 1 fJ)) t/\Wr (λk=>own k\/k=pb) w wx/\(∀k,own k\/k=gg->k<wx.heap.size)/\Row wx w.heap.size #[.int .i64 sz,.int .i64 ct,.slice A n aA] 90:=λwx hb=>(by
    have hws:=Wr.cell1 w2 pb po (.slice (some ⟨gg,0,none⟩) 1 fJ);have aJ:Wr (λ_=>False) (w2.setCell ⟨pb,po,none⟩ (.slice (some ⟨gg,0,none⟩) 1 fJ)) wx:=Wr.of_below hb;have hsz:=hb.size;simp only[World.size_setCell]at hsz;have hgt:¬gg=pb:=(by intro e;obtain⟨_,cs',hr⟩:=aC x8 (g:=gg) rfl;exact hr.ne HQ (λh=>HT.2 h.symm) e)
    have ho:=aF (aF x8.out hws (λg hg=>by simp only[Value.ownBlock,Option.some.injEq]at hg;subst hg;exact hgt)) aJ (λ_ _ h=>h);have hggl:gg<w2.heap.size:=hlt2;refine⟨qg.first HM.out ho,(HQ.set po _).wr aJ (λh=>h),?_,λk hk=>?_,((Xm.wr hws xO).wr aJ (λh=>h))⟩
    ·refine(((Wr.of_below (aB w (.cells #[.int .i64 sz,.int .i64 ct,.slice A n aA] 90) (.cells #[.int .i64 0,.slice none 0 0,.bool false] 116))).trans (Wr.grown (F:=λk=>(Value.slice A1 0 fK).ownBlock=some k) NP (λk hk=>hk)) (λi hi=>aK (aK (TP.out i hi)))).trans hws (λi hi=>aK (bu hi))).trans aJ (λi hi=>hi.elim)
    ·rcases hk with hk|rfl
     ·have:=(HO.out k hk).2;omega
     ·omega)
   have Ki:∀k,w2.heap.size<=k->¬(own k\/k=gg):=λk hk h=>(by rcases h with h|h;have:=(HO.out k h).2;omega;omega)
   have Zq:∀g,(Value.slice (some ⟨gg,0,none⟩) 1 fJ).ownBlock=some g->own g\/g=gg:=λg hg=>(by simp only[Value.ownBlock,Option.some.injEq]at hg;exact bu hg.symm)
   have ZF:∀k,own k\/k=gg->own k\/w.heap.size<k:=λk hk=>(by rcases hk with h|rfl;exact aK h;rcases uw.out with h|h;exact aK (TP _ h);exact bu (by omega))
  ·obtain⟨f1,f2,f3,f4,f5⟩:=hfin _ ((aB (w2.setCell ⟨pb,po,none⟩ (.slice (some ⟨gg,0,none⟩) 1 fJ)) (.cells Z 75) (.cells #[.int .i64 sz,.slice (some ⟨w2.heap.size,0,none⟩) ct ct,.bool true] 116)).drew);exact⟨w2.heap.size+1,w2.heap.size,_,.slice (some ⟨gg,0,none⟩) 1 fJ,rfl,(Row.new' _ _ (by simp)).drew,⟨Z,((Row.new' _ _ (by simp)).alloc _).drew,by rw[pL,Dl.out,Int.toNat_natCast];exact HZ.out⟩,by omega,by omega,by omega,
    f5,f1,Zq,f2,f3,λ_ h=>aK h,ZF,Ki _ (by omega),Ki _ (by omega),f4⟩
  ·obtain⟨f1,f2,f3,f4,f5⟩:=hfin _ ((aB (w2.setCell ⟨pb,po,none⟩ (.slice (some ⟨gg,0,none⟩) 1 fJ)) (.cells #[.int .i64 sz,.slice (some ⟨w2.heap.size+1,0,none⟩) ct ct,.bool true] 116) (.cells Z 75)).drew);exact⟨w2.heap.size,w2.heap.size+1,_,.slice (some ⟨gg,0,none⟩) 1 fJ,rfl,((Row.new' _ _ (by simp)).alloc _).drew,⟨Z,(Row.new' _ _ (by simp)).drew,by rw[pL,Dl.out,Int.toNat_natCast];exact HZ.out⟩,by omega,by omega,by omega,
    f5,f1,Zq,f2,f3,λ_ h=>aK h,ZF,Ki _ (by omega),Ki _ (by omega),f4⟩
 case rest=>
  obtain⟨xb,ob,df,rB,rfl,hX,hV,hne,hx1,hx2,kJ,EC,PC,hR1,hW1,ho1,ho2,rT,GH,UY⟩:=hcut;have HX:=ae hX;have HV:=ae hV;have cS:=ae kJ;have LL:=ae EC;have K4:=ae PC;have oY:=ae hR1;have uo:=ae hW1;have LK:=ae (And.intro ho1 (And.intro ho2 UY));have HN:=ae (And.intro rT GH);have hxl:=hX.lt;have hol:=(by obtain⟨_,h,_⟩:=hV;exact h.lt:ob<wc.heap.size)
  clear hX hV kJ EC PC hR1 hW1 ho1 ho2 UY rT GH;go_wp2_with fail;go_loopw [6] (λi wr=>∃k:Nat,k<=n/\i= .int .i64 k/\iG wr ob (ku o k)/\Wr (λb=>b=ob) wc wr) (λi _=>n-(intOf i).toNat)
  case atStart=>exact⟨0,by omega,rfl,HV.out,Wr.refl _ _⟩
  case round=>
   obtain⟨k,hk,rfl,Fk,hwr⟩:=hrel;have Gw:=HX.wr hwr hne;have hbr:=cS.wr hwr (show¬w.heap.size=ob by omega);have hB':Below ai w wr:=(uo.below hbs (λk hk=>by rcases hk with h|h;exact(HO.out k h).1;exact h▸hpb)).trans (hwr.below (by have:=uo.size;omega) (λk hk=>by omega));have c0:wr.cell? ⟨w.heap.size,0,none⟩=some (.int .i64 sz):=hbr.cell (j:=0) rfl;have c2:wr.cell? ⟨w.heap.size,2,none⟩=some (.slice A n aA):=hbr.cell (j:=2) rfl;have d1:wr.cell? ⟨xb,1,none⟩=some (.slice (some ⟨ob,0,none⟩) ct ct):=Gw.cell (j:=1) rfl;have pS:=hwr.size;have tN:=ae hwr;by_cases hlt:k<n
   ·obtain⟨b,off,y,rfl,hb,hy,hy0,_⟩:=(HL.below hB' (aY _)).get hlt;simp only[Nat.mul_one,Nat.add_zero]at hy0;have hkc:k<(ku o k).length:=by rw[wM,Dl.out];simp;omega
    have hg:=xU o k (by rw[Dl.out];simp;omega);obtain⟨cv,yD,gT⟩:=Fk;have e1:=yD.cell (gT.2 k _ hg).2;have e2:=yD.free (k*2+1);have KY:=ae (show iG wr ob (ku o k)from⟨cv,yD,gT⟩);have HY:=ae hy;have HG:=ae hg;have hk1:(k:Int)<(n:Int):=by omega
    have hk2:(k:Int)<(ct:Int):=by omega
    have hbl:b<wr.heap.size:=by have:=hB'.size;omega
    clear yD gT hy hg hwr hkc Gw hbr hB';go_wp2_with fail;refine nI 13 (by kernel_rfl) (by kernel_rfl) ?_;simp only[List.take_succ_cons,List.take_zero,List.drop_succ_cons,List.drop_zero]
    repeat still_step
    still_call ((uF sz y _ hsz0).mono λ_ _ h=>⟨h.1,h.2.symm⟩)
    repeat still_step
    try refine wpStill_nil ?_
    go_wp2_with fail;go_roundw
    case rel=>
     refine⟨k+1,by omega,by go_num,?_,?_⟩
     ·have h1:=KY.Uy k ⟨0,0⟩ (eA sz y) HG.out;have h2:=uT o k (by rw[Dl.out];simp;omega);rw[IB.out,Int.toNat_natCast,List.getD_eq_getElem?_getD,HY.out]at h2;rw[<-h2];exact h1
     ·exact(tN.trans (Wr.cell1 _ _ _ _) (λi h=>aK h)).trans (eW (aV _ _).drew) (λi h=>h.elim)
    case measure=>simp[intOf];omega
   ·obtain rfl:k=n:=by omega
    obtain⟨xs,hx,qO⟩:=(LL.wr K4.out hwr (λi hi ho=>HN.1 (hi▸ho))).row;obtain⟨cv,yD,gT⟩:=id Fk;have UT:¬pb=ob:=(by obtain⟨_,h,_⟩:=HV.out;exact oY.ne h HT.1)
    have Zf:¬pb=xb:=oY.ne HX.out HT.2;have PY:=oY.wr hwr UT;have NK:=ae (rC HP.out);have hpos:po<cs.size:=rC HP.out;have p0:wr.cell? ⟨pb,po,none⟩=some rB:=PY.cell (by rw[Array.getElem?_setIfInBounds_self_of_lt hpos]);have p1:=PY.free po;have d0:wr.cell? ⟨xb,0,none⟩=some (.int .i64 sz):=Gw.cell (j:=0) rfl;have d2:wr.cell? ⟨xb,2,none⟩=some (.bool true):=Gw.cell (j:=2) rfl;have Si:pb<wr.heap.size:=PY.lt;have hmp:=cZ ([]:List MO);obtain⟨A2,cap2,U1⟩:∃A2 cap2,rB= .slice A2 (au ([]:List MO)).length cap2:=(by obtain⟨_,h|⟨g,c,cur,h,_⟩⟩:=id hx;exact absurd h.2 (by omega);exact⟨_,_,h⟩)
    obtain⟨i0,hi,hz0,hz1,hz2⟩:=info_parts AO;have HB':=ae hB';have rI:=ae PY;have KY:=ae Fk;have HOX:=ae qO;have QK:=ae hx;have hmn:(au ([]:List MO)).length<=1000000000:=by omega
    subst U1;clear Gw hbr hB' hwr Fk yD gT PY hx qO;go_wp2_with fail;have Gy:(Value.slice A2 (au ([]:List MO)).length cap2).ownBlock≠some pb:=by
     intro e;obtain⟨_,cs',hr'⟩:=aC QK.out e;exact hr'.ne rI (λh=>HT.2 h.symm) rfl
    have Pq:(Value.slice A2 (au ([]:List MO)).length cap2).ownBlock≠some xb:=λe=>HN.2 (K4 _ e);have IC:=ae Gy;have NJ:=ae Pq;clear Gy Pq;have U7:∀o,(wr.alloc o).frozen? ⟨pb,po,none⟩=false:=λo=>(rI.alloc o).free po;have U6:∀o,(wr.alloc o).drew.frozen? ⟨pb,po,none⟩=false:=λo=>((rI.alloc o).drew).free po;go_region_law
     ((refine step_append_lies _ (by rfl) _ _ _ (by rfl) ai 116 i0 _ 3 40 underlying82 hi hz0 hz1 hz2 rfl (by omega) _ _ _ (by rfl) (tu QK _) ⟨wr.heap.size,0,none⟩ 1 1 [.int .i64 sz,.slice (some ⟨ob,0,none⟩) ct ct,.bool true] (by rfl) (by rfl) (o6 _ _ _ _ rfl) (zV _ _ _ _ _) (by omega) (by unfold maxLen;omega) (by omega) (by simp;omega) (wr.heap.size+1) (by simp) ?_;intro gg fJ w2 hown2 hgrow hat hlt2;have hq:=((rI.alloc (.cells #[.int .i64 sz,.slice (some ⟨ob,0,none⟩) ct ct,.bool true] 116)).drew).wr (Wr.grown (F:=λk=>(Value.slice A2 (au ([]:List MO)).length cap2).ownBlock=some k) hgrow (λk hk=>hk)) IC.out;have hq1:w2.cell? ⟨pb,po,none⟩=some (.slice A2 (au ([]:List MO)).length cap2):=hq.cell (by rw[Array.getElem?_setIfInBounds_self_of_lt NK.out]);have hq2:=hq.free po;have HQ:=ae hq;have NP:=ae hgrow;have x8:=ae hown2;have uw:=ae hat;clear hq hgrow hown2 hat))
    all_goals go_wp2_with fail
    all_goals go_ret
    all_goals exact Gi HT.out Fl.out vC (by rw[Dl.out];simpa using C3) jk IB.out Dl.out LL.out K4.out oY.out uo.out LK.1 LK.2.1 LK.2.2 hx2 HN.1 tN (by rw[<-xV o,x9.out];exact KY.out) QK.out HOX.out NP.out x8.out uw.out hlt2 HQ.out hbs hpb hpl HO.out
end Go.Proofs.YtinmgbodgecoeaaGreat
