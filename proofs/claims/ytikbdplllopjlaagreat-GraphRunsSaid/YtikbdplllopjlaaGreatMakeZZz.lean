/- The page's memory: its first object is made. Conditions: as stated. -/
import Derived.Test.YtikbdplllopjlaaGreatMakeZz
set_option linter.unusedVariables false
set_option linter.unusedSimpArgs false
set_option maxHeartbeats 8000000
set_option maxRecDepth 100000
open Go.Proofs.Tryz
namespace Go.Proofs.YtikbdplllopjlaaGreat
open Go.RowKit
attribute [local go_sem ↓] Go.wp_at_zero Go.wp_at_succ
theorem Ht(pb po ai:Nat)(own:Nat->Prop)(aU:Value)(rb:Nat->Nat)(M:List MO)(cs:Array Value)(t:TypeId)(o:jR)(ct:Nat)(A:Option Addr)(n aA:Nat)(w:World)
  (hR:Row w pb cs t)(hp:cs[po]? =some aU)(ht:t≠72/\t≠116)(hM:nY w ai own aU rb M)(A8:∀g,aU.ownBlock=some g->own g)(hown:∀k,own k->ai<=k/\k<w.heap.size)(kE:ai<=w.heap.size)(aZ:ai<=pb)
  (lW:o.count=ct)(IG:1<=ct)(Cj:ct<=64)(hn:n<=ct)(hl:bE w ai o.init (.slice A n aA))(hsz:o.size=1\/o.size=2\/o.size=4\/o.size=8)(gZ:∀x,x∈o.init->bz x)(gX:(au M).length+1<=1000000000)(TI:M=[]):
  Calls prog 29 #[.pointer (some ⟨pb,po,none⟩),.agg #[.int .i64 o.size,.int .i64 ct,.slice A n aA]] w λe w'=>xS ai own pb po cs t M o w e w':=by
 have hpl:=hR.lt;have HR:=ae hR;have HO:=ae hown;have Qm:=ae A8;have HP:=ae hp;have HT:=ae ht;obtain⟨sz,hsz',Ih⟩:∃sz:Nat,o.size=sz/\(sz=1\/sz=2\/sz=4\/sz=8):=(by rcases hsz with h|h|h|h;exact⟨1,h,by omega⟩;exact⟨2,h,by omega⟩;exact⟨4,h,by omega⟩;exact⟨8,h,by omega⟩)
 have HL:=ae hl;have xg:=hl.len;have Dd:=ae xg.1;have yR:=ae hsz;have yX:=ae gZ;have HM:=ae hM;have vG:=ae lW;have Gs:=ae hsz';rw[hsz'];have HNS:=ae (show∀k,own k->k≠w.heap.size/\k<w.heap.size from λk hk=>by have:=hown k hk;omega);subst TI;obtain⟨xs,hx,oC⟩:=hM.row;obtain⟨A1,eT,Ob⟩:∃A1 eT,aU= .slice A1 0 eT:=(by obtain⟨_,h|⟨g,c,cur,h,_⟩⟩:=id hx;exact⟨_,_,h.1⟩;exact⟨_,_,h⟩)
 subst Ob;obtain rfl:xs=[]:=List.eq_nil_of_length_eq_zero (by simpa using hx.1);simp only[List.length_nil]at hx;have p0:w.cell? ⟨pb,po,none⟩=some (.slice A1 0 eT):=hR.cell hp;obtain⟨i0,hi,hz0,hz1,hz2⟩:=info_parts AE;have PE:=ae hx;have Cc:(Value.slice A1 0 eT).ownBlock≠some pb:=by
  intro e;obtain⟨_,cs',eu⟩:=aC hx e;exact eu.ne hR (λh=>ht.2 h.symm) rfl
 have Pz:=ae Cc;have VO:=ae (show(Value.slice A1 0 eT).ownBlock≠some w.heap.size from λe=>by obtain⟨_,cs',eu⟩:=aC hx e;exact absurd eu.lt (by omega));have ML:=ae (qC hp);clear hM hR hp ht A8 hown hx oC lW hl xg hsz gZ hsz' Cc;obtain⟨Z,hZ,Od⟩:=nA ct (by omega);have HZ:=ae hZ;clear hZ;go_enter func29,ntmps29
 go_upto_region 3 with(at_builtin;(refine wpList_append_lies _ rfl (.tmp 17) (.tmp 19) 78 rfl ai 116 i0 (.agg #[.int .i64 0,.slice none 0 0,.bool false]) 3 40 underlying78 hi hz0 hz1 hz2 rfl (by decide) _ _ _ rfl (Nu PE _ _) ⟨w.heap.size+1,0,none⟩ 1 1 [.int .i64 0,.slice none 0 0,.bool false] rfl rfl (Hf _ _ _ _ (by simp)) (z6 _ _ _ _ _) (by omega) (by unfold maxLen;omega) (by omega) (by simp;omega) (w.heap.size+1+1) (by simp) ?_;intro gg fC w2 hown2 hgrow hat mA;have hq:=(((HR.alloc (.cells #[.int .i64 sz,.int .i64 ct,.slice A n aA] 85)).alloc (.cells #[.int .i64 0,.slice none 0 0,.bool false] 116))).wr (Wr.grown (F:=λk=>(Value.slice A1 0 eT).ownBlock=some k) hgrow (λk hk=>hk)) Pz.out;have jZ:w2.cell? ⟨pb,po,none⟩=some (.slice A1 0 eT):=hq.cell HP.out;have Dx:=hq.free po;have HQ:=ae hq;have MN:=ae hgrow;have yT:=ae hown2;have s7:=ae hat;have V7:=ae (((Row.new w #[.int .i64 sz,.int .i64 ct,.slice A n aA] 85).alloc (.cells #[.int .i64 0,.slice none 0 0,.bool false] 116)).wr (Wr.grown (F:=λk=>(Value.slice A1 0 eT).ownBlock=some k) hgrow (λk hk=>hk)) VO.out);have hzz:=hgrow.size;clear hq hgrow hown2 hat))
 simp only[World.size_alloc]at hzz;have b0:w2.cell? ⟨w.heap.size,0,none⟩=some (.int .i64 sz):=V7.cell (j:=0) rfl;have b1:w2.cell? ⟨w.heap.size,1,none⟩=some (.int .i64 ct):=V7.cell (j:=1) rfl;have mW:¬w.heap.size=pb:=by omega
 have Ix:¬pb=w.heap.size:=by omega
 have xe:w.heap.size<w2.heap.size:=by omega
 go_cut [5] (λv5 wx=>∃(xb ob:Nat)(dQ:Nat->Prop)(qA:Value),v5= .pointer (some ⟨xb,0,none⟩)/\Row wx xb #[.int .i64 sz,.slice (some ⟨ob,0,none⟩) ct ct,.bool true] 116/\iq wx ob (jk o 0)/\¬xb=ob/\w.heap.size<xb/\w.heap.size<ob/\
   Row wx w.heap.size #[.int .i64 sz,.int .i64 ct,.slice A n aA] 85/\nY wx ai dQ qA rb (au ([]:List MO))/\(∀g,qA.ownBlock=some g->dQ g)/\Row wx pb (cs.setIfInBounds po qA) t/\Wr (λk=>own k\/k=pb) w wx/\(∀k,own k->dQ k)/\(∀k,dQ k->own k\/w.heap.size<k)/\¬dQ ob/\¬dQ xb/\(∀k,dQ k->k<wx.heap.size))
 case first=>
  go_region
  all_goals go_wp2_with fail
  all_goals go_meet
  all_goals
   have j4:∀wx,Below (w2.setCell ⟨pb,po,none⟩ (.slice (some ⟨gg,0,none⟩) 1 fC)).heap.size (w2.setCell ⟨pb,po,none⟩ (.slice (some ⟨gg,0,none⟩) 1 fC)) wx->nY wx ai (λk=>own k\/k=gg) (.slice (some ⟨gg,0,none⟩) 1 fC) rb (au [])/\Row wx pb (cs.setIfInBounds po (.slice (some ⟨gg,0,none⟩) 1 fC)) t/\Wr (λk=>own k\/k=pb) w wx/\(∀k,own k\/k=gg->k<wx.heap.size)/\Row wx w.heap.size #[.int .i64 sz,.int .i64 ct,.slice A n aA] 85:=λwx hb=>(by
    have CV:=Wr.cell1 w2 pb po (.slice (some ⟨gg,0,none⟩) 1 fC);have aG:Wr (λ_=>False) (w2.setCell ⟨pb,po,none⟩ (.slice (some ⟨gg,0,none⟩) 1 fC)) wx:=Wr.of_below hb;have hsz:=hb.size;simp only[World.size_setCell]at hsz;have Wy:¬gg=pb:=(by intro e;obtain⟨_,cs',hr⟩:=aC yT (g:=gg) rfl;exact hr.ne HQ (λh=>HT.2 h.symm) e)
    have ho:=aB (aB yT.out CV (λg hg=>by simp only[Value.ownBlock,Option.some.injEq]at hg;subst hg;exact Wy)) aG (λ_ _ h=>h);have hggl:gg<w2.heap.size:=mA;refine⟨nY.first HM.out ho,(HQ.set po _).wr aG (λh=>h),?_,λk hk=>?_,((V7.wr CV mW).wr aG (λh=>h))⟩
    ·refine(((Wr.of_below (aJ w (.cells #[.int .i64 sz,.int .i64 ct,.slice A n aA] 85) (.cells #[.int .i64 0,.slice none 0 0,.bool false] 116))).trans (Wr.grown (F:=λk=>(Value.slice A1 0 eT).ownBlock=some k) MN (λk hk=>hk)) (λi hi=>aH (aH (Qm.out i hi)))).trans CV (λi hi=>aH (aT hi))).trans aG (λi hi=>hi.elim)
    ·rcases hk with hk|rfl
     ·have:=(HO.out k hk).2;omega
     ·omega)
   have Iw:∀k,w2.heap.size<=k->¬(own k\/k=gg):=λk hk h=>(by rcases h with h|h;have:=(HO.out k h).2;omega;omega)
   have X3:∀g,(Value.slice (some ⟨gg,0,none⟩) 1 fC).ownBlock=some g->own g\/g=gg:=λg hg=>(by simp only[Value.ownBlock,Option.some.injEq]at hg;exact aT hg.symm)
   have Yf:∀k,own k\/k=gg->own k\/w.heap.size<k:=λk hk=>(by rcases hk with h|rfl;exact aH h;rcases s7.out with h|h;exact aH (Qm _ h);exact aT (by omega))
  ·obtain⟨f1,f2,f3,f4,f5⟩:=j4 _ ((aJ (w2.setCell ⟨pb,po,none⟩ (.slice (some ⟨gg,0,none⟩) 1 fC)) (.cells Z 72) (.cells #[.int .i64 sz,.slice (some ⟨w2.heap.size,0,none⟩) ct ct,.bool true] 116)).drew);exact⟨w2.heap.size+1,w2.heap.size,_,.slice (some ⟨gg,0,none⟩) 1 fC,rfl,(Row.new' _ _ (by simp)).drew,⟨Z,((Row.new' _ _ (by simp)).alloc _).drew,by rw[nN,vG.out,Int.toNat_natCast];exact HZ.out⟩,by omega,by omega,by omega,
    f5,f1,X3,f2,f3,λ_ h=>aH h,Yf,Iw _ (by omega),Iw _ (by omega),f4⟩
  ·obtain⟨f1,f2,f3,f4,f5⟩:=j4 _ ((aJ (w2.setCell ⟨pb,po,none⟩ (.slice (some ⟨gg,0,none⟩) 1 fC)) (.cells #[.int .i64 sz,.slice (some ⟨w2.heap.size+1,0,none⟩) ct ct,.bool true] 116) (.cells Z 72)).drew);exact⟨w2.heap.size,w2.heap.size+1,_,.slice (some ⟨gg,0,none⟩) 1 fC,rfl,((Row.new' _ _ (by simp)).alloc _).drew,⟨Z,(Row.new' _ _ (by simp)).drew,by rw[nN,vG.out,Int.toNat_natCast];exact HZ.out⟩,by omega,by omega,by omega,
    f5,f1,X3,f2,f3,λ_ h=>aH h,Yf,Iw _ (by omega),Iw _ (by omega),f4⟩
 case rest=>
  obtain⟨xb,ob,dQ,qA,rfl,hX,hV,hne,hx1,hx2,gY,jy,Oc,jc,hW1,N7,Ir,jw,iD,UF⟩:=hcut;have HX:=ae hX;have HV:=ae hV;have ed:=ae gY;have n9:=ae jy;have JB:=ae Oc;have iK:=ae jc;have dG:=ae hW1;have Kj:=ae (And.intro N7 (And.intro Ir UF));have HN:=ae (And.intro jw iD);have sI:=hX.lt;have Z8:=(by obtain⟨_,h,_⟩:=hV;exact h.lt:ob<wc.heap.size)
  clear hX hV gY jy Oc jc hW1 N7 Ir UF jw iD;go_wp2_with fail;go_loopw [6] (λi wr=>∃k:Nat,k<=n/\i= .int .i64 k/\iq wr ob (jk o k)/\Wr (λb=>b=ob) wc wr) (λi _=>n-(intOf i).toNat)
  case atStart=>exact⟨0,by omega,rfl,HV.out,Wr.refl _ _⟩
  case round=>
   obtain⟨k,hk,rfl,EB,hwr⟩:=hrel;have NU:=HX.wr hwr hne;have hbr:=ed.wr hwr (show¬w.heap.size=ob by omega);have Cr:Below ai w wr:=(dG.below kE (λk hk=>by rcases hk with h|h;exact(HO.out k h).1;exact h▸aZ)).trans (hwr.below (by have:=dG.size;omega) (λk hk=>by omega));have c0:wr.cell? ⟨w.heap.size,0,none⟩=some (.int .i64 sz):=hbr.cell (j:=0) rfl;have c2:wr.cell? ⟨w.heap.size,2,none⟩=some (.slice A n aA):=hbr.cell (j:=2) rfl;have d1:wr.cell? ⟨xb,1,none⟩=some (.slice (some ⟨ob,0,none⟩) ct ct):=NU.cell (j:=1) rfl;have fV:=hwr.size;have mK:=ae hwr;by_cases hlt:k<n
   ·obtain⟨b,off,y,rfl,hb,hy,qE,_⟩:=(HL.below Cr (aN _)).get hlt;simp only[Nat.mul_one,Nat.add_zero]at qE;have hkc:k<(jk o k).length:=by rw[xI,vG.out];simp;omega
    have hg:=yK o k (by rw[vG.out];simp;omega);obtain⟨cv,vK,jh⟩:=EB;have e1:=vK.cell (jh.2 k _ hg).2;have e2:=vK.free (k*2+1);have Ej:=ae (show iq wr ob (jk o k)from⟨cv,vK,jh⟩);have HY:=ae hy;have HG:=ae hg;have bA:(k:Int)<(n:Int):=by omega
    have hk2:(k:Int)<(ct:Int):=by omega
    have hbl:b<wr.heap.size:=by have:=Cr.size;omega
    clear vK jh hy hg hwr hkc NU hbr Cr;go_wp2_with fail;refine fB 13 (by kernel_rfl) (by kernel_rfl) ?_;simp only[List.take_succ_cons,List.take_zero,List.drop_succ_cons,List.drop_zero]
    repeat still_step
    still_call ((uP sz y _ Ih).mono λ_ _ h=>⟨h.1,h.2.symm⟩)
    repeat still_step
    try refine wpStill_nil ?_
    go_wp2_with fail;go_roundw
    case rel=>
     refine⟨k+1,by omega,by go_num,?_,?_⟩
     ·have h1:=Ej.Uh k ⟨0,0⟩ (eC sz y) HG.out;have h2:=vA o k (by rw[vG.out];simp;omega);rw[Gs.out,Int.toNat_natCast,List.getD_eq_getElem?_getD,HY.out]at h2;rw[<-h2];exact h1
     ·exact(mK.trans (Wr.cell1 _ _ _ _) (λi h=>aH h)).trans (di (bI _ _).drew) (λi h=>h.elim)
    case measure=>simp[intOf];omega
   ·obtain rfl:k=n:=by omega
    obtain⟨xs,hx,oC⟩:=(n9.wr JB.out hwr (λi hi ho=>HN.1 (hi▸ho))).row;obtain⟨cv,vK,jh⟩:=id EB;have Uz:¬pb=ob:=(by obtain⟨_,h,_⟩:=HV.out;exact iK.ne h HT.1)
    have XR:¬pb=xb:=iK.ne HX.out HT.2;have OI:=iK.wr hwr Uz;have ML:=ae (qC HP.out);have gP:po<cs.size:=qC HP.out;have p0:wr.cell? ⟨pb,po,none⟩=some qA:=OI.cell (by rw[Array.getElem?_setIfInBounds_self_of_lt gP]);have p1:=OI.free po;have d0:wr.cell? ⟨xb,0,none⟩=some (.int .i64 sz):=NU.cell (j:=0) rfl;have d2:wr.cell? ⟨xb,2,none⟩=some (.bool true):=NU.cell (j:=2) rfl;have XS:pb<wr.heap.size:=OI.lt;have hmp:=dY ([]:List MO);obtain⟨A2,gT,UH⟩:∃A2 gT,qA= .slice A2 (au ([]:List MO)).length gT:=(by obtain⟨_,h|⟨g,c,cur,h,_⟩⟩:=id hx;exact absurd h.2 (by omega);exact⟨_,_,h⟩)
    obtain⟨i0,hi,hz0,hz1,hz2⟩:=info_parts AE;have HB':=ae Cr;have BQ:=ae OI;have Ej:=ae EB;have Zl:=ae oC;have PE:=ae hx;have Fo:(au ([]:List MO)).length<=1000000000:=by omega
    subst UH;clear NU hbr Cr hwr EB vK jh OI hx oC;go_wp2_with fail;have Cc:(Value.slice A2 (au ([]:List MO)).length gT).ownBlock≠some pb:=by
     intro e;obtain⟨_,cs',eu⟩:=aC PE.out e;exact eu.ne BQ (λh=>HT.2 h.symm) rfl
    have Io:(Value.slice A2 (au ([]:List MO)).length gT).ownBlock≠some xb:=λe=>HN.2 (JB _ e);have Pz:=ae Cc;have VO:=ae Io;clear Cc Io;have UR:∀o,(wr.alloc o).frozen? ⟨pb,po,none⟩=false:=λo=>(BQ.alloc o).free po;have UQ:∀o,(wr.alloc o).drew.frozen? ⟨pb,po,none⟩=false:=λo=>((BQ.alloc o).drew).free po;go_region_law
     ((refine step_append_lies _ (by rfl) _ _ _ (by rfl) ai 116 i0 _ 3 40 underlying78 hi hz0 hz1 hz2 rfl (by omega) _ _ _ (by rfl) (rN PE _) ⟨wr.heap.size,0,none⟩ 1 1 [.int .i64 sz,.slice (some ⟨ob,0,none⟩) ct ct,.bool true] (by rfl) (by rfl) (ny _ _ _ _ rfl) (z6 _ _ _ _ _) (by omega) (by unfold maxLen;omega) (by omega) (by simp;omega) (wr.heap.size+1) (by simp) ?_;intro gg fC w2 hown2 hgrow hat mA;have hq:=((BQ.alloc (.cells #[.int .i64 sz,.slice (some ⟨ob,0,none⟩) ct ct,.bool true] 116)).drew).wr (Wr.grown (F:=λk=>(Value.slice A2 (au ([]:List MO)).length gT).ownBlock=some k) hgrow (λk hk=>hk)) Pz.out;have jZ:w2.cell? ⟨pb,po,none⟩=some (.slice A2 (au ([]:List MO)).length gT):=hq.cell (by rw[Array.getElem?_setIfInBounds_self_of_lt ML.out]);have Dx:=hq.free po;have HQ:=ae hq;have MN:=ae hgrow;have yT:=ae hown2;have s7:=ae hat;clear hq hgrow hown2 hat))
    all_goals go_wp2_with fail
    all_goals go_ret
    all_goals exact E8 HT.out yR.out yX (by rw[vG.out];simpa using Cj) gX Gs.out vG.out n9.out JB.out iK.out dG.out Kj.1 Kj.2.1 Kj.2.2 hx2 HN.1 mK (by rw[<-yL o,Dd.out];exact Ej.out) PE.out Zl.out MN.out yT.out s7.out mA HQ.out kE aZ hpl HO.out
end Go.Proofs.YtikbdplllopjlaaGreat
