/- The page's machine: a call for which no fuel is left. Conditions: as stated. -/
import Derived.Test.YtikbdplllopjlaaGreatQ04Zz
import Derived.Outline
set_option linter.unusedVariables false
set_option linter.unusedSimpArgs false
set_option maxHeartbeats 8000000
set_option maxRecDepth 100000
open Go.Proofs.Tryz
namespace Go.Proofs.YtikbdplllopjlaaGreat
open Go.RowKit
theorem Pe(ai mc:Nat)(own:Nat->Prop)(P:Value×Value×Value)(ah:Int)(p:aM)(s:St)(f:Nat)(g:aP)(args:List V)(AA:Option Addr)(an fX:Nat)(w:World)
  (hM:cN w ai mc own P ah s)(hP:bH w ai P p)(hI:GInv ah s)(hf:ah<=100000000)(hg:p.funcs[f]? =some g)(YK:0<=s.calls)(hd:s.calls<64)(Ov:0<=s.deep)(nt:Nat)(uZ:g.ay=nt)(XZ:nt<=1000)(gJ:∀o,o∈g.az->q9 o)(hnl:g.az.length<=24)(hy:(aW ah (aS g.az) {s with calls:=s.calls+1,deep:=max s.deep (s.calls+1)}).1=false):
  Calls prog 30 #[.pointer (some ⟨mc,0,none⟩),.int .i64 f,.slice AA an fX] w λe w'=>gC ai mc own P ah (none,(aW ah (aS g.az) {s with calls:=s.calls+1,deep:=max s.deep (s.calls+1)}).2) w e w':=by
 have sV:=(by obtain⟨_,_,_,_,h⟩:=hM;exact⟨h.mine,h.rest.own mc h.mine⟩:own mc/\ai<=mc/\mc<w.heap.size)
 obtain⟨mX,ve,u9⟩:=sV;obtain⟨inv,outv,aU,rb,jV⟩:=id hM;have c9:w.cell? ⟨mc,9,none⟩=some (.int .i64 s.deep):=jV.row.cell (j:=9) rfl;have c11:w.cell? ⟨mc,11,none⟩=some (.int .i64 s.calls):=jV.row.cell (j:=11) rfl;have f9:=jV.row.free 9;have f11:=jV.row.free 11;have q64:(s.calls==64)=false:=by simp;omega
 obtain⟨AF,nf,D2,Co⟩:∃AF nf D2,P.2.1= .slice AF nf D2:=(by obtain⟨A',c',h,_⟩:=hP.2.1;exact⟨_,_,_,h⟩)
 have c1:w.cell? ⟨mc,1,none⟩=some (.slice AF nf D2):=Co▸jV.row.cell (j:=1) rfl;have CW:=hP.2.1;rw[Co]at CW;have hfn:f<nf:=(by have:=CW.len.1;rcases Nat.lt_or_ge f p.funcs.length with h|h;omega;rw[List.getElem?_eq_none h]at hg;cases hg)
 obtain⟨gb,mD,g',rfl,hgb,iU,BP⟩:=CW.get hfn;rw[hg]at iU;injection iU with iU;subst iU;obtain⟨g0,g1,⟨lv0,g2,qV⟩,⟨bv,g3,hbl⟩,_,_⟩:=BP;simp only[Nat.add_zero]at g0 g1 g2 g3;obtain⟨LA,bX,hlv⟩:∃LA bX,lv0= .slice LA g.az.length bX:=(by obtain⟨A',c',h,_⟩:=qV;exact⟨_,_,h⟩)
 subst hlv;obtain⟨BA,cL,GS⟩:∃BA cL,bv= .slice BA g.blocks.length cL:=(by obtain⟨A',c',h,_⟩:=hbl;exact⟨_,_,h⟩)
 subst GS;have Ll:=qV.len.2;have hbll:=hbl.len.2;have Ww:=CW.len.2;have hfn0:(0:Int)<=(f:Int):=by omega
 have hfn1:(f:Int)<(nf:Int):=by omega
 have DC:gb<w.heap.size:=by omega
 have HM:=ae hM;have HP:=ae hP;have HI:=ae hI;have Kn:=ae qV;have HBS:=ae hbl;have fG:=ae mX;have HOW:=ae (show∀k,own k->ai<=k/\k<w.heap.size from jV.rest.own);have Em:=ae jV;obtain⟨Z,hZ,Od⟩:=nA nt (by omega);rw[uZ]at g1;have HNT:=ae uZ;clear uZ;have Qc:0<=s.deep:=Ov;have VS:=ae Co;clear hM hP hI qV hbl mX jV CW hg Co;go_enter func30,ntmps30;go_upto_region 4 with fail;go_cut [] (λwx=>cG wx ai mc own P ah {s with calls:=s.calls+1,deep:=max s.deep (s.calls+1)} inv outv aU rb/\Row wx w.heap.size #[.int .i64 0,.int .i64 0] 72/\Wr (λk=>k=mc) w wx)
 case first=>
  refine fB 14 (by kernel_rfl) (by kernel_rfl) ?_;simp only[List.take_succ_cons,List.take_zero,List.drop_succ_cons,List.drop_zero]
  repeat still_step
  try refine wpStill_nil ?_
  go_wp2_with fail
  all_goals go_meet
  all_goals
   refine⟨cG.below (w:=(w.setCell ⟨mc,11,none⟩ _).setCell ⟨mc,9,none⟩ _) (cG.num (cG.num (s':={s with calls:=s.calls+1}) Em.out 11 _ rfl rfl rfl rfl) 9 _ ?_ rfl rfl rfl) ((aj _ _).drew),(Row.new' _ _ (by simp)).drew,((Wr.cell1 w mc 11 _).trans (Wr.cell1 _ mc 9 _) (λ_ h=>aH h)).trans (di ((aj _ _).drew)) (λ_ h=>h.elim)⟩;simp[uS];omega
 case rest=>
  obtain⟨Lr,Lq,hW0⟩:=hcut;have iV:Below ai w wc:=hW0.below (by omega) (λk hk=>by omega);have Km:=ae Lr;have iL:=ae Lq;have HW0:=ae hW0;have hzc:=hW0.size;have N2:=Lq.lt;have d1:wc.cell? ⟨mc,1,none⟩=some (.slice (some ⟨gb,mD,none⟩) nf D2):=VS.out▸Lr.row.cell (j:=1) rfl;have g0':=ag g0 iV hgb;have g1':=ag g1 iV hgb;have g2':=ag g2 iV hgb;have OZ:=ag g3 iV hgb;have cV:=ae iV;clear Lr Lq hW0 iV g0 g1 g2 g3 c1 c9 c11 f9 f11;have Yh:gb<wc.heap.size:=by omega
  obtain⟨wb,rfl⟩:∃wb:World,wb=wc:=⟨_,rfl⟩
  go_upto_region 6 with fail;go_cut [9] (λv9 wx=>∃fb tb:Nat,v9= .pointer (some ⟨fb,0,none⟩)/\Row wx fb #[.int .i64 g.params,.int .i64 nt,.slice LA g.az.length bX,.slice BA g.blocks.length cL,.slice (some ⟨tb,0,none⟩) nt nt,.slice none 0 0] 120/\iq wx tb (List.replicate nt ⟨0,0⟩)/\Row wx wb.heap.size #[.int .i64 g.params,.int .i64 nt,.slice LA g.az.length bX,.slice BA g.blocks.length cL] 54/\Below wb.heap.size wb wx/\wb.heap.size<fb/\wb.heap.size<tb)
  case first=>
   go_region
   all_goals go_wp2_with fail
   all_goals go_meet
   all_goals exact⟨wb.heap.size+1+1,wb.heap.size+1,rfl,(Row.new' _ _ (by simp)).drew,⟨Z,((Row.new' _ _ (by simp)).alloc _).drew,hZ⟩,(((Row.new _ _ _).alloc _).alloc _).drew,(aO _ _ _ _).drew,by omega,by omega⟩
  case rest=>
   obtain⟨fb,tb,rfl,YJ,YC,Rv,Rx,x8,Q1⟩:=hcut;have EC:=ae YJ;have MH:=ae YC;have HGR:=ae Rv;have PJ:=ae Rx;have hz2:=Rx.size;have DJ:Below ai w wc:=cV.trans (Rx.mono (by omega));have cW:=ae DJ;have gr2:wc.cell? ⟨wb.heap.size,2,none⟩=some (.slice LA g.az.length bX):=Rv.cell (j:=2) rfl;have gr3:wc.cell? ⟨wb.heap.size,3,none⟩=some (.slice BA g.blocks.length cL):=Rv.cell (j:=3) rfl;have OL:=Kn.below DJ (aN _) (λ_ _ h=>h.below DJ (aN _));have V3:=ae OL
   have HST:=ae (λW(hb:Below wc.heap.size wc W)=>hy▸eD ai mc own P ah (aS g.az) {s with calls:=s.calls+1,deep:=max s.deep (s.calls+1)} W ⟨_,_,_,_,(Km.below PJ.out).below hb⟩ HI.lo HI.hi (by omega) (by have:=dU gJ;omega) (by have:=dU gJ;omega));have vF:=ae gJ;have hcb:=dU gJ;obtain⟨hcb1,hcb2⟩:=hcb;have HY:=ae hy;clear YJ YC Rv Rx DJ OL g0' g1' g2' OZ d1 gJ hy;go_wp2_with fail
   go_loop [10,11] (λt i=>∃k:Nat,k<=g.az.length/\i= .int .i64 k/\t= .int .i64 (aS (g.az.take k))) (λ_ i=>g.az.length-(intOf i).toNat)
   case atStart=>exact⟨0,by omega,rfl,rfl⟩
   case round=>
    obtain⟨k,hk,rfl,rfl⟩:=hrel;have hcT:(aS (g.az.take k):Int)=aS (g.az.take k):=rfl;have lW:=dU (l:=g.az.take k) (λo ho=>vF.out o (List.mem_of_mem_take ho));rw[List.length_take,Nat.min_eq_left hk]at lW;obtain⟨IG,Cj⟩:=lW;by_cases hlt:k<g.az.length
    ·obtain⟨lb,Ur,o,rfl,MW,gu,_,o1,_⟩:=V3.get hlt;have AZ:=vF.out o (List.mem_of_getElem? gu);have XW:=AZ.2.1;have XV:=AZ.2.2.1;have yc:=ae gu;have qg:(k:Int)<(g.az.length:Int):=by omega
     have hlen:(k:Int)<=24:=by omega
     clear gu AZ hcT;go_wp2_with fail
     go_round
     case rel=>exact⟨k+1,by omega,by go_num,by rw[List.take_add_one,yc.out];simp only[Option.toList_some];rw[nO];simp[aS]⟩
     case measure=>simp[intOf];omega
    ·obtain rfl:k=g.az.length:=by omega
     rw[List.take_length]at IG Cj ⊢;have WE:=ae (show Row wc w.heap.size #[.int .i64 0,.int .i64 0] 72 from iL.below PJ.out N2);go_wp2_with fail;refine(HST _ (bI _ _)).mono ?_;rintro e w1 ⟨rfl,jy,bT⟩;have dw:=WE.wr bT (show¬w.heap.size=mc by omega);have r0:w1.cell? ⟨w.heap.size,0,none⟩=some (.int .i64 0):=dw.cell (j:=0) rfl;have r1:w1.cell? ⟨w.heap.size,1,none⟩=some (.int .i64 0):=dw.cell (j:=1) rfl;have r2:=dw.free 0;have r3:=dw.free 1;have n9:=ae jy;have dG:=ae bT;clear dw jy bT;go_wp2_with fail;refine aR (v:=aI none) ?_ rfl ⟨rfl,own,λ_ h=>h,λ_ h=>aH h,n9.wr (qO _ _ _ _) (λk hk=>⟨by omega,λho=>by have:=(HOW _ ho).2;omega⟩),?_⟩
     ·simp[results,results30,go_sem,aI, *]
     ·exact((((HW0.mono (λk hk=>aH (hk▸fG.out))).trans (di PJ.out) (λi hi=>hi.elim))).trans dG (λi hi=>aH (hi▸fG.out))).trans (qO _ _ _ _) (λi hi=>aT (by omega))
end Go.Proofs.YtikbdplllopjlaaGreat
