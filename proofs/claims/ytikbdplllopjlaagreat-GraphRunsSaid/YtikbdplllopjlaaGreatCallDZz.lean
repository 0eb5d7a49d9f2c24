/- The page's machine: a call that is gone through. Conditions: as stated. -/
import Derived.Test.YtikbdplllopjlaaGreatCallEZz
set_option linter.unusedVariables false
set_option linter.unusedSimpArgs false
set_option maxHeartbeats 8000000
set_option maxRecDepth 100000
open Go.Proofs.Tryz
namespace Go.Proofs.YtikbdplllopjlaaGreat
open Go.RowKit
attribute [local go_sem ↓] Go.wp_at_zero Go.wp_at_succ
theorem RP(ai mc:Nat)(own:Nat->Prop)(P:Value×Value×Value)(ah:Int)(p:aM)(s:St)(f:Nat)(g:aP)(args:List V)(AA:Option Addr)(an fX:Nat)(w:World)
  (hM:cN w ai mc own P ah s)(hP:bH w ai P p)(hI:GInv ah s)(hf:ah<=100000000)(hg:p.funcs[f]? =some g)(YK:0<=s.calls)(R:cC)(hd:s.calls<64)(Ov:0<=s.deep)(nt:Nat)(uZ:g.ay=nt)(XZ:nt<=1000)(gJ:∀o,o∈g.az->q9 o)(hnl:g.az.length<=24)(eF:∀j v,args[j]? =some v->∃b off,AA=some ⟨b,off,none⟩/\b<w.heap.size/\¬own b/\bg w b (off+j*2) v)(II:args.length=an)(hant:an<=nt)(hS:GInv ah {s with calls:=s.calls+1,deep:=max s.deep (s.calls+1),steps:=s.steps+aS g.az,mem:=bf s.mem g.az}/\dW (au (bf s.mem g.az)) (gm nt args) (eE s.mem g.az.length) p.ax.length/\(au (bf s.mem g.az)).length=(au s.mem).length+g.az.length)(sL:0<g.blocks.length)
  (hblk:∀b,b∈g.blocks->(b.fin=1\/b.fin=2\/b.fin=3)/\(0<=b.next/\b.next<g.blocks.length)/\(0<=b.els/\b.els<g.blocks.length)/\(b.fin≠1->C8 nt g.az.length p.ax.length b.cond)/\∀x,x∈b.steps->JH R ah p (s.calls+1) p.ax.length nt g.az.length x)(hy:(aW ah (aS g.az) {s with calls:=s.calls+1,deep:=max s.deep (s.calls+1)}).1=true):
  Calls prog 30 #[.pointer (some ⟨mc,0,none⟩),.int .i64 f,.slice AA an fX] w λe w'=>gC ai mc own P ah (eQ R ah (eE s.mem g.az.length) g.blocks (ah-(s.steps+aS g.az)+1).toNat 0 {s with calls:=s.calls+1,deep:=max s.deep (s.calls+1),steps:=s.steps+aS g.az,mem:=bf s.mem g.az} (gm nt args)) w e w':=by
 obtain⟨qE,pU,iY⟩:=cO hy;have sY:=ae iY;have VJ:=ae pU;have Wc:=ae eF;have HAN:=ae II;have HSS:=ae hS;have S7:=ae hblk;have Gu:=ae pU;clear qE pU iY eF hS hblk;have sV:=(by obtain⟨_,_,_,_,h⟩:=hM;exact⟨h.mine,h.rest.own mc h.mine⟩:own mc/\ai<=mc/\mc<w.heap.size)
 obtain⟨mX,ve,u9⟩:=sV;obtain⟨inv,outv,aU,rb,jV⟩:=id hM;have c9:w.cell? ⟨mc,9,none⟩=some (.int .i64 s.deep):=jV.row.cell (j:=9) rfl;have c11:w.cell? ⟨mc,11,none⟩=some (.int .i64 s.calls):=jV.row.cell (j:=11) rfl;have f9:=jV.row.free 9;have f11:=jV.row.free 11;have q64:(s.calls==64)=false:=by simp;omega
 obtain⟨AF,nf,D2,Co⟩:∃AF nf D2,P.2.1= .slice AF nf D2:=(by obtain⟨A',c',h,_⟩:=hP.2.1;exact⟨_,_,_,h⟩)
 have c1:w.cell? ⟨mc,1,none⟩=some (.slice AF nf D2):=Co▸jV.row.cell (j:=1) rfl;have CW:=hP.2.1;rw[Co]at CW;have hfn:f<nf:=(by have:=CW.len.1;rcases Nat.lt_or_ge f p.funcs.length with h|h;omega;rw[List.getElem?_eq_none h]at hg;cases hg)
 obtain⟨gb,mD,g',rfl,hgb,iU,BP⟩:=CW.get hfn;rw[hg]at iU;injection iU with iU;subst iU;obtain⟨g0,g1,⟨lv0,g2,qV⟩,⟨bv,g3,hbl⟩,_,_⟩:=BP;simp only[Nat.add_zero]at g0 g1 g2 g3;obtain⟨LA,bX,hlv⟩:∃LA bX,lv0= .slice LA g.az.length bX:=(by obtain⟨A',c',h,_⟩:=qV;exact⟨_,_,h⟩)
 subst hlv;obtain⟨BA,cL,GS⟩:∃BA cL,bv= .slice BA g.blocks.length cL:=(by obtain⟨A',c',h,_⟩:=hbl;exact⟨_,_,h⟩)
 subst GS;have Ll:=qV.len.2;have hbll:=hbl.len.2;have Ww:=CW.len.2;have hfn0:(0:Int)<=(f:Int):=by omega
 have hfn1:(f:Int)<(nf:Int):=by omega
 have DC:gb<w.heap.size:=by omega
 have HM:=ae hM;have HP:=ae hP;have HI:=ae hI;have Kn:=ae qV;have HBS:=ae hbl;have fG:=ae mX;have HOW:=ae (show∀k,own k->ai<=k/\k<w.heap.size from jV.rest.own);have Em:=ae jV;obtain⟨Z,hZ,Od⟩:=nA nt (by omega);rw[uZ]at g1;have HNT:=ae uZ;clear uZ;have Qc:0<=s.deep:=Ov;have VS:=ae Co;clear hM hP hI qV hbl mX jV CW hg Co;go_enter func30,ntmps30;go_upto_region 4 with fail;go_cut [] (λwx=>cG wx ai mc own P ah {s with calls:=s.calls+1,deep:=max s.deep (s.calls+1)} inv outv aU rb/\Row wx w.heap.size #[.int .i64 0,.int .i64 0] 72/\Wr (λk=>k=mc) w wx)
 case first=>
  refine fB 14 (by kernel_rfl) (by kernel_rfl) ?_;simp only[List.take_succ_cons,List.take_zero,List.drop_succ_cons,List.drop_zero]
  repeat still_step
  try refine wpStill_nil ?_
  go_wp2_with fail
  all_goals go_meet
  all_goals
   refine⟨cG.below (w:=(w.setCell ⟨mc,11,none⟩ _).setCell ⟨mc,9,none⟩ _) (cG.num (cG.num (s':={s with calls:=s.calls+1}) Em.out 11 _ rfl rfl rfl rfl) 9 _ ?_ rfl rfl rfl) ((aj _ _).drew),(Row.new' _ _ (by simp)).drew,((Wr.cell1 w mc 11 _).trans (Wr.cell1 _ mc 9 _) (λ_ h=>aH h)).trans (di ((aj _ _).drew)) (λ_ h=>h.elim)⟩;simp[uS];omega
 case rest=>
  obtain⟨Lr,Lq,hW0⟩:=hcut;have iV:Below ai w wc:=hW0.below (by omega) (λk hk=>by omega);have Km:=ae Lr;have iL:=ae Lq;have HW0:=ae hW0;have hzc:=hW0.size;have N2:=Lq.lt;have d1:wc.cell? ⟨mc,1,none⟩=some (.slice (some ⟨gb,mD,none⟩) nf D2):=VS.out▸Lr.row.cell (j:=1) rfl;have g0':=ag g0 iV hgb;have g1':=ag g1 iV hgb;have g2':=ag g2 iV hgb;have OZ:=ag g3 iV hgb;have cV:=ae iV;clear Lr Lq hW0 iV g0 g1 g2 g3 c1 c9 c11 f9 f11;have Yh:gb<wc.heap.size:=by omega
  obtain⟨wb,rfl⟩:∃wb:World,wb=wc:=⟨_,rfl⟩
  go_upto_region 6 with fail;go_cut [9] (λv9 wx=>∃fb tb:Nat,v9= .pointer (some ⟨fb,0,none⟩)/\Row wx fb #[.int .i64 g.params,.int .i64 nt,.slice LA g.az.length bX,.slice BA g.blocks.length cL,.slice (some ⟨tb,0,none⟩) nt nt,.slice none 0 0] 120/\iq wx tb (List.replicate nt ⟨0,0⟩)/\Row wx wb.heap.size #[.int .i64 g.params,.int .i64 nt,.slice LA g.az.length bX,.slice BA g.blocks.length cL] 54/\Below wb.heap.size wb wx/\wb.heap.size<fb/\wb.heap.size<tb)
  case first=>
   go_region
   all_goals go_wp2_with fail
   all_goals go_meet
   all_goals exact⟨wb.heap.size+1+1,wb.heap.size+1,rfl,(Row.new' _ _ (by simp)).drew,⟨Z,((Row.new' _ _ (by simp)).alloc _).drew,hZ⟩,(((Row.new _ _ _).alloc _).alloc _).drew,(aO _ _ _ _).drew,by omega,by omega⟩
  case rest=>
   obtain⟨fb,tb,rfl,YJ,YC,Rv,Rx,x8,Q1⟩:=hcut;have EC:=ae YJ;have MH:=ae YC;have HGR:=ae Rv;have PJ:=ae Rx;have hz2:=Rx.size;have DJ:Below ai w wc:=cV.trans (Rx.mono (by omega));have cW:=ae DJ;have gr2:wc.cell? ⟨wb.heap.size,2,none⟩=some (.slice LA g.az.length bX):=Rv.cell (j:=2) rfl;have gr3:wc.cell? ⟨wb.heap.size,3,none⟩=some (.slice BA g.blocks.length cL):=Rv.cell (j:=3) rfl;have OL:=Kn.below DJ (aN _) (λ_ _ h=>h.below DJ (aN _));have V3:=ae OL
   have HST:=ae (λW(hb:Below wc.heap.size wc W)=>hy▸eD ai mc own P ah (aS g.az) {s with calls:=s.calls+1,deep:=max s.deep (s.calls+1)} W ⟨_,_,_,_,(Km.below PJ.out).below hb⟩ HI.lo HI.hi (by omega) (by have:=dU gJ;omega) (by have:=dU gJ;omega));have vF:=ae gJ;have hcb:=dU gJ;obtain⟨hcb1,hcb2⟩:=hcb;have HY:=ae hy;clear YJ YC Rv Rx DJ OL g0' g1' g2' OZ d1 gJ hy;go_wp2_with fail
   go_loop [10,11] (λt i=>∃k:Nat,k<=g.az.length/\i= .int .i64 k/\t= .int .i64 (aS (g.az.take k))) (λ_ i=>g.az.length-(intOf i).toNat)
   case atStart=>exact⟨0,by omega,rfl,rfl⟩
   case round=>
    obtain⟨k,hk,rfl,rfl⟩:=hrel;have hcT:(aS (g.az.take k):Int)=aS (g.az.take k):=rfl;have lW:=dU (l:=g.az.take k) (λo ho=>vF.out o (List.mem_of_mem_take ho));rw[List.length_take,Nat.min_eq_left hk]at lW;obtain⟨IG,Cj⟩:=lW;by_cases hlt:k<g.az.length
    ·obtain⟨lb,Ur,o,rfl,MW,gu,_,o1,_⟩:=V3.get hlt;have AZ:=vF.out o (List.mem_of_getElem? gu);have XW:=AZ.2.1;have XV:=AZ.2.2.1;have yc:=ae gu;have qg:(k:Int)<(g.az.length:Int):=by omega
     have hlen:(k:Int)<=24:=by omega
     clear gu AZ hcT;go_wp2_with fail
     go_round
     case rel=>exact⟨k+1,by omega,by go_num,by rw[List.take_add_one,yc.out];simp only[Option.toList_some];rw[nO];simp[aS]⟩
     case measure=>simp[intOf];omega
    ·obtain rfl:k=g.az.length:=by omega
     rw[List.take_length]at IG Cj ⊢;have WE:=ae (show Row wc w.heap.size #[.int .i64 0,.int .i64 0] 72 from iL.below PJ.out N2);have hns:=VJ.out;have hs2:=HI.hi;have hs3:=HI.lo;go_wp2_with fail;refine(HST _ (bI _ _)).mono ?_;rintro e w1 ⟨rfl,jy,bT⟩;rw[sY.out]at jy;have n9:=ae jy;have dG:=ae bT;have hz1:=bT.size;have hfbm:¬fb=mc:=by omega
     have htbm:¬tb=mc:=by omega
     have hgbm:¬wb.heap.size=mc:=by omega
     have iK:=ae (WE.wr bT (show¬w.heap.size=mc by omega));have Zv:=ae (EC.wr bT hfbm);have Y7:=ae (show iq w1 tb (List.replicate nt ⟨0,0⟩)from(by obtain⟨cv,h1,h2⟩:=MH.out;exact⟨cv,h1.wr bT htbm,h2⟩));have HGR1:=ae (HGR.wr bT hgbm);have bn:=ae (show Below ai w w1 from cW.trans (bT.below (by omega) (λk hk=>by omega)));have tq:=Zv.lt;have uY:=(by obtain⟨_,h,_⟩:=Y7.out;exact h.lt:tb<w1.heap.size)
     have SM:=ae (show Wr own w w1 from((HW0.mono (λk hk=>aH (hk▸fG.out))).trans (di PJ.out) (λi hi=>hi.elim)).trans bT (λi hi=>aH (hi▸fG.out)));clear jy bT;obtain⟨i0,hi,hz0,NT,hzz2⟩:=info_parts NQ;go_wp2_with fail;go_loopw [12] (λi wr=>∃(k:Nat)(dQ:Nat->Prop)(qB:Value),k<=g.az.length/\i= .int .i64 k/\Eg ai mc own P ah {s with calls:=s.calls+1,deep:=max s.deep (s.calls+1),steps:=s.steps+aS g.az} fb tb nt g LA bX BA cL s.mem w wb.heap.size w1 wr k dQ qB) (λi _=>g.az.length-(intOf i).toNat)
     case atStart=>exact⟨0,own,.slice none 0 0,by omega,rfl,⟨n9.out,Zv.out,Y7.out,HGR1.out,iK.out,World.ownsRow_nil _ _ _ _,λ_ h=>h,λ_ h=>aH h,λ_ h=>(by cases h),Wr.refl _ _⟩⟩
     case round=>
      obtain⟨k,dQ,qB,hk,rfl,hL⟩:=hrel;have hzr:=hL.wr.size;have aG:ai<=w1.heap.size:=by omega
      have zA:Below ai w wr:=bn.trans (hL.wr.below aG (λi hi=>by rcases hi with hi|hi;exact(HOW.out i hi).1;omega));have HBr:=ae zA;have e2:wr.cell? ⟨wb.heap.size,2,none⟩=some (.slice LA g.az.length bX):=hL.grow.cell (j:=2) rfl;have HL:=ae hL;by_cases hlt:k<g.az.length
      ·
       obtain⟨lb,Ur,o,rfl,MW,gu,o0,o1,⟨ov,o2,Fl⟩,_,_⟩:=(Kn.below zA (aN _) (λ_ _ h=>h.below zA (aN _))).get hlt;simp only[Nat.add_zero]at o0 o1 o2;obtain⟨OA,Hp,hOv⟩:∃OA Hp,ov= .slice OA o.init.length Hp:=(by obtain⟨A',c',h,_⟩:=Fl;exact⟨_,_,h⟩)
       subst hOv;have AZ:=vF.out o (List.mem_of_getElem? gu);have Wz:(au (bf s.mem (g.az.take k))).length=(au s.mem).length+k:=nI _ _ _ hk;have gX:(au s.mem).length<=100000020:=by have:=HI.many;have:=HI.lo;have:=HI.hi;omega
       have VY:=ae (λW(hb:Below wr.heap.size wr W)=>CU ai mc dQ P ah _ o (.slice OA o.init.length Hp) W (HL.uU.below hb) AZ (Fl.below (hb.mono (by omega)) (aN _)) (by show(au (bf s.mem (g.az.take k))).length+1<=1000000000;omega));have yc:=ae gu;have HHB:=ae Wz;have qg:(k:Int)<(g.az.length:Int):=by omega
       have iZ:(0:Int)<=(k:Int):=by omega
       have e5:wr.cell? ⟨fb,5,none⟩=some qB:=hL.LN.cell (j:=5) rfl;have hlbl:lb<wr.heap.size:=by omega
       have HNF:=ae (show¬dQ fb from λh=>by rcases HL.down fb h with h|h;have:=(HOW.out fb h).2;omega;omega);clear hL zA gu Fl AZ Wz;go_wp2_with fail;go_region_law
        (first
         |(go_simp;go_at_call 29;refine(VY _ (by exact(bI _ _).drew)).mono ?_;rintro e w2 ⟨rfl,bF,Ey,zQ,GU,hw2⟩;have hF2:=(HL.LN.drew).wr hw2 HNF.out;have h5:w2.cell? ⟨fb,5,none⟩=some qB:=hF2.cell (j:=5) rfl;have h5f:=hF2.free 5;have h5l:=hF2.lt;have iy:=ae hF2;have kB:=ae GU;have gU:=ae hw2;have Pw:=ae (And.intro Ey zQ);have B9:wr.heap.size<=w2.heap.size:=hw2.size;clear hF2 GU hw2 Ey zQ)
         |(refine step_append_lies _ (by rfl) _ _ _ (by rfl) w1.heap.size 3 i0 _ 1 8 underlying36 hi hz0 NT hzz2 rfl (by omega) qB k ((eE s.mem k).map λx=>Value.int .i64 (x:Nat)) (by rfl) (QE (aB (KT HL.az) gU (λi hi h=>HL.Xw i hi h)) _) ⟨w2.heap.size,0,none⟩ 1 1 [.int .i64 ((au (bf s.mem (g.az.take k))).length:Nat)] (by rfl) (by rfl) (lR _ _ _) (by intro u hu;simp at hu;subst hu;rfl) (by omega) (by unfold maxLen;omega) (by omega) (by simp;omega) (w2.heap.size+1) (by simp) ?_;intro gg fC w3 iC hgrow hat xe;have hF3:=(iy.alloc (.cells #[.int .i64 ((au (bf s.mem (g.az.take k))).length:Nat)] 3)).wr (Wr.grown (F:=λi=>qB.ownBlock=some i) hgrow (λi hi=>hi)) (λh=>by obtain⟨_,cs',eu⟩:=aC HL.az h;exact HL.LN.ne eu (by decide) rfl);have h6:w3.cell? ⟨fb,5,none⟩=some qB:=hF3.cell (j:=5) rfl;have h6f:=hF3.free 5;have HOW3:=ae iC;have MN:=ae hgrow;have s7:=ae hat;clear hF3 iC hgrow hat))
       all_goals go_wp2_with fail
       all_goals
        go_roundw
        case rel=>
         exact⟨k+1,bF,.slice (some ⟨gg,0,none⟩) (k+1) fC,by omega,by go_num,K8 HL.out yc.out Pw.1 Pw.2 kB.out gU.out aG (by omega) ⟨λh=>by have:=(HOW.out fb h).2;omega,tq⟩ ⟨λh=>by have:=(HOW.out tb h).2;omega,uY⟩ ⟨λh=>by have:=(HOW _ h).2;omega,by omega⟩ ⟨λh=>by have:=(HOW _ h).2;omega,by omega⟩ HOW3.out MN.out s7.out⟩
        case measure=>simp[intOf];omega
      ·obtain rfl:k=g.az.length:=by omega
       obtain⟨w2,rfl⟩:∃w2:World,w2=wr:=⟨_,rfl⟩
       have ZH:=ae (show∀j v,args[j]? =some v->∃b off,AA=some ⟨b,off,none⟩/\b<w.heap.size/\bg w2 b (off+j*2) v from λj v hj=>by
        obtain⟨b,off,h1,h2,h3,h4⟩:=Wc.out j v hj;exact⟨b,off,h1,h2,h4.wr2 SM.out h3 h2 HL.wr (λh=>by rcases h with h|h;exact h3 h;omega) (by omega)⟩)
       clear hL zA;go_wp2_with fail;go_loopw [13] (λi wr=>∃k:Nat,k<=an/\i= .int .i64 k/\iq wr tb (args.take k++List.replicate (nt-k) ⟨0,0⟩)/\Wr (λb=>b=tb) w2 wr) (λi _=>an-(intOf i).toNat)
       case atStart=>exact⟨0,by omega,rfl,by simpa using HL.Xk,Wr.refl _ _⟩
       case round=>
        obtain⟨k,hk,rfl,EB,hwr⟩:=hrel;have hzr2:=hwr.size;have hzl2:=HL.LN.lt;have hft:¬fb=tb:=(by obtain⟨_,h,_⟩:=HL.Xk;exact λe=>HL.LN.ne h (by decide) e)
        have FC:=HL.LN.wr hwr hft;have e4:wr.cell? ⟨fb,4,none⟩=some (.slice (some ⟨tb,0,none⟩) nt nt):=FC.cell (j:=4) rfl;have mK:=ae hwr;have Ej:=ae EB;by_cases mA:k<an
        ·
         obtain⟨av,hav⟩:∃v,args[k]? =some v:=⟨_,List.getElem?_eq_getElem (by omega)⟩
         obtain⟨ab,aoff,rfl,hab,ha⟩:=ZH.out k av hav;have hab2:¬ab=tb:=by omega
         obtain⟨a0,a1⟩:=ha.ZZ hwr hab2 (by omega);have HAV:=ae hav;have hkan:(k:Int)<(an:Int):=by omega
         have hknt:(k:Int)<(nt:Int):=by omega
         obtain⟨cv,vK,jh⟩:=EB;have hvsz:cv.size=nt*2:=(by have:=jh.1;rw[this];simp;omega)
         have t5:=vK.free (k*2);have t6:=vK.free (k*2+1);obtain⟨u7',t7⟩:∃u,wr.cell? ⟨tb,k*2,none⟩=some u:=⟨_,vK.cell (Array.getElem?_eq_getElem (by omega))⟩
         obtain⟨u8',t8⟩:∃u,wr.cell? ⟨tb,k*2+1,none⟩=some u:=⟨_,vK.cell (Array.getElem?_eq_getElem (by omega))⟩
         clear vK jh FC hwr ha hav hvsz;go_wp2_with fail;refine fB 10 (by kernel_rfl) (by kernel_rfl) ?_;simp only[List.take_succ_cons,List.take_zero,List.drop_succ_cons,List.drop_zero]
         repeat still_step
         try refine wpStill_nil ?_
         go_wp2_with fail;go_roundw
         case rel=>
          have hV2:=Ej.set k av;rw[Hc (by omega) HAV (by have:=HAN.out;omega)]at hV2;exact⟨k+1,by omega,by go_num,hV2,(mK.trans (eB _ _ _ _ _ _) (λi h=>aH h)).trans (di (bI _ _).drew) (λi h=>h.elim)⟩
         case measure=>simp[intOf];omega
        ·obtain rfl:k=an:=by omega
         obtain⟨w3,rfl⟩:∃w3:World,w3=wr:=⟨_,rfl⟩
         have hst:args.take k++List.replicate (nt-k) (⟨0,0⟩:V)=gm nt args:=by rw[<-HAN.out,List.take_length];rfl
         rw[hst]at Ej;have XI:(gm nt args).length=nt:=by rw[<-hst,List.length_append,List.length_take,List.length_replicate,HAN.out];omega
         have BI:=ae (Ji HL.out mK.out Ej.out XI XZ (HOW.out) SM.out cV.out x8 Q1 (by omega) HSS.out);clear hst XI hwr EB FC;have hgs:(ah-(s.steps+aS g.az)).toNat<(ah-(s.steps+aS g.az)+1).toNat:=by have:=Gu.out;omega
         have HGS:=ae hgs;clear hgs;go_wp2_with fail;refine F6 ai mc own dQ P ah (s.calls+1) p p.ax.length fb tb nt wb.heap.size _ 0 g LA BA bX cL qB (eE s.mem g.az.length) R _ _ w w3 hf (by omega) HP.out HOW.out HBS (fM _ _) BI.out sL HGS (by omega) (by omega) S7 _ _ _ _ _ _ _ _ _ _ _ _ _ _ _ _ _ _ _ _ _ _ _ _ _ _ _ _ _ _ _ _ _ _ _ _ _ _ _ _ _ _ _ _ _ _ _ _ _ _ _ _ _ _ _ _ _ _ _ _ _ _ _ _ _ _ _ _ _ _ _ _ _ _ _ _ _ _ _ _ _ _ _ _ _ _ _ _ _ _ _ _ _ _ _ _ _ _ _ _ _ _ _ _ _ _ _ _ _ _ _ _ _ _ _ _ _ _ _ _ _ _ _ _ _ _ _ _ _ _ _ _ _ _ _ _ _ _ _ _ _ _ _ _ _ _ _ _ _ _ _ _ _ _ _ _ _ _ _ _ _ _ _ _ _ _ _ _ _ _ _ _ _ _ _ _ _ _ _ _ _ _ _ _ _ _ _ _ _ _ _ _ _ _ _ _ _ _ _ _ _ _ _ ?_;exact λ_ _ h=>h
end Go.Proofs.YtikbdplllopjlaaGreat
