/- gantletref14: a call that is gone through. Conditions: as stated. gantletref14: a call for which no fuel is left. Conditions: as stated. gantletref14: every call. Conditions: as stated. The page's machine: a number is put out. Conditions: as stated. The page's machine: a store. Conditions: as stated. The page's machine: a call that ends it. Conditions: as stated. The page's machine: a call whose value is let go. Conditions: as stated. The page's machine: a call whose value is kept. Conditions: as stated. The page's machine: every step. Conditions: as stated. The page's machine: a call that is too deep. Conditions: as stated. The page's machine: a call for which no fuel is left. Conditions: as stated. The page's machine: a call's rounds, one a block. Conditions: as stated. The page's machine: a call that is gone through. Conditions: as stated. The page's machine: every call. Conditions: as stated. The page's machine: every run. Conditions: as stated. gantletref14's Run, of a program that may be. Conditions: as stated. VirtRuns: its regions that draw their order. Conditions: as stated. gantletlaw14.wakes, num. No condition. EqLongs, EqOutcome: of what reads the same. Conditions: as stated. VirtRuns: its last region, and small calls. Conditions: as stated. VirtWeight: it answers some number. Conditions: as stated. gantletlaw14.Heavy: it answers. Conditions: as stated. -/
import Derived.Test.YtinmgbodgecoeaaGreatRCallEZz
set_option linter.unusedSimpArgs false
set_option linter.unusedVariables false
set_option maxHeartbeats 8000000
set_option maxRecDepth 100000
open Go.Proofs.Tryz
namespace Go.Proofs.YtinmgbodgecoeaaGreat
open Go.RowKit
attribute [local go_sem ↓] Go.wp_at_zero Go.wp_at_succ
theorem OM(ai mc:Nat)(own:Nat->Prop)(P:Value×Value×Value×Value)(ah:Int)(p:bB)(s:St)(f:Nat)(g:aR)(args:List V)(AA:Option Addr)(an oD:Nat)(w:World)
  (hM:bG w ai mc own P ah s)(hP:bP w ai (P.1,P.2.1,P.2.2.1) p)(hI:GInv ah s)(hf:ah<=100000000)(hg:p.funcs[f]? =some g)(Z0:0<=s.calls)(R:bT)(hd:s.calls<64)(PM:0<=s.deep)(nt:Nat)(hnt:g.regs=nt)(tD:nt<=8000)(gU:∀o,o∈g.az->rY o)(hnl:g.az.length<=400)(hargs:∀j v,args[j]? =some v->∃b off,AA=some ⟨b,off,none⟩/\b<w.heap.size/\¬own b/\bJ w b (off+j*2) v)(GS:args.length=an)(hant:an<=nt)(hS:GInv ah {s with calls:=s.calls+1,deep:=max s.deep (s.calls+1),steps:=s.steps+aQ g.az,mem:=bf s.mem g.az}/\fV (au (bf s.mem g.az)) (gJ nt args) (cX s.mem g.az.length) p.ay.length/\(au (bf s.mem g.az)).length=(au s.mem).length+g.az.length)(hnb:0<g.ins.length)
  (hins:∀x,x∈g.ins->pP g p.ay.length p.funcs.length (gN p) x)(hlast:nZ g=true)(sN:i6 [] g.ins=true)(hil:g.ins.length<=8000)(GD:∀c,c∈p.funcs->c.params<=4)(XE:p.ay.length<=1000)(tC:∀i,i∈g.ins->In64 i.op/\In64 i.dst/\In64 i.a/\In64 i.b/\In64 i.n/\∀x,x∈i.arg->In64 x)(hL:mR w own w.heap.size P.2.2.2 p)(hC:tY p ah (s.calls+1) R)(TJ:∀c,xe (eB p) ah c R)(hy:(aL ah (aQ g.az) {s with calls:=s.calls+1,deep:=max s.deep (s.calls+1)}).1=true):
  Calls prog 32 #[.pointer (some ⟨mc,0,none⟩),.int .i64 f,.slice AA an oD] w λe w'=>jf ai mc own P ah (bV R ah (cX s.mem g.az.length) (b9 g.ins) (ah-(s.steps+aQ g.az)+1).toNat 0 {s with calls:=s.calls+1,deep:=max s.deep (s.calls+1),steps:=s.steps+aQ g.az,mem:=bf s.mem g.az} (gJ nt args)) w e w':=by
 obtain⟨hy0,hy1,hy2⟩:=nJ hy;have HY2:=ae hy2;have HY1:=ae hy1;have CC:=ae hargs;have HAN:=ae GS;have HSS:=ae hS;have IL:=ae hy1;clear hy0 hy1 hy2 hargs hS;have hmc:=(by obtain⟨_,_,_,_,h⟩:=hM;exact⟨h.mine,h.rest.own mc h.mine⟩:own mc/\ai<=mc/\mc<w.heap.size)
 obtain⟨hm0,Zt,Zr⟩:=hmc;obtain⟨inv,outv,aU,rb,xw⟩:=id hM;have c9:w.cell? ⟨mc,10,none⟩=some (.int .i64 s.deep):=xw.row.cell (j:=10) rfl;have c11:w.cell? ⟨mc,12,none⟩=some (.int .i64 s.calls):=xw.row.cell (j:=12) rfl;have f9:=xw.row.free 10;have f11:=xw.row.free 12;have q64:(s.calls==64)=false:=by simp;omega
 obtain⟨AF,nf,EN,C5⟩:∃AF nf EN,P.2.1= .slice AF nf EN:=(by obtain⟨A',c',h,_⟩:=hP.2.1;exact⟨_,_,_,h⟩)
 have c1:w.cell? ⟨mc,1,none⟩=some (.slice AF nf EN):=C5▸xw.row.cell (j:=1) rfl;have DJ:SliceAt w ai 4 (fT w ai) p.funcs P.2.1:=hP.2.1;rw[C5]at DJ;have hfn:f<nf:=(by have:=DJ.len.1;rcases Nat.lt_or_ge f p.funcs.length with h|h;omega;rw[List.getElem?_eq_none h]at hg;cases hg)
 obtain⟨gb,mM,g',rfl,hgb,hg',zX⟩:=DJ.get hfn;rw[hg]at hg';injection hg' with hg';subst hg';obtain⟨g0,g1,⟨lv0,g2,hlo⟩,⟨bv,g3,hbl⟩,_,_⟩:=zX;simp only[Nat.add_zero]at g0 g1 g2 g3;obtain⟨LA,bn,hlv⟩:∃LA bn,lv0= .slice LA g.az.length bn:=(by obtain⟨A',c',h,_⟩:=hlo;exact⟨_,_,h⟩)
 subst hlv;obtain⟨BA,cI,Bi⟩:∃BA cI,bv= .slice BA g.ins.length cI:=(by obtain⟨A',c',h,_⟩:=hbl;exact⟨_,_,h⟩)
 subst Bi;have MW:=hlo.len.2;have hbll:=hbl.len.2;have zW:=DJ.len.2;have hfn0:(0:Int)<=(f:Int):=by omega
 have hfn1:(f:Int)<(nf:Int):=by omega
 have CZ:gb<w.heap.size:=by omega
 have HM:=ae hM;have HP:=ae hP;have HI:=ae hI;have Rc:=ae hlo;have X4:=ae hbl;have Xb:=ae hm0;have HOW:=ae (show∀k,own k->ai<=k/\k<w.heap.size from xw.rest.own);have D5:=ae xw;obtain⟨Z,hZ,hmk⟩:=o8 nt (by omega);rw[hnt]at g1;have N7:=ae hnt;clear hnt;have hd1:0<=s.deep:=PM;have HPF:=ae C5;have HG:=ae hg;have QJ:=ae hins;have D6:=ae hlast;have qW:=ae sN;have WX:=ae GD;have KZ:=ae tC;have LM:=ae hL;have HCOK:=ae hC;have S5:=ae TJ;clear hins hlast sN GD tC hL hC TJ;clear hM hP hI hlo hbl hm0 xw DJ hg C5;go_enter func32,ntmps32;go_upto_region 4 with fail
 go_cut [] (λwx=>bK wx ai mc own P ah {s with calls:=s.calls+1,deep:=max s.deep (s.calls+1)} inv outv aU rb/\Row wx w.heap.size #[.int .i64 0,.int .i64 0] 75/\Wr (λk=>k=mc) w wx)
 case first=>
  refine nI 14 (by kernel_rfl) (by kernel_rfl) ?_;simp only[List.take_succ_cons,List.take_zero,List.drop_succ_cons,List.drop_zero]
  repeat still_step
  try refine wpStill_nil ?_
  go_wp2_with fail
  all_goals go_meet
  all_goals
   refine⟨bK.below (w:=(w.setCell ⟨mc,12,none⟩ _).setCell ⟨mc,10,none⟩ _) (bK.num (bK.num (s':={s with calls:=s.calls+1}) D5.out 12 _ rfl rfl rfl rfl) 10 _ ?_ rfl rfl rfl) ((ax _ _).drew),(Row.new' _ _ (by simp)).drew,((Wr.cell1 w mc 12 _).trans (Wr.cell1 _ mc 10 _) (λ_ h=>aK h)).trans (eW ((ax _ _).drew)) (λ_ h=>h.elim)⟩;simp[rN];omega
 case rest=>
  obtain⟨Vk,EB,hW0⟩:=hcut;have hBw:Below ai w wc:=hW0.below (by omega) (λk hk=>by omega);have CH:=ae Vk;have DX:=ae EB;have HW0:=ae hW0;have hzc:=hW0.size;have hrl:=EB.lt;have d1:wc.cell? ⟨mc,1,none⟩=some (.slice (some ⟨gb,mM,none⟩) nf EN):=HPF.out▸Vk.row.cell (j:=1) rfl;have g0':=ag g0 hBw hgb;have g1':=ag g1 hBw hgb;have g2':=ag g2 hBw hgb;have g3':=ag g3 hBw hgb;have cB:=ae hBw;clear Vk EB hW0 hBw g0 g1 g2 g3 c1 c9 c11 f9 f11;have ZH:gb<wc.heap.size:=by omega
  obtain⟨wb,rfl⟩:∃wb:World,wb=wc:=⟨_,rfl⟩
  go_upto_region 6 with fail;go_cut [9] (λv9 wx=>∃fb tb:Nat,v9= .pointer (some ⟨fb,0,none⟩)/\Row wx fb #[.slice (some ⟨tb,0,none⟩) nt nt,.slice none 0 0] 120/\iG wx tb (List.replicate nt ⟨0,0⟩)/\Row wx wb.heap.size #[.int .i64 g.params,.int .i64 nt,.slice LA g.az.length bn,.slice BA g.ins.length cI] 54/\Below wb.heap.size wb wx/\wb.heap.size<fb/\wb.heap.size<tb)
  case first=>
   go_wp2_with fail
   all_goals go_meet
   all_goals exact⟨wb.heap.size+1+1,wb.heap.size+1,rfl,(Row.new' _ _ (by simp)),⟨Z,((Row.new' _ _ (by simp)).alloc _),hZ⟩,(((Row.new _ _ _).alloc _).alloc _),(aN _ _ _ _),by omega,by omega⟩
  case rest=>
   obtain⟨fb,tb,rfl,ZZ,ZV,SD,hBL,hfb,NY⟩:=hcut;have zT:=ae ZZ;have HTR:=ae ZV;have HGR:=ae SD;have Rf:=ae hBL;have hz2:=hBL.size;have ED:Below ai w wc:=cB.trans (hBL.mono (by omega));have dw:=ae ED;have gr2:wc.cell? ⟨wb.heap.size,2,none⟩=some (.slice LA g.az.length bn):=SD.cell (j:=2) rfl;have gr3:wc.cell? ⟨wb.heap.size,3,none⟩=some (.slice BA g.ins.length cI):=SD.cell (j:=3) rfl;have PZ:=Rc.below ED (aY _) (λ_ _ h=>h.below ED (aY _));have Xc:=ae PZ
   have HST:=ae (λW(hb:Below wc.heap.size wc W)=>hy▸tP ai mc own P ah (aQ g.az) {s with calls:=s.calls+1,deep:=max s.deep (s.calls+1)} W ⟨_,_,_,_,(CH.below Rf.out).below hb⟩ HI.lo HI.hi (by omega) (by have:=dB gU;omega) (by have:=dB gU;omega));have uZ:=ae gU;have hcb:=dB gU;obtain⟨hcb1,hcb2⟩:=hcb;have HY:=ae hy;clear ZZ ZV SD hBL ED PZ g0' g1' g2' g3' d1 gU hy;go_wp2_with fail
   go_loop [10,11] (λt i=>∃k:Nat,k<=g.az.length/\i= .int .i64 k/\t= .int .i64 (aQ (g.az.take k))) (λ_ i=>g.az.length-(intOf i).toNat)
   case atStart=>exact⟨0,by omega,rfl,rfl⟩
   case round=>
    obtain⟨k,hk,rfl,rfl⟩:=hrel;have hcT:(aQ (g.az.take k):Int)=aQ (g.az.take k):=rfl;have hct:=dB (l:=g.az.take k) (λo ho=>uZ.out o (List.mem_of_mem_take ho));rw[List.length_take,Nat.min_eq_left hk]at hct;obtain⟨Km,C3⟩:=hct;by_cases hlt:k<g.az.length
    ·obtain⟨lb,oU,o,rfl,hlb,hok,_,o1,_⟩:=Xc.get hlt;have Bc:=uZ.out o (List.mem_of_getElem? hok);have Zl:=Bc.2.1;have Zk:=Bc.2.2.1;have IE:=ae hok;have hkl:(k:Int)<(g.az.length:Int):=by omega
     have hlen:(k:Int)<=400:=by omega
     clear hok Bc hcT;go_wp2_with fail
     go_round
     case rel=>exact⟨k+1,by omega,by go_num,by rw[List.take_add_one,IE.out];simp only[Option.toList_some];rw[pM];simp[aQ]⟩
     case measure=>simp[intOf];omega
    ·obtain rfl:k=g.az.length:=by omega
     rw[List.take_length]at Km C3 ⊢;have XT:=ae (show Row wc w.heap.size #[.int .i64 0,.int .i64 0] 75 from DX.below Rf.out hrl);have hns:=HY1.out;have hs2:=HI.hi;have hs3:=HI.lo;go_wp2_with fail;refine(HST _ (aV _ _)).mono ?_;rintro e w1 ⟨rfl,EC,hw1⟩;rw[HY2.out]at EC;have LL:=ae EC;have uo:=ae hw1;have hz1:=hw1.size;have hfbm:¬fb=mc:=by omega
     have htbm:¬tb=mc:=by omega
     have hgbm:¬wb.heap.size=mc:=by omega
     have oY:=ae (XT.wr hw1 (show¬w.heap.size=mc by omega));have HFR1:=ae (zT.wr hw1 hfbm);have HTR1:=ae (show iG w1 tb (List.replicate nt ⟨0,0⟩)from(by obtain⟨cv,h1,h2⟩:=HTR.out;exact⟨cv,h1.wr hw1 htbm,h2⟩));have HGR1:=ae (HGR.wr hw1 hgbm);have bQ:=ae (show Below ai w w1 from dw.trans (hw1.below (by omega) (λk hk=>by omega)));have hfl:=HFR1.lt;have htl:=(by obtain⟨_,h,_⟩:=HTR1.out;exact h.lt:tb<w1.heap.size)
     have HWA:=ae (show Wr own w w1 from((HW0.mono (λk hk=>aK (hk▸Xb.out))).trans (eW Rf.out) (λi hi=>hi.elim)).trans hw1 (λi hi=>aK (hi▸Xb.out)));clear EC hw1;obtain⟨i0,hi,hz0,hzz1,hzz2⟩:=info_parts Pb;go_wp2_with fail;go_loopw [12] (λi wr=>∃(k:Nat)(df:Nat->Prop)(r9:Value),k<=g.az.length/\i= .int .i64 k/\zZ ai mc own P ah {s with calls:=s.calls+1,deep:=max s.deep (s.calls+1),steps:=s.steps+aQ g.az} fb tb nt g LA bn BA cI s.mem w wb.heap.size w1 wr k df r9) (λi _=>g.az.length-(intOf i).toNat)
     case atStart=>exact⟨0,own,.slice none 0 0,by omega,rfl,⟨LL.out,HFR1.out,HTR1.out,HGR1.out,oY.out,World.ownsRow_nil _ _ _ _,λ_ h=>h,λ_ h=>aK h,λ_ h=>(by cases h),Wr.refl _ _⟩⟩
     case round=>
      obtain⟨k,df,r9,hk,rfl,hL⟩:=hrel;have hzr:=hL.wr.size;have aJ:ai<=w1.heap.size:=by omega
      have hBr:Below ai w wr:=bQ.trans (hL.wr.below aJ (λi hi=>by rcases hi with hi|hi;exact(HOW.out i hi).1;omega));have HBr:=ae hBr;have e2:wr.cell? ⟨wb.heap.size,2,none⟩=some (.slice LA g.az.length bn):=hL.grow.cell (j:=2) rfl;have HL:=ae hL;by_cases hlt:k<g.az.length
      ·
       obtain⟨lb,oU,o,rfl,hlb,hok,o0,o1,⟨ov,o2,hov⟩,_,_⟩:=(Rc.below hBr (aY _) (λ_ _ h=>h.below hBr (aY _))).get hlt;simp only[Nat.add_zero]at o0 o1 o2;obtain⟨OA,JM,hOv⟩:∃OA JM,ov= .slice OA o.init.length JM:=(by obtain⟨A',c',h,_⟩:=hov;exact⟨_,_,h⟩)
       subst hOv;have Bc:=uZ.out o (List.mem_of_getElem? hok);have Vg:(au (bf s.mem (g.az.take k))).length=(au s.mem).length+k:=pG _ _ _ hk;have jk:(au s.mem).length<=100000020:=by have:=HI.many;have:=HI.lo;have:=HI.hi;omega
       have W9:=ae (λW(hb:Below wr.heap.size wr W)=>Av ai mc df P ah _ o (.slice OA o.init.length JM) W (HL.pH.below hb) Bc (hov.below (hb.mono (by omega)) (aY _)) (by show(au (bf s.mem (g.az.take k))).length+1<=1000000000;omega));have IE:=ae hok;have HHB:=ae Vg;have hkl:(k:Int)<(g.az.length:Int):=by omega
       have hk0:(0:Int)<=(k:Int):=by omega
       have e5:wr.cell? ⟨fb,1,none⟩=some r9:=hL.Nb.cell (j:=1) rfl;have ZA:lb<wr.heap.size:=by omega
       have IJ:=ae (show¬df fb from λh=>by rcases HL.down fb h with h|h;have:=(HOW.out fb h).2;omega;omega);clear hL hBr hok hov Bc Vg;go_wp2_with fail;go_region_law
        (first
         |(go_simp;go_at_call 31;refine(W9 _ (by exact(aV _ _).drew)).mono ?_;rintro e w2 ⟨rfl,cP,hu2,hd2,Q6,hw2⟩;have hF2:=(HL.Nb.drew).wr hw2 IJ.out;have h5:w2.cell? ⟨fb,1,none⟩=some r9:=hF2.cell (j:=1) rfl;have h5f:=hF2.free 1;have h5l:=hF2.lt;have HF2:=ae hF2;have TQ:=ae Q6;have z6:=ae hw2;have HU2:=ae (And.intro hu2 hd2);have hzw2:wr.heap.size<=w2.heap.size:=hw2.size;clear hF2 Q6 hw2 hu2 hd2)
         |(refine step_append_lies _ (by rfl) _ _ _ (by rfl) w1.heap.size 3 i0 _ 1 8 underlying36 hi hz0 hzz1 hzz2 rfl (by omega) r9 k ((cX s.mem k).map λx=>Value.int .i64 (x:Nat)) (by rfl) (RI (aF (Mx HL.az) z6 (λi hi h=>HL.YR i hi h)) _) ⟨w2.heap.size,0,none⟩ 1 1 [.int .i64 ((au (bf s.mem (g.az.take k))).length:Nat)] (by rfl) (by rfl) (nV _ _ _) (by intro u hu;simp at hu;subst hu;rfl) (by omega) (by unfold maxLen;omega) (by omega) (by simp;omega) (w2.heap.size+1) (by simp) ?_;intro gg fJ w3 iM hgrow hat hlt3;have ig:=(HF2.alloc (.cells #[.int .i64 ((au (bf s.mem (g.az.take k))).length:Nat)] 3)).wr (Wr.grown (F:=λi=>r9.ownBlock=some i) hgrow (λi hi=>hi)) (λh=>by obtain⟨_,cs',hr'⟩:=aC HL.az h;exact HL.Nb.ne hr' (by decide) rfl);have h6:w3.cell? ⟨fb,1,none⟩=some r9:=ig.cell (j:=1) rfl;have h6f:=ig.free 1;have HOW3:=ae iM;have NP:=ae hgrow;have uw:=ae hat;clear ig iM hgrow hat))
       all_goals go_wp2_with fail
       all_goals
        go_roundw
        case rel=>
         exact⟨k+1,cP,.slice (some ⟨gg,0,none⟩) (k+1) fJ,by omega,by go_num,Jq HL.out IE.out HU2.1 HU2.2 TQ.out z6.out aJ (by omega) ⟨λh=>by have:=(HOW.out fb h).2;omega,hfl⟩ ⟨λh=>by have:=(HOW.out tb h).2;omega,htl⟩ ⟨λh=>by have:=(HOW _ h).2;omega,by omega⟩ ⟨λh=>by have:=(HOW _ h).2;omega,by omega⟩ HOW3.out NP.out uw.out⟩
        case measure=>simp[intOf];omega
      ·obtain rfl:k=g.az.length:=by omega
       obtain⟨w2,rfl⟩:∃w2:World,w2=wr:=⟨_,rfl⟩
       have HARG2:=ae (show∀j v,args[j]? =some v->∃b off,AA=some ⟨b,off,none⟩/\b<w.heap.size/\bJ w2 b (off+j*2) v from λj v hj=>by
        obtain⟨b,off,h1,h2,h3,h4⟩:=CC.out j v hj;exact⟨b,off,h1,h2,h4.wr2 HWA.out h3 h2 HL.wr (λh=>by rcases h with h|h;exact h3 h;omega) (by omega)⟩)
       clear hL hBr;go_wp2_with fail;go_loopw [13] (λi wr=>∃k:Nat,k<=an/\i= .int .i64 k/\iG wr tb (args.take k++List.replicate (nt-k) ⟨0,0⟩)/\Wr (λb=>b=tb) w2 wr) (λi _=>an-(intOf i).toNat)
       case atStart=>exact⟨0,by omega,rfl,by simpa using HL.YD,Wr.refl _ _⟩
       case round=>
        obtain⟨k,hk,rfl,Fk,hwr⟩:=hrel;have hzr2:=hwr.size;have hzl2:=HL.Nb.lt;have hft:¬fb=tb:=(by obtain⟨_,h,_⟩:=HL.YD;exact λe=>HL.Nb.ne h (by decide) e)
        have P6:=HL.Nb.wr hwr hft;have e4:wr.cell? ⟨fb,0,none⟩=some (.slice (some ⟨tb,0,none⟩) nt nt):=P6.cell (j:=0) rfl;have tN:=ae hwr;have KY:=ae Fk;by_cases hlt2:k<an
        ·
         obtain⟨av,hav⟩:∃v,args[k]? =some v:=⟨_,List.getElem?_eq_getElem (by omega)⟩
         obtain⟨ab,aoff,rfl,hab,ha⟩:=HARG2.out k av hav;have hab2:¬ab=tb:=by omega
         obtain⟨a0,a1⟩:=ha.wr1 hwr hab2 (by omega);have HAV:=ae hav;have hkan:(k:Int)<(an:Int):=by omega
         have hknt:(k:Int)<(nt:Int):=by omega
         obtain⟨cv,yD,gT⟩:=Fk;have hvsz:cv.size=nt*2:=(by have:=gT.1;rw[this];simp;omega)
         have t5:=yD.free (k*2);have t6:=yD.free (k*2+1);obtain⟨u7',t7⟩:∃u,wr.cell? ⟨tb,k*2,none⟩=some u:=⟨_,yD.cell (Array.getElem?_eq_getElem (by omega))⟩
         obtain⟨u8',t8⟩:∃u,wr.cell? ⟨tb,k*2+1,none⟩=some u:=⟨_,yD.cell (Array.getElem?_eq_getElem (by omega))⟩
         clear yD gT P6 hwr ha hav hvsz;go_wp2_with fail;refine nI 10 (by kernel_rfl) (by kernel_rfl) ?_;simp only[List.take_succ_cons,List.take_zero,List.drop_succ_cons,List.drop_zero]
         repeat still_step
         try refine wpStill_nil ?_
         go_wp2_with fail;go_roundw
         case rel=>
          have hV2:=KY.set k av;rw[Jl (by omega) HAV (by have:=HAN.out;omega)]at hV2;exact⟨k+1,by omega,by go_num,hV2,(tN.trans (gI _ _ _ _ _ _) (λi h=>aK h)).trans (eW (aV _ _).drew) (λi h=>h.elim)⟩
         case measure=>simp[intOf];omega
        ·obtain rfl:k=an:=by omega
         obtain⟨w3,rfl⟩:∃w3:World,w3=wr:=⟨_,rfl⟩
         have hst:args.take k++List.replicate (nt-k) (⟨0,0⟩:V)=gJ nt args:=by rw[<-HAN.out,List.take_length];rfl
         rw[hst]at KY;have Y6:(gJ nt args).length=nt:=by rw[<-hst,List.length_append,List.length_take,List.length_replicate,HAN.out];omega
         have yj:=ae (FW HL.out tN.out KY.out Y6 tD (by omega) (HOW.out) HWA.out cB.out hfb NY (by omega) HSS.out);clear hst Y6 hwr Fk P6;have hgs:(ah-(s.steps+aQ g.az)).toNat<(ah-(s.steps+aQ g.az)+1).toNat:=by have:=IL.out;omega
         have HGS:=ae hgs;clear hgs;go_wp2_with fail;refine Ei ai mc own df P ah (s.calls+1) p f fb tb nt wb.heap.size _ 0 g LA BA bn cI r9 (cX s.mem g.az.length) R _ _ _ w w3 hf (by omega) HP.out HOW.out X4 (gm _ _) HG.out yj.out hnb HGS.out rfl (by omega) (by omega) QJ.out D6.out qW.out hil N7.out WX.out XE KZ.out LM.out HCOK.out S5 _ ?_;exact λ_ _ h=>h
end Go.Proofs.YtinmgbodgecoeaaGreat
namespace Go.Proofs.YtinmgbodgecoeaaGreat
open Go.RowKit
theorem Mq(ai mc:Nat)(own:Nat->Prop)(P:Value×Value×Value×Value)(ah:Int)(p:bB)(s:St)(f:Nat)(g:aR)(args:List V)(AA:Option Addr)(an oD:Nat)(w:World)
  (hM:bG w ai mc own P ah s)(hP:bP w ai (P.1,P.2.1,P.2.2.1) p)(hI:GInv ah s)(hf:ah<=100000000)(hg:p.funcs[f]? =some g)(Z0:0<=s.calls)(hd:s.calls<64)(PM:0<=s.deep)(nt:Nat)(hnt:g.regs=nt)(tD:nt<=8000)(gU:∀o,o∈g.az->rY o)(hnl:g.az.length<=400)(hy:(aL ah (aQ g.az) {s with calls:=s.calls+1,deep:=max s.deep (s.calls+1)}).1=false):
  Calls prog 32 #[.pointer (some ⟨mc,0,none⟩),.int .i64 f,.slice AA an oD] w λe w'=>jf ai mc own P ah (none,(aL ah (aQ g.az) {s with calls:=s.calls+1,deep:=max s.deep (s.calls+1)}).2) w e w':=by
 have hmc:=(by obtain⟨_,_,_,_,h⟩:=hM;exact⟨h.mine,h.rest.own mc h.mine⟩:own mc/\ai<=mc/\mc<w.heap.size)
 obtain⟨hm0,Zt,Zr⟩:=hmc;obtain⟨inv,outv,aU,rb,xw⟩:=id hM;have c9:w.cell? ⟨mc,10,none⟩=some (.int .i64 s.deep):=xw.row.cell (j:=10) rfl;have c11:w.cell? ⟨mc,12,none⟩=some (.int .i64 s.calls):=xw.row.cell (j:=12) rfl;have f9:=xw.row.free 10;have f11:=xw.row.free 12;have q64:(s.calls==64)=false:=by simp;omega
 obtain⟨AF,nf,EN,C5⟩:∃AF nf EN,P.2.1= .slice AF nf EN:=(by obtain⟨A',c',h,_⟩:=hP.2.1;exact⟨_,_,_,h⟩)
 have c1:w.cell? ⟨mc,1,none⟩=some (.slice AF nf EN):=C5▸xw.row.cell (j:=1) rfl;have DJ:SliceAt w ai 4 (fT w ai) p.funcs P.2.1:=hP.2.1;rw[C5]at DJ;have hfn:f<nf:=(by have:=DJ.len.1;rcases Nat.lt_or_ge f p.funcs.length with h|h;omega;rw[List.getElem?_eq_none h]at hg;cases hg)
 obtain⟨gb,mM,g',rfl,hgb,hg',zX⟩:=DJ.get hfn;rw[hg]at hg';injection hg' with hg';subst hg';obtain⟨g0,g1,⟨lv0,g2,hlo⟩,⟨bv,g3,hbl⟩,_,_⟩:=zX;simp only[Nat.add_zero]at g0 g1 g2 g3;obtain⟨LA,bn,hlv⟩:∃LA bn,lv0= .slice LA g.az.length bn:=(by obtain⟨A',c',h,_⟩:=hlo;exact⟨_,_,h⟩)
 subst hlv;obtain⟨BA,cI,Bi⟩:∃BA cI,bv= .slice BA g.ins.length cI:=(by obtain⟨A',c',h,_⟩:=hbl;exact⟨_,_,h⟩)
 subst Bi;have MW:=hlo.len.2;have hbll:=hbl.len.2;have zW:=DJ.len.2;have hfn0:(0:Int)<=(f:Int):=by omega
 have hfn1:(f:Int)<(nf:Int):=by omega
 have CZ:gb<w.heap.size:=by omega
 have HM:=ae hM;have HP:=ae hP;have HI:=ae hI;have Rc:=ae hlo;have X4:=ae hbl;have Xb:=ae hm0;have HOW:=ae (show∀k,own k->ai<=k/\k<w.heap.size from xw.rest.own);have D5:=ae xw;obtain⟨Z,hZ,hmk⟩:=o8 nt (by omega);rw[hnt]at g1;have N7:=ae hnt;clear hnt;have hd1:0<=s.deep:=PM;have HPF:=ae C5;clear hM hP hI hlo hbl hm0 xw DJ hg C5;go_enter func32,ntmps32;go_upto_region 4 with fail;go_cut [] (λwx=>bK wx ai mc own P ah {s with calls:=s.calls+1,deep:=max s.deep (s.calls+1)} inv outv aU rb/\Row wx w.heap.size #[.int .i64 0,.int .i64 0] 75/\Wr (λk=>k=mc) w wx)
 case first=>
  refine nI 14 (by kernel_rfl) (by kernel_rfl) ?_;simp only[List.take_succ_cons,List.take_zero,List.drop_succ_cons,List.drop_zero]
  repeat still_step
  try refine wpStill_nil ?_
  go_wp2_with fail
  all_goals go_meet
  all_goals
   refine⟨bK.below (w:=(w.setCell ⟨mc,12,none⟩ _).setCell ⟨mc,10,none⟩ _) (bK.num (bK.num (s':={s with calls:=s.calls+1}) D5.out 12 _ rfl rfl rfl rfl) 10 _ ?_ rfl rfl rfl) ((ax _ _).drew),(Row.new' _ _ (by simp)).drew,((Wr.cell1 w mc 12 _).trans (Wr.cell1 _ mc 10 _) (λ_ h=>aK h)).trans (eW ((ax _ _).drew)) (λ_ h=>h.elim)⟩;simp[rN];omega
 case rest=>
  obtain⟨Vk,EB,hW0⟩:=hcut;have hBw:Below ai w wc:=hW0.below (by omega) (λk hk=>by omega);have CH:=ae Vk;have DX:=ae EB;have HW0:=ae hW0;have hzc:=hW0.size;have hrl:=EB.lt;have d1:wc.cell? ⟨mc,1,none⟩=some (.slice (some ⟨gb,mM,none⟩) nf EN):=HPF.out▸Vk.row.cell (j:=1) rfl;have g0':=ag g0 hBw hgb;have g1':=ag g1 hBw hgb;have g2':=ag g2 hBw hgb;have g3':=ag g3 hBw hgb;have cB:=ae hBw;clear Vk EB hW0 hBw g0 g1 g2 g3 c1 c9 c11 f9 f11;have ZH:gb<wc.heap.size:=by omega
  obtain⟨wb,rfl⟩:∃wb:World,wb=wc:=⟨_,rfl⟩
  go_upto_region 6 with fail;go_cut [9] (λv9 wx=>∃fb tb:Nat,v9= .pointer (some ⟨fb,0,none⟩)/\Row wx fb #[.slice (some ⟨tb,0,none⟩) nt nt,.slice none 0 0] 120/\iG wx tb (List.replicate nt ⟨0,0⟩)/\Row wx wb.heap.size #[.int .i64 g.params,.int .i64 nt,.slice LA g.az.length bn,.slice BA g.ins.length cI] 54/\Below wb.heap.size wb wx/\wb.heap.size<fb/\wb.heap.size<tb)
  case first=>
   go_wp2_with fail
   all_goals go_meet
   all_goals exact⟨wb.heap.size+1+1,wb.heap.size+1,rfl,(Row.new' _ _ (by simp)),⟨Z,((Row.new' _ _ (by simp)).alloc _),hZ⟩,(((Row.new _ _ _).alloc _).alloc _),(aN _ _ _ _),by omega,by omega⟩
  case rest=>
   obtain⟨fb,tb,rfl,ZZ,ZV,SD,hBL,hfb,NY⟩:=hcut;have zT:=ae ZZ;have HTR:=ae ZV;have HGR:=ae SD;have Rf:=ae hBL;have hz2:=hBL.size;have ED:Below ai w wc:=cB.trans (hBL.mono (by omega));have dw:=ae ED;have gr2:wc.cell? ⟨wb.heap.size,2,none⟩=some (.slice LA g.az.length bn):=SD.cell (j:=2) rfl;have gr3:wc.cell? ⟨wb.heap.size,3,none⟩=some (.slice BA g.ins.length cI):=SD.cell (j:=3) rfl;have PZ:=Rc.below ED (aY _) (λ_ _ h=>h.below ED (aY _));have Xc:=ae PZ
   have HST:=ae (λW(hb:Below wc.heap.size wc W)=>hy▸tP ai mc own P ah (aQ g.az) {s with calls:=s.calls+1,deep:=max s.deep (s.calls+1)} W ⟨_,_,_,_,(CH.below Rf.out).below hb⟩ HI.lo HI.hi (by omega) (by have:=dB gU;omega) (by have:=dB gU;omega));have uZ:=ae gU;have hcb:=dB gU;obtain⟨hcb1,hcb2⟩:=hcb;have HY:=ae hy;clear ZZ ZV SD hBL ED PZ g0' g1' g2' g3' d1 gU hy;go_wp2_with fail
   go_loop [10,11] (λt i=>∃k:Nat,k<=g.az.length/\i= .int .i64 k/\t= .int .i64 (aQ (g.az.take k))) (λ_ i=>g.az.length-(intOf i).toNat)
   case atStart=>exact⟨0,by omega,rfl,rfl⟩
   case round=>
    obtain⟨k,hk,rfl,rfl⟩:=hrel;have hcT:(aQ (g.az.take k):Int)=aQ (g.az.take k):=rfl;have hct:=dB (l:=g.az.take k) (λo ho=>uZ.out o (List.mem_of_mem_take ho));rw[List.length_take,Nat.min_eq_left hk]at hct;obtain⟨Km,C3⟩:=hct;by_cases hlt:k<g.az.length
    ·obtain⟨lb,oU,o,rfl,hlb,hok,_,o1,_⟩:=Xc.get hlt;have Bc:=uZ.out o (List.mem_of_getElem? hok);have Zl:=Bc.2.1;have Zk:=Bc.2.2.1;have IE:=ae hok;have hkl:(k:Int)<(g.az.length:Int):=by omega
     have hlen:(k:Int)<=400:=by omega
     clear hok Bc hcT;go_wp2_with fail
     go_round
     case rel=>exact⟨k+1,by omega,by go_num,by rw[List.take_add_one,IE.out];simp only[Option.toList_some];rw[pM];simp[aQ]⟩
     case measure=>simp[intOf];omega
    ·obtain rfl:k=g.az.length:=by omega
     rw[List.take_length]at Km C3 ⊢;have XT:=ae (show Row wc w.heap.size #[.int .i64 0,.int .i64 0] 75 from DX.below Rf.out hrl);go_wp2_with fail;refine(HST _ (aV _ _)).mono ?_;rintro e w1 ⟨rfl,EC,hw1⟩;have hr0:=XT.wr hw1 (show¬w.heap.size=mc by omega);have r0:w1.cell? ⟨w.heap.size,0,none⟩=some (.int .i64 0):=hr0.cell (j:=0) rfl;have r1:w1.cell? ⟨w.heap.size,1,none⟩=some (.int .i64 0):=hr0.cell (j:=1) rfl;have r2:=hr0.free 0;have r3:=hr0.free 1;have LL:=ae EC;have uo:=ae hw1;clear hr0 EC hw1;go_wp2_with fail;refine aS (v:=aO none) ?_ rfl ⟨rfl,own,λ_ h=>h,λ_ h=>aK h,LL.wr (xy _ _ _ _) (λk hk=>⟨by omega,λho=>by have:=(HOW _ ho).2;omega⟩),?_⟩
     ·simp[results,results32,go_sem,aO, *]
     ·exact((((HW0.mono (λk hk=>aK (hk▸Xb.out))).trans (eW Rf.out) (λi hi=>hi.elim))).trans uo (λi hi=>aK (hi▸Xb.out))).trans (xy _ _ _ _) (λi hi=>bu (by omega))
theorem Du{p:bB}(hin:tJ p)(hm:bY p=true){ah:Int}(hf:ah<=100000000):∀(d:Nat)(c:Int),(d:Int)+c=64->tY p ah c (mZ (eB p) ah d)
 |0,c,hd=>by
  intro f g args s ai mc own P AA an oD w hg hal h hP hL hI hc hgl jr GS hargs;rw[mZ];exact JD ai mc own P ah p s f g args AA an oD w h hP hI hf hg hI.calls (by omega)
 |d+1,c,hd=>by
  intro f g args s ai mc own P AA an oD w hg hal h hP hL hI hc hgl jr GS hargs;have hp:=vF hin hm;have hg2:=xC hg;have hmem:=List.mem_of_getElem? hg;have hfn:=hp.fns _ (List.mem_of_getElem? hg2);obtain⟨⟨_,_,p3,_,_,p5,p6,p7⟩,hall,hlast⟩:=rF (rJ hm hmem);obtain⟨nt,hnt,Sk,_⟩:=hfn.nt;have gU:∀o,o∈g.az->rY o:=λo ho=>(hfn.UF o ho).1;by_cases hy:(aL ah (aQ g.az) {s with calls:=s.calls+1,deep:=max s.deep (s.calls+1)}).1=true
  ·rw[xY hg2 hnt hy];obtain⟨_,hy1,_⟩:=nJ hy;simp only at hy1;have hnt':g.regs=(nt:Int):=hnt;obtain⟨k1,k2,k3,k4,k5⟩:=qR hfn hnt hI jr (by omega) hgl hf (by show s.steps+aQ g.az<=ah;omega);exact OM ai mc own P ah p s f g args AA an oD w h hP hI hf hg hI.calls (mZ (eB p) ah d) (by omega) hI.deep nt hnt Sk gU hfn.az hargs GS (by omega) ⟨k1,k2,k5⟩ (by omega)
    hall hlast p7 (by omega) (Ad hm) (by have:=hp.Qa;show p.ay.length<=1000;have h2:p.ay.length<=16:=this;omega) (hin.ins g hmem) hL (Du hin hm hf d _ (by omega)) (xX hp hf d) hy
  ·have hy0:(aL ah (aQ g.az) {s with calls:=s.calls+1,deep:=max s.deep (s.calls+1)}).1=false:=by simpa using hy
   rw[uW hg2 hy0];exact Mq ai mc own P ah p s f g args AA an oD w h hP hI hf hg hI.calls (by omega) hI.deep nt hnt Sk gU hfn.az hy0
end Go.Proofs.YtinmgbodgecoeaaGreat
namespace Go.Proofs.YtinmgbodgecoeaaGreat
open Go.RowKit
attribute [local go_sem ↓] Go.wp_at_zero Go.wp_at_succ
end Go.Proofs.YtinmgbodgecoeaaGreat
namespace Go.Proofs.YtinmgbodgecoeaaGreat
open Go.RowKit
def EU(o:um)(ai:Nat)(w:World)(e:Ending)(w':World):Prop:=
 ∃outv,e= .returned (.agg #[.int .i64 o.kind,.int .i64 o.code,outv,.int .i64 o.steps,.int .i64 o.deep])/\w'.ownsRow ai 2 1 outv o.out.length (o.out.map (Value.int .i64))/\Below w.heap.size w w'
theorem Ea(w:World)(r:Nat)(a b c d e:Value)(o:Obj):Wr (λi=>i=r) w ((((((w.setCell ⟨r,0,none⟩ a).setCell ⟨r,1,none⟩ b).setCell ⟨r,2,none⟩ c).setCell ⟨r,3,none⟩ d).setCell ⟨r,4,none⟩ e).alloc o):=
 ((((((Wr.cell1 w r 0 a).trans (Wr.cell1 _ r 1 b) (λ_ h=>aK h)).trans (Wr.cell1 _ r 2 c) (λ_ h=>aK h)).trans (Wr.cell1 _ r 3 d) (λ_ h=>aK h)).trans (Wr.cell1 _ r 4 e) (λ_ h=>aK h)).trans (eW (ax _ o)) (λ_ h=>h.elim))
theorem bK.setP{w:World}{ai mc:Nat}{own:Nat->Prop}{P:Value×Value×Value×Value}{ah:Int}{s:St}{inv outv aU:Value}{rb:Nat->Nat}(h:bK w ai mc own P ah s inv outv aU rb)(v:Value):bK (w.setCell ⟨mc,3,none⟩ v) ai mc own (P.1,P.2.1,P.2.2.1,v) ah s inv outv aU rb:=by
 obtain⟨hr,hm,hs⟩:=h;have hb:=(hs.own mc hm)
 have hw:Wr (λk=>k=mc) w (w.setCell ⟨mc,3,none⟩ v):=Wr.setCell w ⟨mc,3,none⟩ v rfl;refine⟨hr.set 3 v,hm,(hs.TX hw (λk hk=>?_) (by omega))⟩;subst hk;exact⟨hb.1,λ_=>⟨_,hr⟩⟩
def nY(w:World)(N k:Nat)(xs:List Value)(v:bB):Prop:=∀(f:Nat)(c:aR),f<k->v.funcs[f]? =some c->∃lb,xs[f]? =some (.slice (some ⟨lb,0,none⟩) 8000 8000)/\fM w lb 8000 (oH c.ins c.ins.length)/\N<=lb
theorem fM.lt{w:World}{b N:Nat}{f:Nat->Int}(h:fM w b N f):b<w.heap.size:=by obtain⟨_,h,_⟩:=h;exact h.lt
theorem nY.wr{F:Nat->Prop}{w w':World}{N k:Nat}{xs:List Value}{v:bB}(h:nY w N k xs v)(hw:Wr F w w')(hF:∀i,F i->∃cs t,Row w i cs t/\t≠3):nY w' N k xs v:=λf c hf hc=>by
 obtain⟨mb,h1,h2,h3⟩:=h f c hf hc;exact⟨mb,h1,h2.wr hw (λhx=>by obtain⟨cs,t,hr,ht⟩:=hF _ hx;obtain⟨cs',hr',_⟩:=h2;exact hr.ne hr' ht rfl),h3⟩
theorem nY.next{w:World}{N k:Nat}{xs:List Value}{v:bB}{c:aR}{lb:Nat}(h:nY w N k xs v)(hx:xs.length=k)(hc:v.funcs[k]? =some c)(hm:fM w lb 8000 (oH c.ins c.ins.length))(hN:N<=lb):nY w N (k+1) (xs++[.slice (some ⟨lb,0,none⟩) 8000 8000]) v:=λf g hf hg=>by
 by_cases he:f=k
 ·subst he;obtain rfl:c=g:=Option.some.inj (hc.symm.trans hg);exact⟨lb,by rw[List.getElem?_append_right (by omega),hx,Nat.sub_self];rfl,hm,hN⟩
 ·obtain⟨lb',h1,h2,h3⟩:=h f g (by omega) hg;exact⟨lb',by rw[List.getElem?_append_left (by omega)];exact h1,h2,h3⟩
theorem nY.CV{own:Nat->Prop}{w:World}{N:Nat}{A:Option Addr}{c:Nat}{t:TypeId}{xs:List Value}{v:bB}(h:nY w N v.funcs.length xs v)(ho:w.ownsRow N t 1 (.slice A v.funcs.length c) v.funcs.length xs)(hpos:0<v.funcs.length)(hown:∀k,own k->k<N):mR w own w.heap.size (.slice A v.funcs.length c) v:=by
 have hx0:∃x,xs[0]? =some x:=⟨_,List.getElem?_eq_getElem (by rw[ho.1];omega)⟩
 obtain⟨x,hx⟩:=hx0;obtain⟨lb,rfl,h1,h2,_⟩:=ru ho hx;refine⟨lb,c,rfl,λh=>by have:=hown _ h;omega,h2,λf g hg=>?_⟩;obtain⟨mb,g1,g2,g3⟩:=h f g (List.getElem?_eq_some_iff.1 hg).1 hg;obtain⟨lb',he,_,_,hcell⟩:=ru ho g1;injection he with he;injection he with he;subst he;rw[Nat.zero_add]at hcell;exact⟨mb,8000,hcell,g2,λh=>by have:=hown _ h;omega,g2.lt⟩
theorem Mc{w:World}{B:Nat}{P:Value×Value×Value×Value}{ah:Int}{inp:List Int}{inv:Value}(hB:B<=w.heap.size)(hin:uB w B inv inp)(o1 o2:Obj):
  bG (((w.alloc o1).alloc o2).alloc (.cells (rN P ah (vz inp) inv (.slice none 0 0) (.slice none 0 0)) 86)) w.heap.size (w.heap.size+1+1) (λk=>k=w.heap.size+1+1) P ah (vz inp):=by
 have hb:=aN w o1 o2 (.cells (rN P ah (vz inp) inv (.slice none 0 0) (.slice none 0 0)) 86);refine⟨inv,.slice none 0 0,.slice none 0 0,λ_=>0,Row.new' _ _ (by simp),rfl,⟨?_,World.ownsRow_nil _ _ _ _,λg hg=>(by cases hg),⟨⟨[],World.ownsRow_nil _ _ _ _,λk o h=>(by simp[vz]at h)⟩,λk o _ h=>(by simp[vz]at h),λi j _ h=>(by simp[vz]at h),⟨by simp[vz],λo h=>(by simp[vz]at h),λk o _ h=>(by simp[vz]at h),λo h=>(by simp[vz]at h)⟩⟩,λg hg=>(by cases hg),λk hk=>?_⟩⟩
 ·obtain⟨A,aA,h0,h1,h2,h3⟩:=hin;refine⟨A,aA,h0,h1,h2,λhp=>?_⟩;obtain⟨b,off,hA,hlt,hc⟩:=h3 hp;exact⟨b,off,hA,by omega,λj x hj=>⟨(hb.cell (p:=⟨b,off+j,none⟩) (show b<w.heap.size by omega)).trans (hc j x hj).1,(hc j x hj).2⟩⟩
 ·subst hk;refine⟨by omega,by simp⟩
theorem Rv(B:Nat)(ah:Int)(p:bB)(inp:List Int)(GA FA IA:Option Addr)(iP jb icap:Nat)(f:Nat)(g:aR)(w:World)
  (hB:B<=w.heap.size)(hP:bP w B (.slice GA p.ay.length iP,.slice FA p.funcs.length jb,.int .i64 (f:Nat)) p)(hin:uB w B (.slice IA inp.length icap) inp)(Pm:bY p=true)(tC:tJ p)(hmain:p.main=(f:Nat))(hfun:p.funcs[f]? =some g)(hg0:g.params=0)(hf0:0<=ah)(hf:ah<=100000000):
  Calls prog 13 #[.agg #[.slice GA p.ay.length iP,.slice FA p.funcs.length jb,.int .i64 (f:Nat)],.slice IA inp.length icap,.int .i64 ah] w λe w'=>EU (vI (eB p) inp ah) w.heap.size w e w':=by
 have hpk:=vF tC Pm;have gU:∀o,o∈p.ay->rY o:=λo ho=>(hpk.ay o ho).1;have hgl:p.ay.length<=16:=hpk.Qa;have hst:=Lh hf0 (uB.Pd hin) hpk.ay hpk.Qa;have hst:GInv ah {vz inp with mem:=bf [] p.ay}/\(au (bf [] p.ay)).length=p.ay.length+1:=hst;have zW:1<=p.funcs.length/\p.funcs.length<=8:=by
  unfold bY at Pm;by_cases hh:s5 p
  ·have h1:=hh.2.1;have h2:=hh.2.2.1;omega
  ·rw[if_neg hh]at Pm;cases Pm
 have ZN:∀c,c∈p.funcs->c.ins.length<=8000:=λc hc=>by
  obtain⟨⟨_,_,_,_,_,_,h,_⟩,_⟩:=rF (rJ Pm hc);omega
 have HP:=ae hP;have vC:=ae hin;have uZ:=ae gU;have HFUN:=ae hfun;have HST:=ae hst;have zS:=ae hg0;have HCIN:=ae ZN;have HVM:=ae Pm;have KZ:=ae tC;obtain⟨hnf0,hnf1⟩:=zW;obtain⟨r,hr⟩:∃r,r=mZ (eB p) ah (63+1) f [] {vz inp with mem:=bf [] p.ay}:=⟨_,rfl⟩
 have hrun:vI (eB p) inp ah=oq r:=(Ds (p:=eB p) hmain).trans (congrArg oq hr.symm);simp only[hrun];have HR:=ae hr;clear hP hin gU hfun hst hg0 hmain hrun hr hpk ZN Pm tC;go_enter func13,ntmps13;refine aj λQ HQ=>?_;go_wp2_with fail
 go_loopw [8] (λi wr=>∃(k:Nat)(atv:Value)(xs:List Value),k<=p.funcs.length/\i= .int .i64 k/\bG wr w.heap.size (w.heap.size+1+1) (λb=>b=w.heap.size+1+1) (.slice GA p.ay.length iP,.slice FA p.funcs.length jb,.int .i64 (f:Nat),atv) ah (vz inp)/\wr.ownsRow (w.heap.size+3) 36 1 atv k xs/\nY wr (w.heap.size+3) k xs p/\Row wr w.heap.size #[.slice GA p.ay.length iP,.slice FA p.funcs.length jb,.int .i64 (f:Nat)] 31/\Row wr (w.heap.size+1) #[.int .i64 0,.int .i64 0,.slice none 0 0,.int .i64 0,.int .i64 0] 40/\Below w.heap.size w wr) (λi _=>p.funcs.length-(intOf i).toNat)
 case atStart=>exact⟨0,.slice none 0 0,[],by omega,rfl,by exact Mc (P:=(.slice GA p.ay.length iP,.slice FA p.funcs.length jb,.int .i64 (f:Nat),.slice none 0 0)) (ah:=ah) hB vC _ _,World.ownsRow_nil _ _ _ _,λf c hf=>by omega,((Row.new _ _ _).alloc _).alloc _,(Row.new' _ _ (by simp)).alloc _,aN _ _ _ _⟩
 case round=>
  obtain⟨k,atv,xs,hk,rfl,hM,hown,hlr,EB,hR1,Kt⟩:=hrel;obtain⟨ln,bn,hatv⟩:=gQ hown;subst hatv;have c1:wr.cell? ⟨w.heap.size,1,none⟩=some (.slice FA p.funcs.length jb):=EB.cell (j:=1) rfl;have hz:=hR1.lt;by_cases hlt:k<p.funcs.length
  ·obtain⟨gb,mM,c,rfl,hgb,hok,g0,g1,⟨LV,g2,hlo⟩,⟨BV,g3,hbl⟩,_,_⟩:=((HP.below (Kt.mono hB)).2.1).get hlt;simp only[Nat.add_zero]at g0 g1 g2 g3;obtain⟨LA,lc,hlv⟩:∃LA lc,LV= .slice LA c.az.length lc:=(by obtain⟨A',c',h,_⟩:=hlo;exact⟨_,_,h⟩)
   subst hlv;obtain⟨BA,bc,Bi⟩:∃BA bc,BV= .slice BA c.ins.length bc:=(by obtain⟨A',c',h,_⟩:=hbl;exact⟨_,_,h⟩)
   subst Bi;have hcl:=HCIN.out c (List.mem_of_getElem? hok);have hlab:∀W,Below wr.heap.size wr W->Calls prog 30 #[.agg #[.int .i64 c.params,.int .i64 c.regs,.slice LA c.az.length lc,.slice BA c.ins.length bc]] W λe w'=>Cw c.ins W e w':=λW hW=>yx c LA lc BA bc B W (by have:=hW.size;have:=Kt.size;omega) (hbl.below (hW.mono (by have:=Kt.size;omega)) (aY _) (λ_ _ h=>h.below (hW.mono (by have:=Kt.size;omega)) (aY _))) hcl;have HM:=ae hM;have DX:=ae EB;have oY:=ae hR1;have HOWN:=ae hown;have HLR:=ae hlr;have cB:=ae Kt;have IE:=ae hok;have yf:=ae hlab;have HG0':=ae g0;have HG1':=ae g1;have HG2':=ae g2;have HG3':=ae g3;obtain⟨inv,outv,aU,rb,hA⟩:=hM;have HA:=ae hA
   have CZ:gb<wr.heap.size:=by have:=Kt.size;omega
   clear hA EB hR1 hown hlr Kt hok hlab g0 g1 g2 g3 hlo hbl;go_wp2_with fail;refine Jn (w.heap.size+1+1) w.heap.size (w.heap.size+3) gb mM p.funcs.length jb _ _ _ c LA lc BA bc ln k bn xs wr HA.row rfl DX.out CZ hlt HG0'.out HG1'.out HG2'.out HG3'.out HOWN (by have:=HA.row.lt;omega) (by omega) yf _ (λW W' gg aA lb Y aJ hm hmb r1 r2 r3=>?_);have yj:=ae aJ;have HI:=ae hm;have IC:=ae r1;have NJ:=ae r2;have HR3':=ae r3;clear aJ hm r1 r2 r3;go_wp2_with fail;go_roundw
   case rel=>
    have hmbl:=HA.row.lt;have ja:∀i,(Value.slice ln k bn).ownBlock=some i->w.heap.size+3<=i/\∃cs,Row wr i cs 36:=λi hi=>aC HOWN.out hi;have YZ:Wr (λi=>(Value.slice ln k bn).ownBlock=some i) wr W':=(Wr.of_below (F:=λi=>(Value.slice ln k bn).ownBlock=some i) yj.out).trans (Wr.grown (F:=λi=>(Value.slice ln k bn).ownBlock=some i) NJ (λi hi=>hi)) (λi hi=>aK hi);have hM':bG W' w.heap.size (w.heap.size+1+1) (λb=>b=w.heap.size+1+1) (.slice GA p.ay.length iP,.slice (some ⟨gb,mM,none⟩) p.funcs.length jb,.int .i64 (f:Nat),.slice ln k bn) ah (vz inp):=HM.wr YZ (λi hi=>by have:=(ja i hi).1;exact⟨by omega,by omega⟩);obtain⟨zh,yA,iL,NV,hA'⟩:=hM';have Sb:=Wr.cell1 W' (w.heap.size+1+1) 3 (.slice (some ⟨gg,0,none⟩) (k+1) aA)
    have hwf:∀i cs t,Row wr i cs t->t≠36->t≠86->Row (W'.setCell ⟨w.heap.size+1+1,3,none⟩ (.slice (some ⟨gg,0,none⟩) (k+1) aA)) i cs t:=λi cs t hr h1 h2=>(hr.wr YZ (λh=>by obtain⟨_,cs',hr'⟩:=ja i h;exact hr.ne hr' h1 rfl)).wr Sb (λh=>by subst h;exact(hr.wr YZ (λh=>by obtain⟨_,cs',hr'⟩:=ja _ h;exact hr.ne hr' h1 rfl)).ne hA'.row h2 rfl);have hl1:nY W' (w.heap.size+3) k xs p:=HLR.wr YZ (λi hi=>by obtain⟨_,cs',hr'⟩:=ja i hi;exact⟨cs',_,hr',by decide⟩);have hi1:fM W' lb 8000 (oH c.ins c.ins.length):=HI.wr (Wr.grown (F:=λi=>(Value.slice ln k bn).ownBlock=some i) NJ (λi hi=>hi)) (λh=>by have:=HOWN.lt _ h;omega)
    have hl2:=(hl1.next (by have:=HOWN.1;omega) IE.out hi1 (by omega)).wr Sb (λi hi=>by obtain rfl:i=w.heap.size+1+1:=hi;exact⟨_,_,hA'.row,by decide⟩);refine⟨k+1,.slice (some ⟨gg,0,none⟩) (k+1) aA,_,by omega,by go_num,⟨zh,yA,iL,NV,hA'.setP _⟩,aF IC.out Sb (λi hi h=>?_),hl2,hwf _ _ _ DX (by decide) (by decide),hwf _ _ _ oY (by decide) (by decide),?_⟩
    ·obtain⟨_,cs',hr'⟩:=aC IC.out hi;have:i=w.heap.size+1+1:=h;subst this;exact hr'.ne hA'.row (by decide) rfl
    ·have hwx:Wr (λi=>(Value.slice ln k bn).ownBlock=some i\/i=w.heap.size+1+1) wr (W'.setCell ⟨w.heap.size+1+1,3,none⟩ (.slice (some ⟨gg,0,none⟩) (k+1) aA)):=(YZ.mono (λi hi=>aK (aK hi))).trans Sb (λi hi=>aK (bu hi));exact cB.trans (hwx.below (by omega) (λi hi=>by rcases hi with hi|hi;have:=(ja i hi).1;omega;omega))
   case measure=>simp[intOf];omega
  ·obtain rfl:k=p.funcs.length:=by omega
   have DF:mR wr (λb=>b=w.heap.size+1+1) wr.heap.size (.slice ln p.funcs.length bn) p:=hlr.CV hown (by omega) (λk hk=>by omega);have HLA:=ae DF;have D5:=ae hM;have HRA:=ae (And.intro EB hR1);have Tg:=ae Kt;obtain⟨wa,rfl⟩:∃wa:World,wa=wr:=⟨_,rfl⟩
   clear hM hown hlr EB hR1 Kt DF;go_wp2_with fail;go_loopw [9] (λi wr=>∃(k:Nat)(df:Nat->Prop),k<=p.ay.length/\i= .int .i64 k/\bG wr w.heap.size (w.heap.size+1+1) df (.slice GA p.ay.length iP,.slice FA p.funcs.length jb,.int .i64 (f:Nat),.slice ln p.funcs.length bn) ah {vz inp with mem:=bf [] (p.ay.take k)}/\(∀i,df i->w.heap.size+1+1<=i)/\Row wr w.heap.size #[.slice GA p.ay.length iP,.slice FA p.funcs.length jb,.int .i64 (f:Nat)] 31/\Row wr (w.heap.size+1) #[.int .i64 0,.int .i64 0,.slice none 0 0,.int .i64 0,.int .i64 0] 40/\Below w.heap.size w wr/\mR wr df wr.heap.size (.slice ln p.funcs.length bn) p) (λi _=>p.ay.length-(intOf i).toNat)
   case atStart=>exact⟨0,_,by omega,rfl,D5.out,λi hi=>Nat.le_of_eq hi.symm,HRA.1,HRA.2,Tg.out,HLA.out⟩
   case round=>
    clear c1 hz;obtain⟨k,df,hk,rfl,hM,hown,EB,hR1,Kt,hLB⟩:=hrel;have c0:wr.cell? ⟨w.heap.size,0,none⟩=some (.slice GA p.ay.length iP):=EB.cell (j:=0) rfl;have c2:wr.cell? ⟨w.heap.size,2,none⟩=some (.int .i64 (f:Nat)):=EB.cell (j:=2) rfl;have hz:=hR1.lt;have HM:=ae hM;have DX:=ae EB;have oY:=ae hR1;have HOWN:=ae hown;have cB:=ae Kt;have QG:=ae hLB;by_cases hlt:k<p.ay.length
    ·obtain⟨lb,oU,o,rfl,hlb,hok,o0,o1,⟨ov,o2,hov⟩,_,_⟩:=((HP.below (Kt.mono hB)).1).get hlt;simp only[Nat.add_zero]at o0 o1 o2;obtain⟨OA,JM,hOv⟩:∃OA JM,ov= .slice OA o.init.length JM:=(by obtain⟨A',c',h,_⟩:=hov;exact⟨_,_,h⟩)
     subst hOv;have Bc:=uZ.out o (List.mem_of_getElem? hok);have uQ:(bf [] (p.ay.take k)).length<=17:=by rw[qM,List.length_take,gL];(repeat' split)<;>first|omega|(simp;done)|(simp;omega)
     have hmb:(au (bf [] (p.ay.take k))).length+1<=1000000000:=by rw[gL];split<;>omega
     have W9:=ae (Av w.heap.size (w.heap.size+1+1) df _ ah _ o (.slice OA o.init.length JM) wr.drew (hM.below (aV _ _).drew) Bc (hov.below (aV _ _).drew (by omega)) hmb);have IE:=ae hok;have hkl:(k:Int)<(p.ay.length:Int):=by omega
     have hk0:(0:Int)<=(k:Int):=by omega
     have ZA:lb<wr.heap.size:=by omega
     clear hM EB hR1 hown Kt hok hov Bc uQ hmb hLB;go_wp2_with fail;refine aX 8 (by kernel_rfl) (by kernel_rfl) ?_;simp only[List.take_succ_cons,List.take_zero,List.drop_succ_cons,List.drop_zero]
     repeat(go_big_quiet_step (fail))
     refine wpQuiet_nil ?_;go_wp2_with fail;refine W9.mono ?_;rintro e w2 ⟨rfl,cP,hu2,hd2,Q6,hw2⟩;have HU2:=ae (And.intro hu2 hd2);have TQ:=ae Q6;have z6:=ae hw2;clear hu2 hd2 Q6 hw2;go_wp2_with fail;go_roundw
     case rel=>
      have hw3:Wr df wr w2:=(Wr.of_below (F:=df) (aV _ _).drew).trans z6 (λi hi=>aK hi);have hn0:¬df w.heap.size:=λh=>by have:=HOWN _ h;omega
      have rT:¬df (w.heap.size+1):=λh=>by have:=HOWN _ h;omega
      have pS:w.heap.size<=wr.heap.size:=by omega
      have hme:bf [] (p.ay.take (k+1))=gP (bf [] (p.ay.take k)) o:=by rw[bW IE.out,qN];rfl
      have hdn:∀i,cP i->df i\/wr.heap.size<=i:=HU2.2;refine⟨k+1,cP,by omega,by go_num,by rw[hme];exact TQ.out,λi hi=>?_,DX.wr hw3 hn0,oY.wr hw3 rT,cB.trans (hw3.below pS (λi hi=>by have:=HOWN.out i hi;omega)),((QG.wr hw3 (λ_ h=>aK h) (aY _)).up hdn).mono hw3.size⟩;rcases hdn i hi with h|h
      ·exact HOWN.out i h
      ·omega
     case measure=>simp[intOf];omega
    ·obtain rfl:k=p.ay.length:=by omega
     rw[List.take_length]at hM;have hcall:=Du KZ.out HVM.out hf 64 0 (by omega) f g [] {vz inp with mem:=bf [] p.ay} w.heap.size (w.heap.size+1+1) df (.slice GA p.ay.length iP,.slice FA p.funcs.length jb,.int .i64 (f:Nat),.slice ln p.funcs.length bn) none 0 0 wr HFUN (by rw[zS.out];rfl) hM (HP.below (Kt.mono hB)|>.up (by omega)) hLB HST.1 rfl (by have:=HST.2;show _<(au (bf [] p.ay)).length;omega) (λv hv=>by cases hv) rfl (λj v h=>by simp at h);rw[show(64:Nat)=63+1 from rfl]at hcall;rw[<-HR.out]at hcall;have HCA:=ae hcall;obtain⟨rv,rs⟩:=r;clear hM EB hR1 hown Kt hcall HR hLB;go_wp2_with fail;refine HCA.mono ?_;rintro e w3 ⟨rfl,nL,hu3,hd3,zu,hw3⟩;obtain⟨inv3,YM,memv3,rb3,C6⟩:=zu
     obtain⟨OA,on,oc,hov⟩:∃A n c,YM= .slice A n c:=(by obtain⟨_,h|⟨g,c,cur,h,_⟩⟩:=C6.rest.out;exact⟨_,_,_,h.1⟩;exact⟨_,_,_,h⟩)
     subst hov;have hn0:¬df w.heap.size:=λh=>by have:=HOWN _ h;omega
     have rT:¬df (w.heap.size+1):=λh=>by have:=HOWN _ h;omega
     have hq1:=oY.wr hw3 rT;have q0:=hq1.free 0;have q1:=hq1.free 1;have q2:=hq1.free 2;have q3:=hq1.free 3;have q4:=hq1.free 4;have Sh:=hq1.lt;have p0:w3.cell? ⟨w.heap.size+1,0,none⟩=some (.int .i64 0):=hq1.cell (j:=0) rfl;have p1:w3.cell? ⟨w.heap.size+1,1,none⟩=some (.int .i64 0):=hq1.cell (j:=1) rfl;have p2:w3.cell? ⟨w.heap.size+1,2,none⟩=some (.slice none 0 0):=hq1.cell (j:=2) rfl;have p3:w3.cell? ⟨w.heap.size+1,3,none⟩=some (.int .i64 0):=hq1.cell (j:=3) rfl;have p4:w3.cell? ⟨w.heap.size+1,4,none⟩=some (.int .i64 0):=hq1.cell (j:=4) rfl;have PE:=C6.lt;have HA3:=ae C6;have HQ1:=ae hq1;have vB:=ae hw3;have GF:¬w.heap.size+1=w.heap.size+1+1:=by omega
     have CY:¬w.heap.size+1+1=w.heap.size+1:=by omega
     have eO:=ae (show Below w.heap.size w w3 from cB.trans (hw3.below (by omega) (λi hi=>by have:=HOWN.out i hi;omega)));have xh:=ae (show∀g,(Value.slice OA on oc).ownBlock=some g->¬(g=w.heap.size+1\/g=w.heap.size+1+1)from λg hg h=>by
      obtain⟨_,cs,hr⟩:=aC C6.rest.out hg;rcases h with h|h
      ·subst h;exact hr.ne hq1 (by decide) rfl
      ·subst h;exact hr.ne C6.row (by decide) rfl)
     have hz3:w.heap.size+1+1<=w3.heap.size:=by omega
     have hnm:¬w.heap.size+1=w.heap.size:=by omega
     clear GF CY hnm;have GF:¬w.heap.size+1=w.heap.size+1+1:=by omega
     have CY:¬w.heap.size+1+1=w.heap.size+1:=by omega
     have hge1:w.heap.size<=w.heap.size+1:=by omega
     have hge2:w.heap.size<=w.heap.size+1+1:=by omega
     generalize hmb:w.heap.size+1+1=mb at*;generalize tT:w.heap.size+1=rb at*;have CH:=ae hmb;have HRB:=ae tT;clear hmb tT;cases rv with
     |none=>
      simp only[aO];have k5:w3.cell? ⟨mb,6,none⟩=some (.int .i64 rs.kind):=C6.row.cell (j:=6) rfl;have k3:w3.cell? ⟨mb,7,none⟩=some (.int .i64 rs.code):=C6.row.cell (j:=7) rfl;have k7:w3.cell? ⟨mb,8,none⟩=some (.slice OA on oc):=C6.row.cell (j:=8) rfl;have k8:w3.cell? ⟨mb,9,none⟩=some (.int .i64 rs.steps):=C6.row.cell (j:=9) rfl;have k9:w3.cell? ⟨mb,10,none⟩=some (.int .i64 rs.deep):=C6.row.cell (j:=10) rfl;by_cases hk3:rs.kind=3
      ·rw[hk3]at k5;have QH:=ae hk3;clear hk3 C6 hq1 hw3 hu3 hd3;go_wp2_with fail;refine HQ _ _ _ ?_;refine aS (v:= .agg #[.int .i64 3,.int .i64 0,.slice none 0 0,.int .i64 0,.int .i64 0]) ?_ rfl ?_
       ·simp[results,results13,go_sem,p0,p1,p2,p3,p4,Sh]
       ·have he:oq (none,rs)=⟨3,0,[],0,0⟩:=by simp[oq,QH.out]
        rw[he];exact⟨_,rfl,World.ownsRow_nil _ _ _ _,eO.trans ((Ea w3 (rb) _ _ _ _ _ _).below (by omega) (λi hi=>by omega))⟩
      ·have hk3':(rs.kind==3)=false:=by simpa using hk3
       have QH:=ae hk3;clear hk3 C6 hq1 hw3 hu3 hd3;go_wp2_with fail;refine HQ _ _ _ ?_;refine aS (v:= .agg #[.int .i64 rs.kind,.int .i64 rs.code,.slice OA on oc,.int .i64 rs.steps,.int .i64 rs.deep]) ?_ rfl ?_
       ·simp[results,results13,go_sem,p0,p1,p2,p3,p4,Sh]
       ·have he:oq (none,rs)=⟨rs.kind,rs.code,rs.out,rs.steps,rs.deep⟩:=by simp[oq,QH.out]
        rw[he];exact⟨_,rfl,aF HA3.rest.out (Ea w3 (rb) _ _ _ _ _ _) (λg hg h=>xh.out g hg (aK h)),eO.trans ((Ea w3 (rb) _ _ _ _ _ _).below (by omega) (λi hi=>by omega))⟩
     |some v=>
      simp only[aO];have k5:w3.cell? ⟨mb,6,none⟩=some (.int .i64 rs.kind):=C6.row.cell (j:=6) rfl;have k6:w3.cell? ⟨mb,7,none⟩=some (.int .i64 rs.code):=C6.row.cell (j:=7) rfl;have k7:w3.cell? ⟨mb,8,none⟩=some (.slice OA on oc):=C6.row.cell (j:=8) rfl;have k8:w3.cell? ⟨mb,9,none⟩=some (.int .i64 rs.steps):=C6.row.cell (j:=9) rfl;have k9:w3.cell? ⟨mb,10,none⟩=some (.int .i64 rs.deep):=C6.row.cell (j:=10) rfl;have f5:=C6.row.free 6;have f6:=C6.row.free 7;obtain⟨vo,vn⟩:=v;by_cases hv:vo=0
      ·subst hv;have HV:=ae (True.intro);clear C6 hq1 hw3 hu3 hd3;go_wp2_with fail;go_region
       all_goals go_wp2_with fail
       all_goals
        refine HQ _ _ _ ?_;refine aS (v:= .agg #[.int .i64 1,.int .i64 vn,.slice OA on oc,.int .i64 rs.steps,.int .i64 rs.deep]) ?_ rfl ?_
        ·simp[results,results13,go_sem,p0,p1,p2,p3,p4,Sh,GF,CY]
        ·have he:oq (some ⟨0,vn⟩,rs)=⟨1,vn,rs.out,rs.steps,rs.deep⟩:=by simp[oq]
         rw[he];have hWR:∀{W:World},Wr (λi=>i=rb\/i=mb) w3 W->Below w.heap.size w W:=λh=>eO.trans (h.below (by omega) (λi hi=>by omega));refine⟨_,rfl,aF HA3.rest.out (F:=λi=>i=rb\/i=mb) ?_ xh.out,hWR ?_⟩
         all_goals
          repeat(first|(with_reducible exact Wr.refl _ _)|(with_reducible refine Wr.bR ?_)|(with_reducible refine Wr.bH ?_ _)|(with_reducible refine Wr.cJ ?_ _ _ _ (aK ?_))|exact aK rfl|exact bu rfl)
      ·have hv':(0:Int)<(vo:Int):=by omega
       have hv2:0<vo:=by omega
       have HV:=ae hv;clear hv C6 hq1 hw3 hu3 hd3;go_wp2_with fail;go_region
       all_goals go_wp2_with fail
       all_goals
        refine HQ _ _ _ ?_;refine aS (v:= .agg #[.int .i64 3,.int .i64 0,.slice none 0 0,.int .i64 0,.int .i64 0]) ?_ rfl ?_
        ·simp[results,results13,go_sem,p0,p1,p2,p3,p4,Sh,GF,CY]
        ·have he:oq (some ⟨vo,vn⟩,rs)=⟨3,0,[],0,0⟩:=by simp[oq,Nat.pos_of_ne_zero HV.out]
         rw[he];have hWR:∀{W:World},Wr (λi=>i=rb\/i=mb) w3 W->Below w.heap.size w W:=λh=>eO.trans (h.below (by omega) (λi hi=>by omega));refine⟨_,rfl,World.ownsRow_nil _ _ _ _,hWR ?_⟩
         repeat(first|(with_reducible exact Wr.refl _ _)|(with_reducible refine Wr.bR ?_)|(with_reducible refine Wr.bH ?_ _)|(with_reducible refine Wr.cJ ?_ _ _ _ (aK ?_))|exact aK rfl|exact bu rfl)
theorem Uw{cs:Array Value}(h:cs.size=3):∃a b c,cs=#[a,b,c]:=by
 obtain⟨l⟩:=cs
 match l,h with
 |[a,b,c],_=>exact⟨a,b,c,rfl⟩
def vlAC(N pb:Nat)(fu wv:Int)(W:World):Nat->Value->Prop
 |0,v|2,v=>v= .pointer (some ⟨pb,2,none⟩)
 |1,v|3,v=>v= .int .i64 fu
 |4,v=>v= .int .i64 wv
 |5,v|6,v=>∃g,v= .slice (some ⟨g,0,none⟩) 3 3/\N<=g/\Row W g #[.int .i64 fu,.int .i64 wv,.int .i64 3000] 3
 |_,_=>True
noncomputable def vlAR:Code:=(fU (Tryz.f3.body.getD .skip)).getD 8 .skip
theorem Ae(pb:Nat)(a0 a1:Value)(fu wv:Int)(w:World)(oI:Row w pb #[a0,a1,.int .i64 fu] 25)(Tw:∀W,Calls prog 8 #[.int .i64 fu,.int .i64 300] W λe w'=>e= .returned (.int .i64 wv)/\W=w')
  {c0 c2 c3 c4 c5 c6 c7 c8 c9 c10 c11 c12 c13 c14 c15 c16 c17 c18 c19 c20 c21 iU iT iX iW jM jL jK jJ jI jH jG jF jE jD jC jB jA jo jm jy kG kF kE kD kC kB jw c49 kA c51 jY jX jW jV jU jT jS jR jQ jP jO jN kV kU kT kS kR kQ kP kO kN lN kM kL lM lL lK lJ lI lH mY mD mC lG lF lD lC lB lA mX nA nz ny ni m9 m6 mW mV eH eG eF eD ed dZ dY dX dW dV dU dS dR dQ dP dO dN dH dG c119 dD dC eV eU eT eQ eP fC fB fA eZ eY:Value}(Q:Exit->Act->World->Prop)
  (cL:∀(W:World)(g:Nat)(Y:Nat->Value),Below w.heap.size w W->w.heap.size<=g->Row W g #[.int .i64 fu,.int .i64 wv,.int .i64 3000] 3->Q .normal ⟨List.toArray (c0::(Value.pointer (some ⟨pb,0,none⟩))::c2::c3::c4::(Value.slice (some ⟨g,0,none⟩) 3 3)::c6::c7::c8::c9::c10::c11::c12::c13::c14::c15::c16::c17::c18::c19::c20::c21::iU::iT::iX::iW::jM::jL::jK::jJ::jI::jH::jG::jF::jE::jD::jC::jB::jA::jo::jm::jy::Y 0::Y 1::Y 2::Y 3::Y 4::Y 5::jw::c49::kA::c51::jY::jX::jW::jV::jU::jT::jS::jR::jQ::jP::jO::jN::kV::kU::kT::kS::kR::kQ::kP::kO::kN::lN::kM::kL::lM::lL::lK::lJ::lI::lH::mY::mD::mC::lG::lF::lD::lC::lB::lA::mX::nA::nz::ny::ni::m9::m6::mW::mV::eH::eG::eF::eD::ed::dZ::dY::dX::dW::dV::dU::dS::dR::dQ::dP::dO::dN::dH::dG::c119::dD::dC::eV::eU::eT::eQ::eP::fC::fB::fA::eZ::eY::[]),[]⟩ W):
  Code.wp prog vlAR Q ⟨List.toArray (c0::(Value.pointer (some ⟨pb,0,none⟩))::c2::c3::c4::c5::c6::c7::c8::c9::c10::c11::c12::c13::c14::c15::c16::c17::c18::c19::c20::c21::iU::iT::iX::iW::jM::jL::jK::jJ::jI::jH::jG::jF::jE::jD::jC::jB::jA::jo::jm::jy::kG::kF::kE::kD::kC::kB::jw::c49::kA::c51::jY::jX::jW::jV::jU::jT::jS::jR::jQ::jP::jO::jN::kV::kU::kT::kS::kR::kQ::kP::kO::kN::lN::kM::kL::lM::lL::lK::lJ::lI::lH::mY::mD::mC::lG::lF::lD::lC::lB::lA::mX::nA::nz::ny::ni::m9::m6::mW::mV::eH::eG::eF::eD::ed::dZ::dY::dX::dW::dV::dU::dS::dR::dQ::dP::dO::dN::dH::dG::c119::dD::dC::eV::eU::eT::eQ::eP::fC::fB::fA::eZ::eY::[]),[]⟩ w:=by
 have iA:=ae oI;have HWITH:=ae Tw;clear oI Tw;have uu:=ae cL;clear cL
 conv=>arg 2;whnf
 refine Mg (by kernel_rfl) (vlAC w.heap.size pb fu wv) (λY=>⟨List.toArray (c0::(Value.pointer (some ⟨pb,0,none⟩))::c2::c3::c4::Y 6::c6::c7::c8::c9::c10::c11::c12::c13::c14::c15::c16::c17::c18::c19::c20::c21::iU::iT::iX::iW::jM::jL::jK::jJ::jI::jH::jG::jF::jE::jD::jC::jB::jA::jo::jm::jy::Y 0::Y 1::Y 2::Y 3::Y 4::Y 5::jw::c49::kA::c51::jY::jX::jW::jV::jU::jT::jS::jR::jQ::jP::jO::jN::kV::kU::kT::kS::kR::kQ::kP::kO::kN::lN::kM::kL::lM::lL::lK::lJ::lI::lH::mY::mD::mC::lG::lF::lD::lC::lB::lA::mX::nA::nz::ny::ni::m9::m6::mW::mV::eH::eG::eF::eD::ed::dZ::dY::dX::dW::dV::dU::dS::dR::dQ::dP::dO::dN::dH::dG::c119::dD::dC::eV::eU::eT::eQ::eP::fC::fB::fA::eZ::eY::[]),[]⟩) (λi=>if i=0 then kG else if i=1 then kF else if i=2 then kE else if i=3 then kD else if i=4 then kC else if i=5 then kB else if i=6 then c5 else undef) rfl (by kernel_rfl) ?_ ?_ ?_
 ·intro W W' i v hb h;rcases i with _|_|_|_|_|_|_|i
  ·exact h
  ·exact h
  ·exact h
  ·exact h
  ·exact h
  ·obtain⟨g,h1,h2,h3⟩:=h;exact⟨g,h1,h2,h3.below hb h3.lt⟩
  ·obtain⟨g,h1,h2,h3⟩:=h;exact⟨g,h1,h2,h3.below hb h3.lt⟩
  ·trivial
 ·intro i o' Y W ho hb hall K hK;have HW:=ae hb;clear hb;rcases i with _|_|_|_|_|_|_|i
  ·simp at ho;subst ho;clear hall;refine ak rfl rfl (λK' hK'=>?_);go_simp;have hh:=hK' _ _ (hK _ _ (aV _ _) rfl);simpa [upd]using hh
  ·simp at ho;subst ho;have d0:Y 0=_:=hall {on:=0,ground:=Ground.data} (by simp) rfl;have q0:=ag (iA.cell (j:=2) rfl) HW.out iA.lt;clear hall;refine ak rfl rfl (λK' hK'=>?_);go_simp;have hh:=hK' _ _ (hK _ _ (aV _ _) rfl);simpa [upd,d0]using hh
  ·simp at ho;subst ho;clear hall;refine ak rfl rfl (λK' hK'=>?_);go_simp;have hh:=hK' _ _ (hK _ _ (aV _ _) rfl);simpa [upd]using hh
  ·simp at ho;subst ho;have d2:Y 2=_:=hall {on:=2,ground:=Ground.data} (by simp) rfl;have q0:=ag (iA.cell (j:=2) rfl) HW.out iA.lt;clear hall;refine ak rfl rfl (λK' hK'=>?_);go_simp;have hh:=hK' _ _ (hK _ _ (aV _ _) rfl);simpa [upd,d2]using hh
  ·simp at ho;subst ho;have d3:Y 3=_:=hall {on:=3,ground:=Ground.data} (by simp) rfl;clear hall;refine ak rfl rfl (λK' hK'=>?_);go_simp;refine(HWITH.out W).mono ?_;rintro e W5 ⟨rfl,rfl⟩;go_simp;have hh:=hK' _ _ (hK _ _ (aV _ _) rfl);simpa [upd,d3]using hh
  ·simp at ho;subst ho;have d1:Y 1=_:=hall {on:=1,ground:=Ground.data} (by simp) rfl;have d4:Y 4=_:=hall {on:=4,ground:=Ground.data} (by simp) rfl;clear hall;refine ak rfl rfl (λK' hK'=>?_);go_simp;have hh:=hK' _ _ (hK _ _ (ax W (.cells #[.int .i64 fu,.int .i64 wv,.int .i64 3000] 3)) ⟨W.heap.size,rfl,HW.size,Row.new' _ _ rfl⟩);simpa [upd,d1,d4]using hh
  ·simp at ho;subst ho;obtain⟨g,d5,hg1,hg2⟩:=hall {on:=5,ground:=Ground.data} (by simp) rfl;clear hall;refine ak rfl rfl (λK' hK'=>?_);go_simp;have hh:=hK' _ _ (hK _ _ (aV _ _) ⟨g,rfl,hg1,hg2⟩);simpa [upd,d5]using hh
  ·simp at ho
 ·intro Y W hb hall;obtain⟨g,d6,hg1,hg2⟩:=hall 6 (by simp)
  show Q .normal ⟨List.toArray (c0::(Value.pointer (some ⟨pb,0,none⟩))::c2::c3::c4::Y 6::c6::c7::c8::c9::c10::c11::c12::c13::c14::c15::c16::c17::c18::c19::c20::c21::iU::iT::iX::iW::jM::jL::jK::jJ::jI::jH::jG::jF::jE::jD::jC::jB::jA::jo::jm::jy::Y 0::Y 1::Y 2::Y 3::Y 4::Y 5::jw::c49::kA::c51::jY::jX::jW::jV::jU::jT::jS::jR::jQ::jP::jO::jN::kV::kU::kT::kS::kR::kQ::kP::kO::kN::lN::kM::kL::lM::lL::lK::lJ::lI::lH::mY::mD::mC::lG::lF::lD::lC::lB::lA::mX::nA::nz::ny::ni::m9::m6::mW::mV::eH::eG::eF::eD::ed::dZ::dY::dX::dW::dV::dU::dS::dR::dQ::dP::dO::dN::dH::dG::c119::dD::dC::eV::eU::eT::eQ::eP::fC::fB::fA::eZ::eY::[]),[]⟩ W
  rw[d6];exact uu.out W g Y hb hg1 hg2
def vlBC(pb qb gY k pn pc:Nat)(IA:Option Addr)(ic:Nat)(GA FA:Option Addr)(gc fc:Nat)(p:bB)(inp:List Int)(W:World):Nat->Value->(Nat->Prop)->Prop
 |0,v,_=>v= .pointer (some ⟨pb,0,none⟩)
 |1,v,_=>v= .slice (some ⟨qb,gY,none⟩) pn pc
 |2,v,_=>v= .int .i64 (k:Nat)
 |3,v,_=>v= .pointer (some ⟨qb,gY+k*3,none⟩)
 |4,v,_=>v= .agg #[.slice GA p.ay.length gc,.slice FA p.funcs.length fc,.int .i64 p.main]
 |5,v,S=>∃pU gc' pV pT,v= .agg #[.slice pU p.ay.length gc',.slice pV p.funcs.length pT,.int .i64 p.main]/\bP (only W S) W.heap.size (.slice pU p.ay.length gc',.slice pV p.funcs.length pT,.int .i64 p.main) p
 |6,v,_=>v= .pointer (some ⟨pb,1,none⟩)
 |7,v,_=>v= .slice IA inp.length ic
 |8,v,S|11,v,S=>∃qE pg,v= .slice qE inp.length pg/\inp.length<=pg/\pg<=9223372036854775807/\aD (only W S) W.heap.size inp (.slice qE inp.length pg)
 |_,_,_=>True
noncomputable def vlBR:Code:=(fU (Tryz.f3.body.getD .skip)).getD 12 .skip
theorem pC(pb qb gY k pn pc:Nat)(IA:Option Addr)(ic:Nat)(GA FA:Option Addr)(gc fc:Nat)(p:bB)(inp:List Int)(af:Int)(w:World)(oI:Row w pb #[.slice (some ⟨qb,gY,none⟩) pn pc,.slice IA inp.length ic,.int .i64 af] 25)(QY:qb<w.heap.size)(hk:k<pn)
  (g0:w.cell? ⟨qb,gY+k*3,none⟩=some (.slice GA p.ay.length gc))(g1:w.cell? ⟨qb,gY+k*3+1,none⟩=some (.slice FA p.funcs.length fc))(g2:w.cell? ⟨qb,gY+k*3+2,none⟩=some (.int .i64 p.main))
  (hcp:∀W,Below w.heap.size w W->Calls prog 9 #[.agg #[.slice GA p.ay.length gc,.slice FA p.funcs.length fc,.int .i64 p.main]] W λe w'=>∃pU gc' pV pT,e= .returned (.agg #[.slice pU p.ay.length gc',.slice pV p.funcs.length pT,.int .i64 p.main])/\bP (only w' (From W.heap.size)) w'.heap.size (.slice pU p.ay.length gc',.slice pV p.funcs.length pT,.int .i64 p.main) p/\Below W.heap.size W w')
  (hcl:∀W,Below w.heap.size w W->Calls prog 10 #[.slice IA inp.length ic] W (jg mS 1 inp W))
  {c0 c2 c4 c5 c6 c7 c8 c9 c10 c11 c12 c13 c14 c15 c16 c17 c18 c19 c20 c21 iU iT iX iW jM jL jK jJ jI jH jG jF jE jD jC jB jA jo jm jy kG kF kE kD kC kB jw c49 kA c51 jY jX jW jV jU jT jS jR jQ jP jO jN kV kU kT kS kR kQ kP kO kN lN kM kL lM lL lK lJ lI lH mY mD mC lG lF lD lC lB lA mX nA nz ny ni m9 m6 mW mV eH eG eF eD ed dZ dY dX dW dV dU dS dR dQ dP dO dN dH dG c119 dD dC eV eU eT eQ eP fC fB fA eZ eY:Value}(Q:Exit->Act->World->Prop)
  (cL:∀(W:World)(p':Nat)(pU:Option Addr)(gc':Nat)(pV:Option Addr)(pT:Nat)(qE:Option Addr)(pg:Nat)(Y:Nat->Value),Below w.heap.size w W->w.heap.size<=p'->Row W p' #[.slice pU p.ay.length gc',.slice pV p.funcs.length pT,.int .i64 p.main] 31->bP W W.heap.size (.slice pU p.ay.length gc',.slice pV p.funcs.length pT,.int .i64 p.main) p->inp.length<=pg->pg<=9223372036854775807->aD W W.heap.size inp (.slice qE inp.length pg)->Q .normal ⟨List.toArray (c0::(Value.pointer (some ⟨pb,0,none⟩))::c2::(Value.int .i64 (k:Nat))::c4::c5::c6::(Value.pointer (some ⟨p',0,none⟩))::(Value.slice qE inp.length pg)::c9::c10::c11::c12::c13::c14::c15::c16::c17::c18::c19::c20::c21::iU::iT::iX::iW::jM::jL::jK::jJ::jI::jH::jG::jF::jE::jD::jC::jB::jA::jo::jm::jy::kG::kF::kE::kD::kC::kB::jw::c49::kA::c51::jY::jX::jW::jV::jU::jT::jS::jR::jQ::jP::jO::jN::Y 0::Y 1::Y 2::Y 3::Y 4::Y 5::Y 6::Y 7::Y 8::lN::kM::kL::lM::lL::lK::lJ::lI::lH::mY::mD::mC::lG::lF::lD::lC::lB::lA::mX::nA::nz::ny::ni::m9::m6::mW::mV::eH::eG::eF::eD::ed::dZ::dY::dX::dW::dV::dU::dS::dR::dQ::dP::dO::dN::dH::dG::c119::dD::dC::eV::eU::eT::eQ::eP::fC::fB::fA::eZ::eY::[]),[]⟩ W):
  Code.wp prog vlBR Q ⟨List.toArray (c0::(Value.pointer (some ⟨pb,0,none⟩))::c2::(Value.int .i64 (k:Nat))::c4::c5::c6::c7::c8::c9::c10::c11::c12::c13::c14::c15::c16::c17::c18::c19::c20::c21::iU::iT::iX::iW::jM::jL::jK::jJ::jI::jH::jG::jF::jE::jD::jC::jB::jA::jo::jm::jy::kG::kF::kE::kD::kC::kB::jw::c49::kA::c51::jY::jX::jW::jV::jU::jT::jS::jR::jQ::jP::jO::jN::kV::kU::kT::kS::kR::kQ::kP::kO::kN::lN::kM::kL::lM::lL::lK::lJ::lI::lH::mY::mD::mC::lG::lF::lD::lC::lB::lA::mX::nA::nz::ny::ni::m9::m6::mW::mV::eH::eG::eF::eD::ed::dZ::dY::dX::dW::dV::dU::dS::dR::dQ::dP::dO::dN::dH::dG::c119::dD::dC::eV::eU::eT::eQ::eP::fC::fB::fA::eZ::eY::[]),[]⟩ w:=by
 have hk0:(0:Int)<=(k:Int):=by omega
 have hk1:(k:Int)<(pn:Int):=by omega
 have iA:=ae oI;have WU:=ae QY;have zS:=ae g0;have vD:=ae g1;have HG2:=ae g2;have Xj:=ae hcp;have CJ:=ae hcl;clear oI QY g0 g1 g2 hcp hcl;have uu:=ae cL;clear cL
 conv=>arg 2;whnf
 refine FO (by kernel_rfl) 9 10 5 3 31 yR (vlBC pb qb gY k pn pc IA ic GA FA gc fc p inp) (λY=>⟨List.toArray (c0::(Value.pointer (some ⟨pb,0,none⟩))::c2::(Value.int .i64 (k:Nat))::c4::c5::c6::Y 9::Y 11::c9::c10::c11::c12::c13::c14::c15::c16::c17::c18::c19::c20::c21::iU::iT::iX::iW::jM::jL::jK::jJ::jI::jH::jG::jF::jE::jD::jC::jB::jA::jo::jm::jy::kG::kF::kE::kD::kC::kB::jw::c49::kA::c51::jY::jX::jW::jV::jU::jT::jS::jR::jQ::jP::jO::jN::Y 0::Y 1::Y 2::Y 3::Y 4::Y 5::Y 6::Y 7::Y 8::lN::kM::kL::lM::lL::lK::lJ::lI::lH::mY::mD::mC::lG::lF::lD::lC::lB::lA::mX::nA::nz::ny::ni::m9::m6::mW::mV::eH::eG::eF::eD::ed::dZ::dY::dX::dW::dV::dU::dS::dR::dQ::dP::dO::dN::dH::dG::c119::dD::dC::eV::eU::eT::eQ::eP::fC::fB::fA::eZ::eY::[]),[]⟩) (λi=>if i=0 then kV else if i=1 then kU else if i=2 then kT else if i=3 then kS else if i=4 then kR else if i=5 then kQ else if i=6 then kP else if i=7 then kO else if i=8 then kN else if i=9 then c7 else if i=11 then c8 else undef) rfl (by kernel_rfl) (by simp) (by simp) (by decide) (by decide) (by decide) ?_ ?_ ?_ ?_ ?_ ?_
 ·intro o' ho;simp at ho;subst ho;exact⟨⟨{on:=9,ground:=Ground.data},by simp,rfl,rfl⟩,⟨{on:=5,ground:=Ground.data},by simp,rfl,rfl⟩⟩
 ·intro F W W' i v S hw hS h;have sub:Sub (only W S) (only W' S):=nM λk hk hk2=>⟨hk,hw.block k hk2 (hS k hk)⟩
  rcases i with _|_|_|_|_|_|_|_|_|_|_|_|i
  ·exact h
  ·exact h
  ·exact h
  ·exact h
  ·exact h
  ·obtain⟨pU,gc',pV,pT,h1,h2⟩:=h;exact⟨pU,gc',pV,pT,h1,h2.sub sub hw.size⟩
  ·exact h
  ·exact h
  ·obtain⟨qE,pg,h1,h2,h3,h4⟩:=h;exact⟨qE,pg,h1,h2,h3,h4.sub sub hw.size⟩
  ·trivial
  ·trivial
  ·obtain⟨qE,pg,h1,h2,h3,h4⟩:=h;exact⟨qE,pg,h1,h2,h3,h4.sub sub hw.size⟩
  ·trivial
 ·intro i o' Y Z W h1 h2 ho hb hall K hK;have HW:=ae hb;clear hb;rcases i with _|_|_|_|_|_|_|_|_|_|_|_|i
  ·simp at ho;subst ho;clear hall;refine ak rfl rfl (λK' hK'=>?_);go_simp;have hh:=hK' _ _ (hK _ (λ_=>False) _ (aV _ _) rfl (λk hk=>hk.elim));simpa [upd]using hh
  ·simp at ho;subst ho;have d0:Y 0=_:=hall {on:=0,ground:=Ground.data} (by simp) rfl (by decide) (by decide);have q0:=ag (iA.cell (j:=0) rfl) HW.out iA.lt;clear hall;refine ak rfl rfl (λK' hK'=>?_);go_simp;have hh:=hK' _ _ (hK _ (λ_=>False) _ (aV _ _) rfl (λk hk=>hk.elim));simpa [upd,d0]using hh
  ·simp at ho;subst ho;clear hall;refine ak rfl rfl (λK' hK'=>?_);go_simp;have hh:=hK' _ _ (hK _ (λ_=>False) _ (aV _ _) rfl (λk hk=>hk.elim));simpa [upd]using hh
  ·simp at ho;subst ho;have d1:Y 1=_:=hall {on:=1,ground:=Ground.data} (by simp) rfl (by decide) (by decide);have d2:Y 2=_:=hall {on:=2,ground:=Ground.data} (by simp) rfl (by decide) (by decide);clear hall;refine ak rfl rfl (λK' hK'=>?_);go_simp;have hh:=hK' _ _ (hK _ (λ_=>False) _ (aV _ _) rfl (λk hk=>hk.elim));simpa [upd,d1,d2]using hh
  ·simp at ho;subst ho;have d3:Y 3=_:=hall {on:=3,ground:=Ground.data} (by simp) rfl (by decide) (by decide);have q0:=ag zS.out HW.out WU.out;have q1:=ag vD.out HW.out WU.out;have q2:=ag HG2.out HW.out WU.out;clear hall;refine ak rfl rfl (λK' hK'=>?_);go_simp;have hh:=hK' _ _ (hK _ (λ_=>False) _ (aV _ _) rfl (λk hk=>hk.elim));simpa [upd,d3]using hh
  ·simp at ho;subst ho;have d4:Y 4=_:=hall {on:=4,ground:=Ground.data} (by simp) rfl (by decide) (by decide);clear hall;refine ak rfl rfl (λK' hK'=>?_);go_simp;refine(Xj.out W HW.out).mono ?_;rintro e W5 ⟨pU,gc',pV,pT,rfl,hat,hb5⟩;go_simp;have hh:=hK' _ _ (hK _ (λk=>W.heap.size<=k/\k<W5.heap.size) W5 hb5 ⟨pU,gc',pV,pT,rfl,hat.sub (nM λk hk hk2=>⟨⟨hk,hk2⟩,rfl⟩) (aY _)⟩ (λk hk=>aK hk));simpa [upd,d4]using hh
  ·simp at ho;subst ho;clear hall;refine ak rfl rfl (λK' hK'=>?_);go_simp;have hh:=hK' _ _ (hK _ (λ_=>False) _ (aV _ _) rfl (λk hk=>hk.elim));simpa [upd]using hh
  ·simp at ho;subst ho;have d6:Y 6=_:=hall {on:=6,ground:=Ground.data} (by simp) rfl (by decide) (by decide);have q0:=ag (iA.cell (j:=1) rfl) HW.out iA.lt;clear hall;refine ak rfl rfl (λK' hK'=>?_);go_simp;have hh:=hK' _ _ (hK _ (λ_=>False) _ (aV _ _) rfl (λk hk=>hk.elim));simpa [upd,d6]using hh
  ·simp at ho;subst ho;have d7:Y 7=_:=hall {on:=7,ground:=Ground.data} (by simp) rfl (by decide) (by decide);clear hall;refine ak rfl rfl (λK' hK'=>?_);go_simp;refine(CJ.out W HW.out).mono ?_;rintro e W5 ⟨qE,pg,rfl,hat,⟨hc1,hc2⟩,hb5⟩;go_simp;have hh:=hK' _ _ (hK _ (λk=>W.heap.size<=k/\k<W5.heap.size) W5 hb5 ⟨qE,pg,rfl,hc1,hc2,aD.sub (w:=only W5 _) hat (nM λk hk hk2=>⟨⟨hk,hk2⟩,rfl⟩) (aY _)⟩ (λk hk=>aK hk));simpa [upd,d7]using hh
  ·exact absurd rfl h1
  ·exact absurd rfl h2
  ·simp at ho;subst ho;obtain⟨qE,pg,d8,hc1,hc2,hat⟩:=hall {on:=8,ground:=Ground.data} (by simp) rfl (by decide) (by decide);clear hall;refine ak rfl rfl (λK' hK'=>?_);go_simp;have hh:=hK' _ _ (hK _ (Z 8) _ (aV _ _) ⟨qE,pg,rfl,hc1,hc2,hat⟩ (λk hk=>bu ⟨{on:=8,ground:=Ground.data},by simp,rfl,by decide,by decide,hk⟩));simpa [upd,d8]using hh
  ·simp at ho
 ·intro o' Y W ho hb K hK;simp at ho;subst ho;clear hb;refine ak rfl rfl (λK' hK'=>?_);go_simp;have hh:=hK' _ _ (hK #[.slice none 0 0,.slice none 0 0,.int .i64 0] rfl);simpa [upd]using hh
 ·intro o' Y S W p' cs ho hp hrow hcs hcl K hK;simp at ho;subst ho;obtain⟨pU,gc',pV,pT,dA,_⟩:=hcl;obtain⟨e0,e1,e2,rfl⟩:=Uw hcs;have q0:=hrow.cell (j:=0) rfl;have q1:=hrow.cell (j:=1) rfl;have q2:=hrow.cell (j:=2) rfl;have k0:=hrow.free 0;have k1:=hrow.free 1;have k2:=hrow.free 2;have dI:=ae hrow;clear hrow hcs;refine ak rfl rfl (λK' hK'=>?_);go_simp;have hh:=hK' _ _ (hK _ undef (((((Wr.refl (λi=>i=p') W).cJ p' _ _ (aK rfl)).cJ p' _ _ (aK rfl)).cJ p' _ _ (aK rfl))) (by rw[dA];exact(((dI.set 0 _).set 1 _).set 2 _)) (by rw[dA];rfl));simpa [upd,hp,dA]using hh
 ·intro Y Z W p' hb hpw hp hrow hall;obtain⟨⟨pU,gc',pV,pT,d5,h5⟩,_⟩:=hall 5 (by simp) (by decide) (by decide);obtain⟨⟨qE,pg,yN,hc1,hc2,h11⟩,_⟩:=hall 11 (by simp) (by decide) (by decide);rw[d5]at hrow
  show Q .normal ⟨List.toArray (c0::(Value.pointer (some ⟨pb,0,none⟩))::c2::(Value.int .i64 (k:Nat))::c4::c5::c6::Y 9::Y 11::c9::c10::c11::c12::c13::c14::c15::c16::c17::c18::c19::c20::c21::iU::iT::iX::iW::jM::jL::jK::jJ::jI::jH::jG::jF::jE::jD::jC::jB::jA::jo::jm::jy::kG::kF::kE::kD::kC::kB::jw::c49::kA::c51::jY::jX::jW::jV::jU::jT::jS::jR::jQ::jP::jO::jN::Y 0::Y 1::Y 2::Y 3::Y 4::Y 5::Y 6::Y 7::Y 8::lN::kM::kL::lM::lL::lK::lJ::lI::lH::mY::mD::mC::lG::lF::lD::lC::lB::lA::mX::nA::nz::ny::ni::m9::m6::mW::mV::eH::eG::eF::eD::ed::dZ::dY::dX::dW::dV::dU::dS::dR::dQ::dP::dO::dN::dH::dG::c119::dD::dC::eV::eU::eT::eQ::eP::fC::fB::fA::eZ::eY::[]),[]⟩ W
  rw[hp,yN];exact uu.out W p' pU gc' pV pT qE pg Y hb hpw hrow (h5.sub (AH _ _) (aY _)) hc1 hc2 (h11.sub (AH _ _) (aY _))
def CM(pi:Nat)(GA FA IA:Option Addr)(gn gc fn fc il ic:Nat)(mn:Int)(fb nS k2:Nat)(fu:Int):Nat->Value
 |0=> .agg #[.slice GA gn gc,.slice FA fn fc,.int .i64 mn]
 |1=> .slice IA il ic
 |2=> .slice (some ⟨fb,nS,none⟩) 3 3
 |3=> .int .i64 (k2:Nat)
 |4=> .pointer (some ⟨fb,nS+k2,none⟩)
 |5=> .int .i64 fu
 |_=>undef
noncomputable def vlCR:Code:=(fU (Tryz.f3.body.getD .skip)).getD 13 .skip
theorem pB(pi:Nat)(GA FA IA:Option Addr)(gn gc fn fc il ic:Nat)(mn:Int)(fb nS k2:Nat)(fu:Int)(w:World)(o:um)(er:Int)(oI:Row w pi #[.slice GA gn gc,.slice FA fn fc,.int .i64 mn] 31)(hk:k2<3)(hfb:fb<w.heap.size)(U8:w.cell? ⟨fb,nS+k2,none⟩=some (.int .i64 fu))
  (hrun:∀W,Below w.heap.size w W->Calls prog 11 #[.agg #[.slice GA gn gc,.slice FA fn fc,.int .i64 mn],.slice IA il ic,.int .i64 fu] W λe w'=>RanG o er W e w')
  {c0 c1 c2 c3 c4 c9 c10 c11 c12 c13 c14 c15 c16 c17 c18 c19 c20 c21 iU iT iX iW jM jL jK jJ jI jH jG jF jE jD jC jB jA jo jm jy kG kF kE kD kC kB jw c49 kA c51 jY jX jW jV jU jT jS jR jQ jP jO jN kV kU kT kS kR kQ kP kO kN lN kM kL lM lL lK lJ lI lH mY mD mC lG lF lD lC lB lA mX nA nz ny ni m9 m6 mW mV eH eG eF eD ed dZ dY dX dW dV dU dS dR dQ dP dO dN dH dG c119 dD dC eV eU eT eQ eP fC fB fA eZ eY:Value}(Q:Exit->Act->World->Prop)
  (cL:∀(W:World)(p':Nat)(u:Value)(Y:Nat->Value),Below w.heap.size w W->w.heap.size<=p'->Row W p' #[.int .i64 o.kind,.int .i64 o.code,u,.int .i64 o.steps,.int .i64 o.deep] 40->W.ownsRow w.heap.size 2 1 u o.out.length (o.out.map (Value.int .i64))->
   Q .normal ⟨List.toArray (c0::c1::c2::c3::c4::(Value.slice (some ⟨fb,nS,none⟩) 3 3)::(Value.int .i64 (k2:Nat))::(Value.pointer (some ⟨pi,0,none⟩))::(Value.slice IA il ic)::(Value.pointer (some ⟨p',0,none⟩))::(Value.int .i64 er)::c11::c12::c13::c14::c15::c16::c17::c18::c19::c20::c21::iU::iT::iX::iW::jM::jL::jK::jJ::jI::jH::jG::jF::jE::jD::jC::jB::jA::jo::jm::jy::kG::kF::kE::kD::kC::kB::jw::c49::kA::c51::jY::jX::jW::jV::jU::jT::jS::jR::jQ::jP::jO::jN::kV::kU::kT::kS::kR::kQ::kP::kO::kN::Y 7::Y 0::Y 1::Y 2::Y 3::Y 4::Y 5::Y 6::Y 8::Y 9::mD::mC::lG::lF::lD::lC::lB::lA::mX::nA::nz::ny::ni::m9::m6::mW::mV::eH::eG::eF::eD::ed::dZ::dY::dX::dW::dV::dU::dS::dR::dQ::dP::dO::dN::dH::dG::c119::dD::dC::eV::eU::eT::eQ::eP::fC::fB::fA::eZ::eY::[]),[]⟩ W):
  Code.wp prog vlCR Q ⟨List.toArray (c0::c1::c2::c3::c4::(Value.slice (some ⟨fb,nS,none⟩) 3 3)::(Value.int .i64 (k2:Nat))::(Value.pointer (some ⟨pi,0,none⟩))::(Value.slice IA il ic)::c9::c10::c11::c12::c13::c14::c15::c16::c17::c18::c19::c20::c21::iU::iT::iX::iW::jM::jL::jK::jJ::jI::jH::jG::jF::jE::jD::jC::jB::jA::jo::jm::jy::kG::kF::kE::kD::kC::kB::jw::c49::kA::c51::jY::jX::jW::jV::jU::jT::jS::jR::jQ::jP::jO::jN::kV::kU::kT::kS::kR::kQ::kP::kO::kN::lN::kM::kL::lM::lL::lK::lJ::lI::lH::mY::mD::mC::lG::lF::lD::lC::lB::lA::mX::nA::nz::ny::ni::m9::m6::mW::mV::eH::eG::eF::eD::ed::dZ::dY::dX::dW::dV::dU::dS::dR::dQ::dP::dO::dN::dH::dG::c119::dD::dC::eV::eU::eT::eQ::eP::fC::fB::fA::eZ::eY::[]),[]⟩ w:=by
 have hk0:(0:Int)<=(k2:Int):=by omega
 have hk1:(k2:Int)<3:=by omega
 have iA:=ae oI;have HFB:=ae hfb;have HFU:=ae U8;have QB:=ae hrun;clear oI hfb U8 hrun;have uu:=ae cL;clear cL
 conv=>arg 2;whnf
 refine Jt (by kernel_rfl) 10 11 8 5 40 yR (gF 2 w.heap.size 6 (CM pi GA FA IA gn gc fn fc il ic mn fb nS k2 fu) o er) (gu 6 o er) (λY=>⟨List.toArray (c0::c1::c2::c3::c4::(Value.slice (some ⟨fb,nS,none⟩) 3 3)::(Value.int .i64 (k2:Nat))::(Value.pointer (some ⟨pi,0,none⟩))::(Value.slice IA il ic)::Y 10::Y 12::c11::c12::c13::c14::c15::c16::c17::c18::c19::c20::c21::iU::iT::iX::iW::jM::jL::jK::jJ::jI::jH::jG::jF::jE::jD::jC::jB::jA::jo::jm::jy::kG::kF::kE::kD::kC::kB::jw::c49::kA::c51::jY::jX::jW::jV::jU::jT::jS::jR::jQ::jP::jO::jN::kV::kU::kT::kS::kR::kQ::kP::kO::kN::Y 7::Y 0::Y 1::Y 2::Y 3::Y 4::Y 5::Y 6::Y 8::Y 9::mD::mC::lG::lF::lD::lC::lB::lA::mX::nA::nz::ny::ni::m9::m6::mW::mV::eH::eG::eF::eD::ed::dZ::dY::dX::dW::dV::dU::dS::dR::dQ::dP::dO::dN::dH::dG::c119::dD::dC::eV::eU::eT::eQ::eP::fC::fB::fA::eZ::eY::[]),[]⟩) (λi=>if i=0 then kM else if i=1 then kL else if i=2 then lM else if i=3 then lL else if i=4 then lK else if i=5 then lJ else if i=6 then lI else if i=7 then lN else if i=8 then lH else if i=9 then mY else if i=10 then c9 else if i=12 then c10 else undef) rfl (by kernel_rfl) (by simp) (by simp) (by decide) (by decide) (by decide) ?_ (λ_ _ _ _ hb h=>h.below hb) (λW W' i v p _ hw hoff h=>h.wr hw (λg hg u=>by subst hg;exact⟨λhi e=>hoff.1 hi u e,λhi e=>hoff.2 hi u e⟩)) (λW i v _ h=>h.fresh) ?_ ?_ ?_ ?_
 ·intro o' ho;simp at ho;subst ho;exact⟨⟨{on:=10,ground:=Ground.data},by simp,rfl,rfl⟩,⟨{on:=8,ground:=Ground.data},by simp,rfl,rfl⟩⟩
 ·intro i o' Y W h1 h2 ho hb hall K hK;have HW:=ae hb;clear hb;rcases i with _|_|_|_|_|_|_|_|_|_|_|_|_|i
  ·simp at ho;subst ho;have q0:=ag (iA.cell (j:=0) rfl) HW.out iA.lt;have q1:=ag (iA.cell (j:=1) rfl) HW.out iA.lt;have q2:=ag (iA.cell (j:=2) rfl) HW.out iA.lt;clear hall;refine ak rfl rfl (λK' hK'=>?_);go_simp;have hh:=hK' _ _ (hK _ _ (aV _ _) (gF.const (by decide)) (λp _ _ _=>gu.const (by decide) p));simpa [upd,CM]using hh
  ·simp at ho;subst ho;clear hall;refine ak rfl rfl (λK' hK'=>?_);go_simp;have hh:=hK' _ _ (hK _ _ (aV _ _) (gF.const (by decide)) (λp _ _ _=>gu.const (by decide) p));simpa [upd,CM]using hh
  ·simp at ho;subst ho;clear hall;refine ak rfl rfl (λK' hK'=>?_);go_simp;have hh:=hK' _ _ (hK _ _ (aV _ _) (gF.const (by decide)) (λp _ _ _=>gu.const (by decide) p));simpa [upd,CM]using hh
  ·simp at ho;subst ho;clear hall;refine ak rfl rfl (λK' hK'=>?_);go_simp;have hh:=hK' _ _ (hK _ _ (aV _ _) (gF.const (by decide)) (λp _ _ _=>gu.const (by decide) p));simpa [upd,CM]using hh
  ·simp at ho;subst ho;have d2:Y 2=_:=(hall {on:=2,ground:=Ground.data} (by simp) rfl (by decide) (by decide)).c (by decide);have d3:Y 3=_:=(hall {on:=3,ground:=Ground.data} (by simp) rfl (by decide) (by decide)).c (by decide);simp only[CM]at d2 d3;clear hall;refine ak rfl rfl (λK' hK'=>?_);go_simp;have hh:=hK' _ _ (hK _ _ (aV _ _) (gF.const (by decide)) (λp _ _ _=>gu.const (by decide) p));simpa [upd,CM,d2,d3]using hh
  ·simp at ho;subst ho;have d4:Y 4=_:=(hall {on:=4,ground:=Ground.data} (by simp) rfl (by decide) (by decide)).c (by decide);simp only[CM]at d4;have q0:=ag HFU.out HW.out HFB.out;clear hall;refine ak rfl rfl (λK' hK'=>?_);go_simp;have hh:=hK' _ _ (hK _ _ (aV _ _) (gF.const (by decide)) (λp _ _ _=>gu.const (by decide) p));simpa [upd,CM,d4]using hh
  ·simp at ho;subst ho;have d0:Y 0=_:=(hall {on:=0,ground:=Ground.data} (by simp) rfl (by decide) (by decide)).c (by decide);have d1:Y 1=_:=(hall {on:=1,ground:=Ground.data} (by simp) rfl (by decide) (by decide)).c (by decide);have d5:Y 5=_:=(hall {on:=5,ground:=Ground.data} (by simp) rfl (by decide) (by decide)).c (by decide);simp only[CM]at d0 d1 d5;clear hall;refine ak rfl rfl (λK' hK'=>?_);go_simp;refine(QB.out W HW.out).mono ?_;rintro e W5 ⟨u,rfl,hu,hb5⟩;go_simp;have hh:=hK' _ _ (hK (outT o er u) W5 hb5 (gF.call (aK rfl) (ownsRow_base hu HW.size)) (λp _ hp _=>gu.call (aK rfl) (λh=>by have:=(hu.lt _ h).1;omega)));simpa [upd,outT,pX,d0,d1,d5]using hh
  ·simp at ho;subst ho;obtain⟨u,dT,hu⟩:=(hall {on:=6,ground:=Ground.data} (by simp) rfl (by decide) (by decide)).t (aK rfl);clear hall;refine ak rfl rfl (λK' hK'=>?_);go_simp;have hh:=hK' _ _ (hK (outT o er u) _ (aV _ _) (gF.call (bu rfl) hu) (λp _ _ hoff=>gu.call (bu rfl) ((hoff {on:=6,ground:=Ground.data} (by simp) rfl (by decide) (by decide)).1 (aK rfl) u dT)));simpa [upd,outT,pX,dT]using hh
  ·simp at ho;subst ho;obtain⟨u,dT,hu⟩:=(hall {on:=7,ground:=Ground.data} (by simp) rfl (by decide) (by decide)).t (bu rfl);clear hall;refine ak rfl rfl (λK' hK'=>?_);simp only[outT,pX]at dT;go_simp;have hh:=hK' _ _ (hK (pX o u) _ (aV _ _) (gF.part rfl hu) (λp _ _ hoff=>gu.part rfl ((hoff {on:=7,ground:=Ground.data} (by simp) rfl (by decide) (by decide)).1 (bu rfl) u dT)));simpa [upd,outT,pX,dT]using hh
  ·simp at ho;subst ho;obtain⟨u,dT,hu⟩:=(hall {on:=7,ground:=Ground.data} (by simp) rfl (by decide) (by decide)).t (bu rfl);clear hall;refine ak rfl rfl (λK' hK'=>?_);simp only[outT,pX]at dT;go_simp;have hh:=hK' _ _ (hK (.int .i64 er) _ (aV _ _) (gF.err (aK rfl)) (λp _ _ _=>gu.err (aK rfl) p));simpa [upd,outT,pX,dT]using hh
  ·exact absurd rfl h1
  ·exact absurd rfl h2
  ·simp at ho;subst ho;have dE:=(hall {on:=9,ground:=Ground.data} (by simp) rfl (by decide) (by decide)).e (aK rfl);clear hall;refine ak rfl rfl (λK' hK'=>?_);go_simp;have hh:=hK' _ _ (hK (.int .i64 er) _ (aV _ _) (gF.err (bu rfl)) (λp _ _ _=>gu.err (bu rfl) p));simpa [upd,dE]using hh
  ·simp at ho
 ·intro o' Y W ho hb K hK;simp at ho;subst ho;clear hb;refine ak rfl rfl (λK' hK'=>?_);go_simp;have hh:=hK' _ _ (hK #[.int .i64 0,.int .i64 0,.slice none 0 0,.int .i64 0,.int .i64 0] rfl);simpa [upd]using hh
 ·intro o' Y W p cs ho hp hrow hcs hcl K hK;simp at ho;subst ho;obtain⟨u,dA,hu⟩:=hcl.a rfl;obtain⟨UA,uc,rfl⟩:=gQ hu;obtain⟨e0,e1,e2,e3,e4,rfl⟩:=Tm hcs;have q0:=hrow.cell (j:=0) rfl;have q1:=hrow.cell (j:=1) rfl;have q2:=hrow.cell (j:=2) rfl;have q3:=hrow.cell (j:=3) rfl;have q4:=hrow.cell (j:=4) rfl;have k0:=hrow.free 0;have k1:=hrow.free 1;have k2:=hrow.free 2;have k3:=hrow.free 3;have k4:=hrow.free 4;have dI:=ae hrow;clear hrow hcs hcl;simp only[pX]at dA;refine ak rfl rfl (λK' hK'=>?_);go_simp;have hh:=hK' _ _ (hK _ undef (((((((Wr.refl (λi=>i=p) W).cJ p _ _ (aK rfl)).cJ p _ _ (aK rfl)).cJ p _ _ (aK rfl)).cJ p _ _ (aK rfl)).cJ p _ _ (aK rfl))) (by rw[dA];exact(((((dI.set 0 _).set 1 _).set 2 _).set 3 _).set 4 _)) (by rw[dA];rfl))
  simpa [upd,hp,dA]using hh
 ·intro Y W p hb hpw hp hrow hall;obtain⟨u,dA,hu⟩:=(hall 8 (by simp) (by decide) (by decide)).1.a rfl;have dE:=(hall 12 (by simp) (by decide) (by decide)).1.e (bu rfl);rw[dA]at hrow
  show Q .normal ⟨List.toArray (c0::c1::c2::c3::c4::(Value.slice (some ⟨fb,nS,none⟩) 3 3)::(Value.int .i64 (k2:Nat))::(Value.pointer (some ⟨pi,0,none⟩))::(Value.slice IA il ic)::Y 10::Y 12::c11::c12::c13::c14::c15::c16::c17::c18::c19::c20::c21::iU::iT::iX::iW::jM::jL::jK::jJ::jI::jH::jG::jF::jE::jD::jC::jB::jA::jo::jm::jy::kG::kF::kE::kD::kC::kB::jw::c49::kA::c51::jY::jX::jW::jV::jU::jT::jS::jR::jQ::jP::jO::jN::kV::kU::kT::kS::kR::kQ::kP::kO::kN::Y 7::Y 0::Y 1::Y 2::Y 3::Y 4::Y 5::Y 6::Y 8::Y 9::mD::mC::lG::lF::lD::lC::lB::lA::mX::nA::nz::ny::ni::m9::m6::mW::mV::eH::eG::eF::eD::ed::dZ::dY::dX::dW::dV::dU::dS::dR::dQ::dP::dO::dN::dH::dG::c119::dD::dC::eV::eU::eT::eQ::eP::fC::fB::fA::eZ::eY::[]),[]⟩ W
  rw[hp,dE];exact uu.out W p u Y hb hpw hrow hu
def vlDC(N pb qb gY k pn pc il ic gn gc fn fc:Nat)(IA GA FA:Option Addr)(mn:Int)(fb nS k2:Nat)(fu:Int)(o:um)(W:World):Nat->Value->Prop
 |0,v=>v= .pointer (some ⟨pb,0,none⟩)
 |1,v=>v= .slice (some ⟨qb,gY,none⟩) pn pc
 |2,v=>v= .int .i64 (k:Nat)
 |3,v=>v= .pointer (some ⟨qb,gY+k*3,none⟩)
 |4,v=>v= .agg #[.slice GA gn gc,.slice FA fn fc,.int .i64 mn]
 |5,v=>v= .pointer (some ⟨pb,1,none⟩)
 |6,v=>v= .slice IA il ic
 |7,v=>v= .slice (some ⟨fb,nS,none⟩) 3 3
 |8,v=>v= .int .i64 (k2:Nat)
 |9,v=>v= .pointer (some ⟨fb,nS+k2,none⟩)
 |10,v=>v= .int .i64 fu
 |11,v=>∃u,v=pX o u/\W.ownsRow N 2 1 u o.out.length (o.out.map (Value.int .i64))
 |12,v=>v= .int .i64 0
 |_,_=>True
noncomputable def vlDR:Code:=(fU (Tryz.f3.body.getD .skip)).getD 16 .skip
theorem I8(pb qb gY k pn pc il ic gn gc fn fc:Nat)(IA GA FA:Option Addr)(mn:Int)(fb nS k2:Nat)(fu:Int)(o:um)(pw:Nat)(cw:Array Value)(af:Int)(w:World)(oI:Row w pb #[.slice (some ⟨qb,gY,none⟩) pn pc,.slice IA il ic,.int .i64 af] 25)(hnb:pb≠pw)(QY:qb<w.heap.size)(hnq:qb≠pw)(hk:k<pn)(hk2:k2<3)(hfb:fb<w.heap.size)(zW:fb≠pw)
  (g0:w.cell? ⟨qb,gY+k*3,none⟩=some (.slice GA gn gc))(g1:w.cell? ⟨qb,gY+k*3+1,none⟩=some (.slice FA fn fc))(g2:w.cell? ⟨qb,gY+k*3+2,none⟩=some (.int .i64 mn))(U8:w.cell? ⟨fb,nS+k2,none⟩=some (.int .i64 fu))
  (aJ:Row w pw cw 40)(hcw:cw.size=5)
  (hrun:∀W,Wr (λi=>i=pw) w W->Calls prog 13 #[.agg #[.slice GA gn gc,.slice FA fn fc,.int .i64 mn],.slice IA il ic,.int .i64 fu] W λe w'=>EU o W.heap.size W e w')
  {c0 c2 c4 c7 c8 c9 c10 c11 c13 c14 c15 c16 c17 c18 c19 c20 c21 iU iT iX iW jM jL jK jJ jI jH jG jF jE jD jC jB jA jo jm jy kG kF kE kD kC kB jw c49 kA c51 jY jX jW jV jU jT jS jR jQ jP jO jN kV kU kT kS kR kQ kP kO kN lN kM kL lM lL lK lJ lI lH mY mD mC lG lF lD lC lB lA mX nA nz ny ni m9 m6 mW mV eH eG eF eD ed dZ dY dX dW dV dU dS dR dQ dP dO dN dH dG c119 dD dC eV eU eT eQ eP fC fB fA eZ eY:Value}(Q:Exit->Act->World->Prop)
  (cL:∀(W:World)(u:Value)(Y:Nat->Value),Wr (λi=>i=pw) w W->Row W pw #[.int .i64 o.kind,.int .i64 o.code,u,.int .i64 o.steps,.int .i64 o.deep] 40->W.ownsRow w.heap.size 2 1 u o.out.length (o.out.map (Value.int .i64))->Q .normal ⟨List.toArray (c0::(Value.pointer (some ⟨pb,0,none⟩))::c2::(Value.int .i64 (k:Nat))::c4::(Value.slice (some ⟨fb,nS,none⟩) 3 3)::(Value.int .i64 (k2:Nat))::c7::c8::c9::c10::(Value.int .i64 0)::(Value.pointer (some ⟨pw,0,none⟩))::c13::c14::c15::c16::c17::c18::c19::c20::c21::iU::iT::iX::iW::jM::jL::jK::jJ::jI::jH::jG::jF::jE::jD::jC::jB::jA::jo::jm::jy::kG::kF::kE::kD::kC::kB::jw::c49::kA::c51::jY::jX::jW::jV::jU::jT::jS::jR::jQ::jP::jO::jN::kV::kU::kT::kS::kR::kQ::kP::kO::kN::lN::kM::kL::lM::lL::lK::lJ::lI::lH::mY::mD::mC::lG::lF::lD::lC::lB::lA::mX::Y 0::Y 1::Y 2::Y 3::Y 4::Y 5::Y 6::Y 7::Y 8::Y 9::Y 10::Y 11::ed::dZ::dY::dX::dW::dV::dU::dS::dR::dQ::dP::dO::dN::dH::dG::c119::dD::dC::eV::eU::eT::eQ::eP::fC::fB::fA::eZ::eY::[]),[]⟩ W):
  Code.wp prog vlDR Q ⟨List.toArray (c0::(Value.pointer (some ⟨pb,0,none⟩))::c2::(Value.int .i64 (k:Nat))::c4::(Value.slice (some ⟨fb,nS,none⟩) 3 3)::(Value.int .i64 (k2:Nat))::c7::c8::c9::c10::c11::(Value.pointer (some ⟨pw,0,none⟩))::c13::c14::c15::c16::c17::c18::c19::c20::c21::iU::iT::iX::iW::jM::jL::jK::jJ::jI::jH::jG::jF::jE::jD::jC::jB::jA::jo::jm::jy::kG::kF::kE::kD::kC::kB::jw::c49::kA::c51::jY::jX::jW::jV::jU::jT::jS::jR::jQ::jP::jO::jN::kV::kU::kT::kS::kR::kQ::kP::kO::kN::lN::kM::kL::lM::lL::lK::lJ::lI::lH::mY::mD::mC::lG::lF::lD::lC::lB::lA::mX::nA::nz::ny::ni::m9::m6::mW::mV::eH::eG::eF::eD::ed::dZ::dY::dX::dW::dV::dU::dS::dR::dQ::dP::dO::dN::dH::dG::c119::dD::dC::eV::eU::eT::eQ::eP::fC::fB::fA::eZ::eY::[]),[]⟩ w:=by
 have hk0:(0:Int)<=(k:Int):=by omega
 have hk1:(k:Int)<(pn:Int):=by omega
 have ZC:(0:Int)<=(k2:Int):=by omega
 have Sq:(k2:Int)<3:=by omega
 have iA:=ae oI;have Rb:=ae hnb;have WU:=ae QY;have HNQ:=ae hnq;have HFB:=ae hfb;have IJ:=ae zW;have HFU:=ae U8;have cB:=ae aJ;have Fm:=ae hcw;have QB:=ae hrun;have zS:=ae g0;have vD:=ae g1;have HG2:=ae g2;have HOLD:=ae (show∀(W:World)(b j:Nat)(v:Value),w.cell? ⟨b,j,none⟩=some v->Wr (λi=>i=pw) w W->b<w.heap.size->b≠pw->W.cell? ⟨b,j,none⟩=some v from λW b j v h hw hlt hne=>(World.cell?_of_block (a:=⟨b,j,none⟩) (hw.block b hlt hne)).trans h);clear oI hnb QY hnq hfb zW g0 g1 g2 U8 aJ hcw hrun;have uu:=ae cL;clear cL
 conv=>arg 2;whnf
 refine nK (by kernel_rfl) 13 11 pw 5 40 yR (vlDC w.heap.size pb qb gY k pn pc il ic gn gc fn fc IA GA FA mn fb nS k2 fu o) (λY=>⟨List.toArray (c0::(Value.pointer (some ⟨pb,0,none⟩))::c2::(Value.int .i64 (k:Nat))::c4::(Value.slice (some ⟨fb,nS,none⟩) 3 3)::(Value.int .i64 (k2:Nat))::c7::c8::c9::c10::Y 12::(Value.pointer (some ⟨pw,0,none⟩))::c13::c14::c15::c16::c17::c18::c19::c20::c21::iU::iT::iX::iW::jM::jL::jK::jJ::jI::jH::jG::jF::jE::jD::jC::jB::jA::jo::jm::jy::kG::kF::kE::kD::kC::kB::jw::c49::kA::c51::jY::jX::jW::jV::jU::jT::jS::jR::jQ::jP::jO::jN::kV::kU::kT::kS::kR::kQ::kP::kO::kN::lN::kM::kL::lM::lL::lK::lJ::lI::lH::mY::mD::mC::lG::lF::lD::lC::lB::lA::mX::Y 0::Y 1::Y 2::Y 3::Y 4::Y 5::Y 6::Y 7::Y 8::Y 9::Y 10::Y 11::ed::dZ::dY::dX::dW::dV::dU::dS::dR::dQ::dP::dO::dN::dH::dG::c119::dD::dC::eV::eU::eT::eQ::eP::fC::fB::fA::eZ::eY::[]),[]⟩) (λi=>if i=0 then nA else if i=1 then nz else if i=2 then ny else if i=3 then ni else if i=4 then m9 else if i=5 then m6 else if i=6 then mW else if i=7 then mV else if i=8 then eH else if i=9 then eG else if i=10 then eF else if i=11 then eD else if i=12 then c11 else undef) rfl (by kernel_rfl) (by simp) (by decide) ⟨cw,cB.out,Fm.out⟩ ?_ ?_ ?_ ?_ ?_ ?_
 ·intro o' ho;simp at ho;subst ho;exact⟨{on:=11,ground:=Ground.data},by simp,rfl,rfl⟩
 ·intro W W' i v hb h;rcases i with _|_|_|_|_|_|_|_|_|_|_|_|_|i
  all_goals first|(with_reducible exact h)|trivial|skip
  obtain⟨u,h1,h2⟩:=h;exact⟨u,h1,aF h2 (eW hb) (λ_ _ h=>h)⟩
 ·intro W W' i v hw h;rcases i with _|_|_|_|_|_|_|_|_|_|_|_|_|i
  all_goals first|(with_reducible exact h)|trivial|skip
  obtain⟨u,h1,h2⟩:=h;refine⟨u,h1,aF h2 hw (λg hg e=>?_)⟩;have:=(h2.lt _ hg).1;have hlt:=cB.lt;omega
 ·intro i o' Y W h2 ho hb hall K hK;have HW:=ae hb;clear hb;rcases i with _|_|_|_|_|_|_|_|_|_|_|_|_|_|i
  ·simp at ho;subst ho;clear hall;refine ak rfl rfl (λK' hK'=>?_);go_simp;have hh:=hK' _ _ (hK _ _ (aV _ _) rfl);simpa [upd]using hh
  ·simp at ho;subst ho;have d0:Y 0=_:=hall {on:=0,ground:=Ground.data} (by simp) rfl (by decide);have q0:=HOLD.out W _ _ _ (iA.cell (j:=0) rfl) HW.out iA.lt Rb.out;clear hall;refine ak rfl rfl (λK' hK'=>?_);go_simp;have hh:=hK' _ _ (hK _ _ (aV _ _) rfl);simpa [upd,d0]using hh
  ·simp at ho;subst ho;clear hall;refine ak rfl rfl (λK' hK'=>?_);go_simp;have hh:=hK' _ _ (hK _ _ (aV _ _) rfl);simpa [upd]using hh
  ·simp at ho;subst ho;have d1:Y 1=_:=hall {on:=1,ground:=Ground.data} (by simp) rfl (by decide);have d2:Y 2=_:=hall {on:=2,ground:=Ground.data} (by simp) rfl (by decide);clear hall;refine ak rfl rfl (λK' hK'=>?_);go_simp;have hh:=hK' _ _ (hK _ _ (aV _ _) rfl);simpa [upd,d1,d2]using hh
  ·simp at ho;subst ho;have d3:Y 3=_:=hall {on:=3,ground:=Ground.data} (by simp) rfl (by decide);have q0:=HOLD.out W _ _ _ zS.out HW.out WU.out HNQ.out;have q1:=HOLD.out W _ _ _ vD.out HW.out WU.out HNQ.out;have q2:=HOLD.out W _ _ _ HG2.out HW.out WU.out HNQ.out;clear hall;refine ak rfl rfl (λK' hK'=>?_);go_simp;have hh:=hK' _ _ (hK _ _ (aV _ _) rfl);simpa [upd,d3]using hh
  ·simp at ho;subst ho;clear hall;refine ak rfl rfl (λK' hK'=>?_);go_simp;have hh:=hK' _ _ (hK _ _ (aV _ _) rfl);simpa [upd]using hh
  ·simp at ho;subst ho;have d5:Y 5=_:=hall {on:=5,ground:=Ground.data} (by simp) rfl (by decide);have q0:=HOLD.out W _ _ _ (iA.cell (j:=1) rfl) HW.out iA.lt Rb.out;clear hall;refine ak rfl rfl (λK' hK'=>?_);go_simp;have hh:=hK' _ _ (hK _ _ (aV _ _) rfl);simpa [upd,d5]using hh
  ·simp at ho;subst ho;clear hall;refine ak rfl rfl (λK' hK'=>?_);go_simp;have hh:=hK' _ _ (hK _ _ (aV _ _) rfl);simpa [upd]using hh
  ·simp at ho;subst ho;clear hall;refine ak rfl rfl (λK' hK'=>?_);go_simp;have hh:=hK' _ _ (hK _ _ (aV _ _) rfl);simpa [upd]using hh
  ·simp at ho;subst ho;have d7:Y 7=_:=hall {on:=7,ground:=Ground.data} (by simp) rfl (by decide);have d8:Y 8=_:=hall {on:=8,ground:=Ground.data} (by simp) rfl (by decide);clear hall;refine ak rfl rfl (λK' hK'=>?_);go_simp;have hh:=hK' _ _ (hK _ _ (aV _ _) rfl);simpa [upd,d7,d8]using hh
  ·simp at ho;subst ho;have d9:Y 9=_:=hall {on:=9,ground:=Ground.data} (by simp) rfl (by decide);have q0:=HOLD.out W _ _ _ HFU.out HW.out HFB.out IJ.out;clear hall;refine ak rfl rfl (λK' hK'=>?_);go_simp;have hh:=hK' _ _ (hK _ _ (aV _ _) rfl);simpa [upd,d9]using hh
  ·simp at ho;subst ho;have d4:Y 4=_:=hall {on:=4,ground:=Ground.data} (by simp) rfl (by decide);have d6:Y 6=_:=hall {on:=6,ground:=Ground.data} (by simp) rfl (by decide);have d10:Y 10=_:=hall {on:=10,ground:=Ground.data} (by simp) rfl (by decide);clear hall;refine ak rfl rfl (λK' hK'=>?_);go_simp;refine(QB.out W HW.out).mono ?_;rintro e W5 ⟨u,rfl,hu,hb5⟩;go_simp;have hh:=hK' _ _ (hK (pX o u) W5 hb5 ⟨u,rfl,ownsRow_base hu HW.size⟩);simpa [upd,pX,d4,d6,d10]using hh
  ·simp at ho;subst ho;clear hall;refine ak rfl rfl (λK' hK'=>?_);go_simp;have hh:=hK' _ _ (hK _ _ (aV _ _) rfl);simpa [upd]using hh
  ·exact absurd rfl h2
  ·simp at ho
 ·intro o' Y W cs ho hrow hcs hcl K hK;simp at ho;subst ho;obtain⟨u,dA,hu⟩:=hcl;obtain⟨UA,uc,rfl⟩:=gQ hu;obtain⟨e0,e1,e2,e3,e4,rfl⟩:=Tm hcs;have q0:=hrow.cell (j:=0) rfl;have q1:=hrow.cell (j:=1) rfl;have q2:=hrow.cell (j:=2) rfl;have q3:=hrow.cell (j:=3) rfl;have q4:=hrow.cell (j:=4) rfl;have k0:=hrow.free 0;have k1:=hrow.free 1;have k2:=hrow.free 2;have k3:=hrow.free 3;have k4:=hrow.free 4;have dI:=ae hrow;clear hrow hcs;simp only[pX]at dA;refine ak rfl rfl (λK' hK'=>?_);go_simp;have hh:=hK' _ _ (hK _ undef (((((((Wr.refl (λi=>i=pw) W).cJ pw _ _ (aK rfl)).cJ pw _ _ (aK rfl)).cJ pw _ _ (aK rfl)).cJ pw _ _ (aK rfl)).cJ pw _ _ (aK rfl))) (by rw[dA];exact(((((dI.set 0 _).set 1 _).set 2 _).set 3 _).set 4 _)) (by rw[dA];rfl));simpa [upd,dA]using hh
 ·intro Y W hw hrow hall;obtain⟨u,dA,hu⟩:=hall 11 (by simp) (by decide);have Nl:Y 12=_:=hall 12 (by simp) (by decide);rw[dA]at hrow
  show Q .normal ⟨List.toArray (c0::(Value.pointer (some ⟨pb,0,none⟩))::c2::(Value.int .i64 (k:Nat))::c4::(Value.slice (some ⟨fb,nS,none⟩) 3 3)::(Value.int .i64 (k2:Nat))::c7::c8::c9::c10::Y 12::(Value.pointer (some ⟨pw,0,none⟩))::c13::c14::c15::c16::c17::c18::c19::c20::c21::iU::iT::iX::iW::jM::jL::jK::jJ::jI::jH::jG::jF::jE::jD::jC::jB::jA::jo::jm::jy::kG::kF::kE::kD::kC::kB::jw::c49::kA::c51::jY::jX::jW::jV::jU::jT::jS::jR::jQ::jP::jO::jN::kV::kU::kT::kS::kR::kQ::kP::kO::kN::lN::kM::kL::lM::lL::lK::lJ::lI::lH::mY::mD::mC::lG::lF::lD::lC::lB::lA::mX::Y 0::Y 1::Y 2::Y 3::Y 4::Y 5::Y 6::Y 7::Y 8::Y 9::Y 10::Y 11::ed::dZ::dY::dX::dW::dV::dU::dS::dR::dQ::dP::dO::dN::dH::dG::c119::dD::dC::eV::eU::eT::eQ::eP::fC::fB::fA::eZ::eY::[]),[]⟩ W
  rw[Nl];exact uu.out W u Y hw hrow hu
theorem rQ(n:Int)(w:World):Calls prog 6 #[.int .i64 n] w λe w'=>e= .returned (.int .i64 n)/\w=w':=by
 go_enter func6,ntmps6;go_wp2_with fail;go_ret;exact⟨rfl,rfl⟩
def vW:bB:=⟨[],[⟨0,1,[],[⟨1,0,0,0,3,[]⟩,⟨17,-1,0,0,0,[]⟩]⟩],0⟩
theorem Lf:yJ vW 5:=⟨by decide+kernel,by omega,by omega⟩
theorem Ui:vI (eB vW) [] 5=⟨1,3,[],2,1⟩:=by kernel_rfl
theorem Ye(w:World):bP ((w.alloc (.cells #[.int .i64 1,.int .i64 0,.int .i64 0,.int .i64 0,.int .i64 3,.slice none 0 0,.int .i64 17,.int .i64 (-1),.int .i64 0,.int .i64 0,.int .i64 0,.slice none 0 0] 94)).alloc (.cells #[.int .i64 0,.int .i64 1,.slice none 0 0,.slice (some ⟨w.heap.size,0,none⟩) 2 2] 54)) (w.heap.size+2) (.slice none 0 0,.slice (some ⟨w.heap.size+1,0,none⟩) 1 1,.int .i64 0) vW:=by
 have i0:In64 0:=by unfold In64;omega
 have i1:In64 1:=by unfold In64;omega
 have i3:In64 3:=by unfold In64;omega
 have i17:In64 17:=by unfold In64;omega
 have im:In64 (-1):=by unfold In64;omega
 have hb:Row ((w.alloc (.cells #[.int .i64 1,.int .i64 0,.int .i64 0,.int .i64 0,.int .i64 3,.slice none 0 0,.int .i64 17,.int .i64 (-1),.int .i64 0,.int .i64 0,.int .i64 0,.slice none 0 0] 94)).alloc (.cells #[.int .i64 0,.int .i64 1,.slice none 0 0,.slice (some ⟨w.heap.size,0,none⟩) 2 2] 54)) w.heap.size #[.int .i64 1,.int .i64 0,.int .i64 0,.int .i64 0,.int .i64 3,.slice none 0 0,.int .i64 17,.int .i64 (-1),.int .i64 0,.int .i64 0,.int .i64 0,.slice none 0 0] 94:=(Row.new _ _ _).alloc _
 have hg:Row ((w.alloc (.cells #[.int .i64 1,.int .i64 0,.int .i64 0,.int .i64 0,.int .i64 3,.slice none 0 0,.int .i64 17,.int .i64 (-1),.int .i64 0,.int .i64 0,.int .i64 0,.slice none 0 0] 94)).alloc (.cells #[.int .i64 0,.int .i64 1,.slice none 0 0,.slice (some ⟨w.heap.size,0,none⟩) 2 2] 54)) (w.heap.size+1) #[.int .i64 0,.int .i64 1,.slice none 0 0,.slice (some ⟨w.heap.size,0,none⟩) 2 2] 54:=Row.new' _ _ (by simp);generalize ((w.alloc (.cells #[.int .i64 1,.int .i64 0,.int .i64 0,.int .i64 0,.int .i64 3,.slice none 0 0,.int .i64 17,.int .i64 (-1),.int .i64 0,.int .i64 0,.int .i64 0,.slice none 0 0] 94)).alloc (.cells #[.int .i64 0,.int .i64 1,.slice none 0 0,.slice (some ⟨w.heap.size,0,none⟩) 2 2] 54))=W at hb hg ⊢
 refine⟨⟨none,0,rfl,by simp[vW],λh=>by simp[vW]at h⟩,⟨_,1,rfl,by simp[vW],λ_=>⟨_,0,rfl,by omega,λi x hi=>?_⟩⟩,rfl,i0⟩;rcases i with _|i
 ·simp[vW]at hi;subst hi;refine⟨hg.cell (j:=0) rfl,hg.cell (j:=1) rfl,⟨_,hg.cell (j:=2) rfl,none,0,rfl,by simp,λh=>by simp at h⟩,⟨_,hg.cell (j:=3) rfl,_,2,rfl,by simp,λ_=>⟨_,0,rfl,by omega,λi x hi=>?_⟩⟩,i0,i1⟩;rcases i with _|_|i
  ·simp at hi;subst hi;exact⟨hb.cell (j:=0) rfl,hb.cell (j:=1) rfl,hb.cell (j:=2) rfl,hb.cell (j:=3) rfl,hb.cell (j:=4) rfl,⟨_,hb.cell (j:=5) rfl,none,0,rfl,by simp,λh=>by simp at h⟩,i1,i0,i0,i0,i3⟩
  ·simp at hi;subst hi;exact⟨hb.cell (j:=6) rfl,hb.cell (j:=7) rfl,hb.cell (j:=8) rfl,hb.cell (j:=9) rfl,hb.cell (j:=10) rfl,⟨_,hb.cell (j:=11) rfl,none,0,rfl,by simp,λh=>by simp at h⟩,i17,im,i0,i0,i0⟩
  ·simp at hi
 ·simp[vW]at hi
theorem Fu(w:World):Calls prog 17 #[] w λe w'=>e= .returned (.bool true)/\Below w.heap.size w w':=by
 have hb2:=aB w (.cells #[.int .i64 1,.int .i64 0,.int .i64 0,.int .i64 0,.int .i64 3,.slice none 0 0,.int .i64 17,.int .i64 (-1),.int .i64 0,.int .i64 0,.int .i64 0,.slice none 0 0] 94) (.cells #[.int .i64 0,.int .i64 1,.slice none 0 0,.slice (some ⟨w.heap.size,0,none⟩) 2 2] 54);have hrun:=q7 (w.heap.size+2) vW _ [] (.slice none 0 0) 5 _ (by simp) (Ye w) ⟨none,0,rfl,by simp,by simp,λh=>by simp at h⟩;rw[show AG vW [] 5=⟨1,3,[],2,1⟩from(if_pos Lf).trans Ui,show Bu vW 5=0 from if_pos Lf]at hrun;have QB:=ae hrun;have bC:=ae hb2;clear hrun hb2;go_enter func17,ntmps17;refine aj λQ HQ=>?_;go_wp2_with fail;refine QB.mono ?_;rintro e w1 ⟨u,rfl,hu,hb1⟩;have bQ:=ae (bC.trans (hb1.mono bC.size))
 obtain⟨UA,uc,rfl⟩:=gQ hu;clear hb1 hu;go_wp2_with fail;refine(rQ _ _).mono ?_;rintro e w' ⟨rfl,rfl⟩;go_wp2_with fail;refine HQ _ _ _ ?_;refine aS (v:= .bool true) (by simp[results,results17,go_sem]) rfl ⟨rfl,bQ.trans ((ax w1 _).mono bQ.size)⟩
def gy(w:World)(v:Value)(l:List Int):Prop:=
 ∃A c,v= .slice A l.length c/\l.length<=c/\c<=9223372036854775807/\(0<l.length->∃b off,A=some ⟨b,off,none⟩/\b<w.heap.size/\∀k x,l[k]? =some x->w.cell? ⟨b,off+k,none⟩=some (.int .i64 x))
theorem gy.below{w w':World}{v:Value}{l:List Int}(h:gy w v l)(hb:Below w.heap.size w w'):gy w' v l:=by
 obtain⟨A,c,h0,h1,h2,h3⟩:=h;refine⟨A,c,h0,h1,h2,λhp=>?_⟩;obtain⟨b,off,hA,hlt,hc⟩:=h3 hp;have:=hb.size;exact⟨b,off,hA,by omega,λk x hk=>ag (hc k x hk) hb hlt⟩
theorem gy.xG{w:World}{ai:Nat}{e:TypeId}{v:Value}{l:List Int}(h:w.ownsRow ai e 1 v l.length (l.map (Value.int .i64))):gy w v l:=by
 have hc:=λg=>h.cells (g:=g);obtain⟨_,h|⟨g,c,cur,hv,_,hh,h1,h2,_⟩⟩:=h
 ·exact⟨none,0,by rw[h.1,h.2],by omega,by omega,λhp=>by omega⟩
 ·unfold maxLen at h2;refine⟨_,c,hv,by omega,by omega,λhp=>⟨g,0,rfl,Row.lt hh,λk x hk=>?_⟩⟩;have:=hc g (by rw[hv];rfl) k (.int .i64 x) (by rw[List.getElem?_map,hk];rfl);rw[wY]at this;rw[Nat.zero_add];exact this
theorem EI(l:List Int)(v v':Value)(w:World)(hv:gy w v l)(hu:gy w v' l):
  Calls prog 16 #[v,v'] w λe w'=>e= .returned (.bool true)/\Below w.heap.size w w':=by
 obtain⟨A,c,rfl,hlc,hcm,hA⟩:=hv;obtain⟨A',c',rfl,_,_,hA'⟩:=hu;have hlm:l.length<=9223372036854775807:=by omega
 have hb0:((l.length:Int) !=(l.length:Int))=false:=by simp
 have HA:=ae hA;have QV:=ae hA';clear hA hA';go_enter func16,ntmps16;go_wp2_with fail;go_loopw [5] (λi wr=>∃k:Nat,k<=l.length/\i= .int .i64 k/\Below w.heap.size w wr) (λi _=>l.length-(intOf i).toNat)
 case atStart=>exact⟨0,by omega,rfl,aV _ _⟩
 case round=>
  obtain⟨k,hk2,rfl,aJ⟩:=hrel;by_cases hlt:k<l.length
  ·obtain⟨x,hx⟩:∃x,l[k]? =some x:=⟨_,List.getElem?_eq_getElem hlt⟩
   obtain⟨b,off,rfl,hb,hc⟩:=HA (by omega);obtain⟨b',off',rfl,hb',hc'⟩:=QV (by omega);have e1:wr.cell? ⟨b,off+k,none⟩=some (.int .i64 x):=ag (hc k x hx) aJ hb;have e2:wr.cell? ⟨b',off'+k,none⟩=some (.int .i64 x):=ag (hc' k x hx) aJ hb';have qP:(k:Int)<(l.length:Int):=by omega
   have Sa:(x !=x)=false:=by simp
   clear hx hc hc';go_wp2_with fail;go_quiet (fail);go_wp2_with fail;go_roundw
   case rel=>exact⟨k+1,by omega,by go_num,below_drewN aJ _⟩
   case measure=>simp[intOf];omega
  ·obtain rfl:k=l.length:=by omega
   go_wp2_with fail;go_ret;exact⟨rfl,aJ⟩
theorem KA(o:um)(v v':Value)(w:World)(hv:gy w v o.out)(hu:gy w v' o.out):
  Calls prog 14 #[.agg #[.int .i64 o.kind,.int .i64 o.code,v,.int .i64 o.steps,.int .i64 o.deep],.agg #[.int .i64 o.kind,.int .i64 o.code,v',.int .i64 o.steps,.int .i64 o.deep]] w λe w'=>e= .returned (.bool true)/\Below w.heap.size w w':=by
 have e1:(o.kind==o.kind)=true:=by simp
 have e2:(o.code==o.code)=true:=by simp
 have e3:(o.steps==o.steps)=true:=by simp
 have e4:(o.deep==o.deep)=true:=by simp
 have HV:=ae hv;have HU:=ae hu;clear hv hu;go_enter func14,ntmps14;go_wp2_with fail;have hb:=aB w (Obj.cells #[.int .i64 o.kind,.int .i64 o.code,v,.int .i64 o.steps,.int .i64 o.deep] 40) (Obj.cells #[.int .i64 o.kind,.int .i64 o.code,v',.int .i64 o.steps,.int .i64 o.deep] 40);refine(EI o.out v v' _ (HV.below hb) (HU.below hb)).mono ?_;rintro e w1 ⟨rfl,hb1⟩;have c3:w1.cell? ⟨w.heap.size,3,none⟩=some (.int .i64 o.steps):=ag (by simp[go_sem]) hb1 (by simp[go_sem]);have c4:w1.cell? ⟨w.heap.size,4,none⟩=some (.int .i64 o.deep):=ag (by simp[go_sem]) hb1 (by simp[go_sem]);have d3:w1.cell? ⟨w.heap.size+1,3,none⟩=some (.int .i64 o.steps):=ag (by simp[go_sem]) hb1 (by simp[go_sem])
 have d4:w1.cell? ⟨w.heap.size+1,4,none⟩=some (.int .i64 o.deep):=ag (by simp[go_sem]) hb1 (by simp[go_sem]);have hb2:=hb.trans (hb1.mono (by simp[go_sem];try omega));clear hb hb1;go_wp2_with fail;go_ret;exact⟨rfl,hb2⟩
noncomputable def vlER:Code:=(fU (Tryz.f3.body.getD .skip)).getD 17 .skip
theorem pA(pb qb gY k pn pc il ic gn gc fn fc:Nat)(IA GA FA:Option Addr)(mn:Int)(pi po pw:Nat)(qE pU pV:Option Addr)(pg gc' pT:Nat)(er af:Int)(o:um)(v v':Value)(w:World)
  (oI:Row w pb #[.slice (some ⟨qb,gY,none⟩) pn pc,.slice IA il ic,.int .i64 af] 25)(QY:qb<w.heap.size)(hk:k<pn)
  (g0:w.cell? ⟨qb,gY+k*3,none⟩=some (.slice GA gn gc))(g1:w.cell? ⟨qb,gY+k*3+1,none⟩=some (.slice FA fn fc))(g2:w.cell? ⟨qb,gY+k*3+2,none⟩=some (.int .i64 mn))
  (hi:Row w pi #[.slice pU gn gc',.slice pV fn pT,.int .i64 mn] 31)
  (ho:Row w po #[.int .i64 o.kind,.int .i64 o.code,v,.int .i64 o.steps,.int .i64 o.deep] 40)(hw:Row w pw #[.int .i64 o.kind,.int .i64 o.code,v',.int .i64 o.steps,.int .i64 o.deep] 40)
  (hv:gy w v o.out)(hv':gy w v' o.out)
  (heq:∀W,Below w.heap.size w W->Calls prog 15 #[.agg #[.slice pU gn gc',.slice pV fn pT,.int .i64 mn],.agg #[.slice GA gn gc,.slice FA fn fc,.int .i64 mn]] W λe w'=>e= .returned (.bool true)/\Below W.heap.size W w')
  (hel:∀W,Below w.heap.size w W->Calls prog 16 #[.slice qE il pg,.slice IA il ic] W λe w'=>e= .returned (.bool true)/\Below W.heap.size W w')
  (c0 c2 c4 c5 c6 c13 c14 c15 c16 c17 c18 c19 c20 c21 iU iT iX iW jM jL jK jJ jI jH jG jF jE jD jC jB jA jo jm jy kG kF kE kD kC kB jw c49 kA c51 jY jX jW jV jU jT jS jR jQ jP jO jN kV kU kT kS kR kQ kP kO kN lN kM kL lM lL lK lJ lI lH mY mD mC lG lF lD lC lB lA mX nA nz ny ni m9 m6 mW mV eH eG eF eD ed dZ dY dX dW dV dU dS dR dQ dP dO dN dH dG c119 dD dC eV eU eT eQ eP fC fB fA eZ eY:Value)(Q:Exit->Act->World->Prop)
  (cL:∀(W:World)(y104 y105 y106 y107 y108 y109 y110 y111 y112 y113 y114 y115 y116 y117 y118 y119 y120 y121 y122 y123 y124 y125 y126 y127 y128 y129:Value),Below w.heap.size w W->Q .normal ⟨List.toArray (c0::(Value.pointer (some ⟨pb,0,none⟩))::c2::(Value.int .i64 (k:Nat))::c4::c5::c6::(Value.pointer (some ⟨pi,0,none⟩))::(Value.slice qE il pg)::(Value.pointer (some ⟨po,0,none⟩))::(Value.int .i64 er)::(Value.int .i64 er)::(Value.pointer (some ⟨pw,0,none⟩))::c13::c14::c15::c16::c17::c18::c19::c20::c21::iU::iT::iX::iW::jM::jL::jK::jJ::jI::jH::jG::jF::jE::jD::jC::jB::jA::jo::jm::jy::kG::kF::kE::kD::kC::kB::jw::c49::kA::c51::jY::jX::jW::jV::jU::jT::jS::jR::jQ::jP::jO::jN::kV::kU::kT::kS::kR::kQ::kP::kO::kN::lN::kM::kL::lM::lL::lK::lJ::lI::lH::mY::mD::mC::lG::lF::lD::lC::lB::lA::mX::nA::nz::ny::ni::m9::m6::mW::mV::eH::eG::eF::eD::y104::y105::y106::y107::y108::y109::y110::y111::y112::y113::y114::y115::y116::y117::y118::y119::y120::y121::y122::y123::y124::y125::y126::y127::y128::y129::(Value.bool false)::eY::[]),[]⟩ W):
  Code.wp prog vlER Q ⟨List.toArray (c0::(Value.pointer (some ⟨pb,0,none⟩))::c2::(Value.int .i64 (k:Nat))::c4::c5::c6::(Value.pointer (some ⟨pi,0,none⟩))::(Value.slice qE il pg)::(Value.pointer (some ⟨po,0,none⟩))::(Value.int .i64 er)::(Value.int .i64 er)::(Value.pointer (some ⟨pw,0,none⟩))::c13::c14::c15::c16::c17::c18::c19::c20::c21::iU::iT::iX::iW::jM::jL::jK::jJ::jI::jH::jG::jF::jE::jD::jC::jB::jA::jo::jm::jy::kG::kF::kE::kD::kC::kB::jw::c49::kA::c51::jY::jX::jW::jV::jU::jT::jS::jR::jQ::jP::jO::jN::kV::kU::kT::kS::kR::kQ::kP::kO::kN::lN::kM::kL::lM::lL::lK::lJ::lI::lH::mY::mD::mC::lG::lF::lD::lC::lB::lA::mX::nA::nz::ny::ni::m9::m6::mW::mV::eH::eG::eF::eD::ed::dZ::dY::dX::dW::dV::dU::dS::dR::dQ::dP::dO::dN::dH::dG::c119::dD::dC::eV::eU::eT::eQ::eP::fC::fB::fA::eZ::eY::[]),[]⟩ w:=by
 have hk0:(0:Int)<=(k:Int):=by omega
 have hk1:(k:Int)<(pn:Int):=by omega
 have hee:(er !=er)=false:=by simp
 have xh:=ae (λW(hb:Below w.heap.size w W)=>KA o v v' W (hv.below hb) (hv'.below hb));obtain⟨OA,oc,hve,_⟩:=id hv;obtain⟨OA',oc',hve',_⟩:=id hv';subst hve hve';have b0:=oI.cell (j:=0) rfl;have b1:=oI.cell (j:=1) rfl;have bl:=oI.lt;have i0:=hi.cell (j:=0) rfl;have i1:=hi.cell (j:=1) rfl;have i2:=hi.cell (j:=2) rfl;have il':=hi.lt;have o0:=ho.cell (j:=0) rfl;have o1:=ho.cell (j:=1) rfl;have o2:=ho.cell (j:=2) rfl;have o3:=ho.cell (j:=3) rfl;have o4:=ho.cell (j:=4) rfl;have ol:=ho.lt;have w0:=hw.cell (j:=0) rfl;have w1:=hw.cell (j:=1) rfl;have w2:=hw.cell (j:=2) rfl;have w3:=hw.cell (j:=3) rfl;have w4:=hw.cell (j:=4) rfl;have wl:=hw.lt;have LN:=ae heq;have Xi:=ae hel;have uu:=ae cL;clear cL oI hi ho hw hv hv' heq hel
 conv=>arg 2;whnf
 refine eX (by kernel_rfl) (by kernel_rfl) (λhG=>?_)
 repeat(go_big_quiet_step (first|(go_at_call 6;exact iR (rQ _ _))|(go_at_call 14;exact jc (xh _ (cM (aV _ _) (aY _) _)))|(go_at_call 15;exact jc (LN _ (cM (aV _ _) (aY _) _)))|(go_at_call 16;exact jc (Xi _ (cM (aV _ _) (aY _) _)))))
 refine wpQuiet_nil ?_;rintro⟨W,hb⟩;exact uu.out W _ _ _ _ _ _ _ _ _ _ _ _ _ _ _ _ _ _ _ _ _ _ _ _ _ _ hb
theorem N9(p:bB)(P:Value×Value×Value)(B:Nat)(w:World)(hB:B<=w.heap.size)(hP:bP w B P p)(hgl:p.ay.length<=200000000000000)(hlo:∀g,g∈p.funcs->g.az.length<=200000000000000/\g.ins.length<=200000000000000/\∀x,x∈g.ins->x.arg.length<=200000000000000):
  Calls prog 18 #[.agg #[P.1,P.2.1,P.2.2]] w λe w'=>∃n:Int,e= .returned (.int .i64 n)/\0<=n/\n<=1000000000000000/\Below w.heap.size w w':=by
 obtain⟨GA,gc,FA,fc,rfl⟩:=hP.shape;have hfl:=hP.2.1.len.2;have HP:=ae hP;have Rc:=ae hlo;clear hP hlo;go_enter func18,ntmps18;refine aj λQ HQ=>?_;go_wp2_with fail;go_loopw [3,4] (λnn i wr=>∃(k:Nat)(n:Int),nn= .int .i64 n/\i= .int .i64 (k:Nat)/\k<=p.funcs.length/\0<=n/\n<=1000000000000000/\Below w.heap.size w wr/\Row wr w.heap.size #[.slice GA p.ay.length gc,.slice FA p.funcs.length fc,.int .i64 p.main] 31) (λ_ i _=>p.funcs.length-(intOf i).toNat)
 case atStart=>exact⟨0,p.ay.length,rfl,rfl,Nat.zero_le _,by omega,by omega,ax w _,Row.new w _ _⟩
 case round=>
  obtain⟨k1,n1,rfl,rfl,hk1,hn01,hn11,hb1,hp1⟩:=hrel;obtain⟨w1,rfl⟩:∃w1:World,w1=wr:=⟨_,rfl⟩
  have hz1:=hb1.size;have bQ:=ae hb1;have XV:=ae hp1;have p1:=hp1.cell (j:=1) rfl;have pl:=hp1.lt;clear hb1 hp1;by_cases hgo:k1<p.funcs.length/\n1<1048576
  ·obtain⟨Zw,hnl1⟩:=hgo;have hd3:decide ((k1:Int)<(p.funcs.length:Int))=true:=by simpa using Zw
   have hd4:decide (n1<1048576)=true:=by simpa using hnl1
   have hkl1:(k1:Int)<(p.funcs.length:Int):=by omega
   obtain⟨fb,nS,g,hfa,hfb,hfk,z0,z1,⟨lv,z2,hlv⟩,⟨bv,z3,Bi⟩,_,_⟩:=HP.2.1.get Zw;subst hfa;obtain⟨⟨LA,lc,Kk,_⟩,⟨BA,bc,Kq,_⟩⟩:=And.intro hlv Bi;subst Kk Kq;obtain⟨hll,hil,hax⟩:=Rc.out g (List.mem_of_getElem? hfk);have Rf:=ae Bi;have HAX:=ae hax;have HG:=ae (λ(W:World)(hW:Below w.heap.size w W)=>(⟨(hW.cell (p:=⟨fb,_,none⟩) (show fb<w.heap.size by omega)).trans z2,(hW.cell (p:=⟨fb,_,none⟩) (show fb<w.heap.size by omega)).trans z3⟩:W.cell? ⟨fb,nS+k1*4+2,none⟩=some (.slice LA g.az.length lc)/\W.cell? ⟨fb,nS+k1*4+3,none⟩=some (.slice BA g.ins.length bc)));have z2':=(HG.out w1 bQ.out).1;have z3':=(HG.out w1 bQ.out).2;have PL:fb<w1.heap.size:=by omega
   clear hlv Bi hfk z0 z1 z2 z3 hax;go_wp2_with fail;refine aX 18 (by kernel_rfl) (by kernel_rfl) ?_;simp only[List.take_succ_cons,List.take_zero,List.drop_succ_cons,List.drop_zero]
   repeat(go_big_quiet_step (fail))
   refine wpQuiet_nil ?_;go_wp2_with fail;go_loopw [3,5] (λnn i wr=>∃(k:Nat)(n:Int),nn= .int .i64 n/\i= .int .i64 (k:Nat)/\k<=g.ins.length/\0<=n/\n<=1000000000000000/\Below w.heap.size w wr/\Row wr w.heap.size #[.slice GA p.ay.length gc,.slice (some ⟨fb,nS,none⟩) p.funcs.length fc,.int .i64 p.main] 31) (λ_ i _=>g.ins.length-(intOf i).toNat)
   case atStart=>exact⟨0,n1+1+g.az.length+g.ins.length,by go_num,rfl,Nat.zero_le _,by omega,by omega,bQ.drew,XV.drew⟩
   case round=>
    obtain⟨k2,n2,rfl,rfl,hk2,hn02,hn12,hb2,hp2⟩:=hrel;obtain⟨w2,rfl⟩:∃w2:World,w2=wr:=⟨_,rfl⟩
    have hz2:=hb2.size;have bC:=ae hb2;have HP2:=ae hp2;have p1:=hp2.cell (j:=1) rfl;have pl:=hp2.lt;have z3:=(HG.out w2 hb2).2;have hfbl2:fb<w2.heap.size:=by omega
    have hkl1':(k1:Int)<(p.funcs.length:Int):=by omega
    clear hb2 hp2;by_cases hgo:k2<g.ins.length/\n2<1048576
    ·obtain⟨hlt2,hnl2⟩:=hgo;have hd3:decide ((k2:Int)<(g.ins.length:Int))=true:=by simpa using hlt2
     have hd4:decide (n2<1048576)=true:=by simpa using hnl2
     have hkl2:(k2:Int)<(g.ins.length:Int):=by omega
     obtain⟨bb,zO,x,yH,hbb,hbk,_,_,_,_,_,⟨sv,b5,hst⟩,_⟩:=Rf.get hlt2;obtain⟨SA,scap,vA⟩:∃SA scap,sv= .slice SA x.arg.length scap:=(by obtain⟨A',c',h,_⟩:=hst;exact⟨_,_,h⟩)
     subst vA yH;have pZ:=HAX.out x (List.mem_of_getElem? hbk);have b5':=(bC.cell (p:=⟨bb,_,none⟩) (show bb<w.heap.size by omega)).trans b5;have iF:bb<w2.heap.size:=by omega
     clear hbk hst b5;go_wp2_with fail
     try(refine aX 13 (by kernel_rfl) (by kernel_rfl) ?_
         simp only[List.take_succ_cons,List.take_zero,List.drop_succ_cons,List.drop_zero]
         repeat(go_big_quiet_step (fail))
         refine wpQuiet_nil ?_;go_wp2_with fail)
     go_roundw
     case rel=>exact⟨k2+1,n2+x.arg.length,by go_num,by go_num,by omega,by omega,by omega,(by first|exact bC.out|exact bC.drew),(by first|exact HP2.out|exact HP2.drew)⟩
     case measure=>simp[intOf];omega
    ·have Py:decide (k2<g.ins.length)=false\/(decide (k2<g.ins.length)=true/\decide (n2<1048576)=false):=by
      by_cases hlt:k2<g.ins.length
      ·exact bu ⟨by simpa using hlt,by simp;exact Int.not_lt.1 (λh=>hgo ⟨hlt,h⟩)⟩
      ·exact aK (by simp;omega)
     clear hgo;rcases Py with hd|⟨hd,hd2⟩
     all_goals
      go_wp2_with fail;go_roundw
      case rel=>exact⟨k1+1,n2,by go_num,by go_num,by omega,by omega,by omega,bC.out,HP2.out⟩
      case measure=>simp[intOf];omega
  ·have Py:decide (k1<p.funcs.length)=false\/(decide (k1<p.funcs.length)=true/\decide (n1<1048576)=false):=by
    by_cases hlt:k1<p.funcs.length
    ·exact bu ⟨by simpa using hlt,by simp;exact Int.not_lt.1 (λh=>hgo ⟨hlt,h⟩)⟩
    ·exact aK (by simp;omega)
   clear hgo;rcases Py with hd|⟨hd,hd2⟩
   all_goals
    go_wp2_with fail;refine HQ _ _ _ ?_;exact aS (v:= .int .i64 n1) (by simp[results,results18,go_sem]) rfl ⟨n1,rfl,by omega,by omega,bQ.out⟩
theorem GQ(ps:List bB)(PA IA:Option Addr)(pn pc il ic:Nat)(ah:Int)(B:Nat)(w:World)(hB:B<=w.heap.size)(hps:SliceAt w B 3 (mQ w B) ps (.slice PA pn pc))(hpn:pn<=200000000000000)(hil:il<=200000000000000)(hsz:∀p,p∈ps->p.ay.length<=200000000000000/\∀g,g∈p.funcs->g.az.length<=200000000000000/\g.ins.length<=200000000000000/\∀x,x∈g.ins->x.arg.length<=200000000000000):
  Calls prog 4 #[.agg #[.slice PA pn pc,.slice IA il ic,.int .i64 ah]] w λe w'=>∃b,e= .returned (.bool b)/\Below w.heap.size w w':=by
 have HP:=ae hps;have Fl:=ae hsz;clear hps hsz;go_enter func4,ntmps4;refine aj λQ HQ=>?_;go_wp2_with fail;go_loopw [3,4] (λa i wr=>∃(k:Nat)(n:Int),a= .int .i64 n/\i= .int .i64 k/\k<=pn/\0<=n/\n<=2000000000000000/\Below w.heap.size w wr/\Row wr w.heap.size #[.slice PA pn pc,.slice IA il ic,.int .i64 ah] 25) (λ_ i _=>pn-(intOf i).toNat)
 case atStart=>exact⟨0,il+pn,rfl,rfl,by omega,by omega,by omega,ax _ _,Row.new w _ _⟩
 case round=>
  obtain⟨k,n,rfl,rfl,hk2,hm0,hm1,aJ,hr⟩:=hrel;have cB:=ae aJ;have HR:=ae hr;have r0:=hr.cell (j:=0) rfl;have rl:=hr.lt;have pS:=aJ.size;by_cases hgo:k<pn/\n<1048576
  ·obtain⟨hlt,hn⟩:=hgo;obtain⟨b,off,p,GD,hb,hk1,hE⟩:=(HP.below (aJ.mono hB) (aY _) (λ_ _ h=>h.below (aJ.mono hB) (aY _))).get hlt;obtain⟨P,c0,c1,c2,hpt⟩:=hE.at;simp only[Nat.add_zero]at c0 c1 c2;subst GD;have hs:=Fl.out p (List.mem_of_getElem? hk1);have HC:=ae (N9 p P B wr (by omega) hpt hs.1 hs.2);have qP:(k:Int)<(pn:Int):=by omega
   have hd3:decide ((k:Int)<(pn:Int))=true:=by simpa using hlt
   have hd4:decide (n<1048576)=true:=by simpa using hn
   have hbl:b<wr.heap.size:=by omega
   clear hk1 hpt hE aJ hr hs;go_wp2_with fail;refine HC.mono ?_;rintro e w1 ⟨q,rfl,hq0,hq1,hb1⟩;have bQ:=ae hb1;clear hb1;go_wp2_with fail;go_roundw
   case rel=>exact⟨k+1,n+q,rfl,by go_num,by omega,by omega,by omega,cB.trans (bQ.mono pS),HR.below bQ.out HR.lt⟩
   case measure=>simp[intOf];omega
  ·have Py:decide (k<pn)=false\/(decide (k<pn)=true/\decide (n<1048576)=false):=by
    by_cases hlt:k<pn
    ·exact bu ⟨by simpa using hlt,by simp;exact Int.not_lt.1 (λh=>hgo ⟨hlt,h⟩)⟩
    ·exact aK (by simp;omega)
   clear hgo aJ hr;rcases Py with hd|⟨hd,hd2⟩
   all_goals
    go_wp2_with fail;refine HQ _ _ _ ?_;exact aS (v:= .bool (decide (9000<n))) (by simp[results,results4,go_sem]) rfl ⟨_,rfl,cB.out⟩
end Go.Proofs.YtinmgbodgecoeaaGreat
