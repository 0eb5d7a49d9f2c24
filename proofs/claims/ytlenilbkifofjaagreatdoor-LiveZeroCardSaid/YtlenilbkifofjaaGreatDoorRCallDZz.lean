/- gantletref14: a call that is gone through. Conditions: as stated. -/
import Derived.Test.YtlenilbkifofjaaGreatDoorRCallEZz
import Derived.Test.YtlenilbkifofjaaGreatDoorQ12Zz
import Derived.Test.YtlenilbkifofjaaGreatDoorQ10Zz
import Derived.WalkLawsBesides
import Derived.Deep.DeepCutAuto
import Derived.Deep.RegionLaw
import Derived.Deep.AppendLies
import Derived.Deep.DrawnRows
import Derived.Outline
set_option linter.unusedVariables false
set_option linter.unusedSimpArgs false
set_option maxHeartbeats 8000000
set_option maxRecDepth 100000
namespace Go.Proofs.YtlenilbkifofjaaGreatDoor
open Go.RowKit
attribute [local go_sem ↓] Go.wp_at_zero Go.wp_at_succ
theorem rcall_go(base mc:Nat)(own:Nat→Prop)(P:Value×Value×Value×Value)(fuel:Int)(p:VirtS)(s:St)(f:Nat)(g:CodeS)(args:List V)(AA:Option Addr)(an acap:Nat)(w:World)
  (hM:RMach w base mc own P fuel s)(hP:VirtAt w base (P.1,P.2.1,P.2.2.1) p)(hI:GInv fuel s)(hf:fuel≤100000000)(hg:p.funcs[f]? =some g)(hC0:0≤s.calls)(R:CallR)(hd:s.calls<64)(hdeep:0≤s.deep)(nt:Nat)(hnt:g.regs=nt)(hntb:nt≤8000)(hobs:∀o,o∈g.locs→ObOk o)(hnl:g.locs.length≤400)(hargs:∀j v,args[j]? =some v→∃b off,AA=some ⟨b,off,none⟩∧b<w.heap.size∧¬own b∧ValCells w b (off+j*2) v)(han:args.length=an)(hant:an≤nt)(hS:GInv fuel {s with calls:=s.calls+1,deep:=max s.deep (s.calls+1),steps:=s.steps+countsF g.locs,mem:=makesF s.mem g.locs}∧FrOk (memBase (makesF s.mem g.locs)) (startF nt args) (numsF s.mem g.locs.length) p.globs.length∧(memBase (makesF s.mem g.locs)).length=(memBase s.mem).length+g.locs.length)(hnb:0<g.ins.length)
  (hins:∀x,x∈g.ins→InsOk g p.globs.length p.funcs.length (parV p) x)(hlast:lastB g=true)(hlay:layB [] g.ins=true)(hil:g.ins.length≤8000)(hpa:∀c,c∈p.funcs→c.params≤4)(hng:p.globs.length≤1000)(hvin:∀i,i∈g.ins→In64 i.op∧In64 i.dst∧In64 i.a∧In64 i.b∧In64 i.n∧∀x,x∈i.arg→In64 x)(hL:RLabs w own w.heap.size P.2.2.2 p)(hC:RCallOk p fuel (s.calls+1) R)(hRK:∀c,RKept (virtG p) fuel c R)(hy:(stepF fuel (countsF g.locs) {s with calls:=s.calls+1,deep:=max s.deep (s.calls+1)}).1=true):
  Calls Tryz.prog 24 #[.pointer (some ⟨mc,0,none⟩),.int .i64 f,.slice AA an acap] w fun e w'=>RCallSays base mc own P fuel (blocksF R fuel (numsF s.mem g.locs.length) (blocksI g.ins) (fuel-(s.steps+countsF g.locs)+1).toNat 0 {s with calls:=s.calls+1,deep:=max s.deep (s.calls+1),steps:=s.steps+countsF g.locs,mem:=makesF s.mem g.locs} (startF nt args)) w e w':=by
 obtain⟨hy0,hy1,hy2⟩:=stepF_yes hy;have HY2:=Lib.hid hy2;have HY1:=Lib.hid hy1;have HARG:=Lib.hid hargs;have HAN:=Lib.hid han;have HSS:=Lib.hid hS;have HMANY:=Lib.hid hy1;clear hy0 hy1 hy2 hargs hS;have hmc:=(by obtain⟨_,_,_,_,h⟩:=hM;exact⟨h.mine,h.rest.own mc h.mine⟩:own mc∧base≤mc∧mc<w.heap.size)
 obtain⟨hm0,hmc0,hmc1⟩:=hmc;obtain⟨inv,outv,memv,rb,hMA⟩:=id hM;have c9:w.cell? ⟨mc,10,none⟩=some (.int .i64 s.deep):=hMA.row.cell (j:=10) rfl;have c11:w.cell? ⟨mc,12,none⟩=some (.int .i64 s.calls):=hMA.row.cell (j:=12) rfl;have f9:=hMA.row.free 10;have f11:=hMA.row.free 12;have q64:(s.calls==64)=false:=by simp;omega
 obtain⟨AF,nf,capf,hPf⟩:∃AF nf capf,P.2.1= .slice AF nf capf:=(by obtain⟨A',c',h,_⟩:=hP.2.1;exact⟨_,_,_,h⟩)
 have c1:w.cell? ⟨mc,1,none⟩=some (.slice AF nf capf):=hPf▸hMA.row.cell (j:=1) rfl;have hPs:SliceAt w base 4 (CodeE w base) p.funcs P.2.1:=hP.2.1;rw[hPf]at hPs;have hfn:f<nf:=(by have:=hPs.len.1;rcases Nat.lt_or_ge f p.funcs.length with h|h;omega;rw[List.getElem?_eq_none h]at hg;cases hg)
 obtain⟨gb,goff,g',rfl,hgb,hg',hGE⟩:=hPs.get hfn;rw[hg]at hg';injection hg' with hg';subst hg';obtain⟨g0,g1,⟨lv0,g2,hlo⟩,⟨bv,g3,hbl⟩,_,_⟩:=hGE;simp only[Nat.add_zero]at g0 g1 g2 g3;obtain⟨LA,lcap,hlv⟩:∃LA lcap,lv0= .slice LA g.locs.length lcap:=(by obtain⟨A',c',h,_⟩:=hlo;exact⟨_,_,h⟩)
 subst hlv;obtain⟨BA,bcap,hbv⟩:∃BA bcap,bv= .slice BA g.ins.length bcap:=(by obtain⟨A',c',h,_⟩:=hbl;exact⟨_,_,h⟩)
 subst hbv;have hlol:=hlo.len.2;have hbll:=hbl.len.2;have hnf:=hPs.len.2;have hfn0:(0:Int)≤(f:Int):=by omega
 have hfn1:(f:Int)<(nf:Int):=by omega
 have hgbl:gb<w.heap.size:=by omega
 have HM:=Lib.hid hM;have HP:=Lib.hid hP;have HI:=Lib.hid hI;have HLO:=Lib.hid hlo;have HBS:=Lib.hid hbl;have HM0:=Lib.hid hm0;have HOW:=Lib.hid (show∀k,own k→base≤k∧k<w.heap.size from hMA.rest.own);have HMA:=Lib.hid hMA;obtain⟨Z,hZ,hmk⟩:=make_vals nt (by omega);rw[hnt]at g1;have HNT:=Lib.hid hnt;clear hnt;have hd1:0≤s.deep:=hdeep;have HPF:=Lib.hid hPf;have HG:=Lib.hid hg;have HINS:=Lib.hid hins;have HLAST:=Lib.hid hlast;have HLAY:=Lib.hid hlay;have HPA:=Lib.hid hpa;have HVIN:=Lib.hid hvin;have HLABS:=Lib.hid hL;have HCOK:=Lib.hid hC;have HRK:=Lib.hid hRK;clear hins hlast hlay hpa hvin hL hC hRK;clear hM hP hI hlo hbl hm0 hMA hPs hg hPf;go_enter Tryz.func24,Tryz.ntmps24;go_upto_region 4 with fail
 go_cut [] (fun wx=>RMachAt wx base mc own P fuel {s with calls:=s.calls+1,deep:=max s.deep (s.calls+1)} inv outv memv rb∧Row wx w.heap.size #[.int .i64 0,.int .i64 0] 70∧Wr (fun k=>k=mc) w wx)
 case first=>
  refine still_tail 14 (by kernel_rfl) (by kernel_rfl) ?_;simp only[List.take_succ_cons,List.take_zero,List.drop_succ_cons,List.drop_zero]
  repeat still_step
  try refine wpStill_nil ?_
  go_wp2_with fail
  all_goals go_meet
  all_goals
   refine⟨RMachAt.below (w:=(w.setCell ⟨mc,12,none⟩ _).setCell ⟨mc,10,none⟩ _) (RMachAt.num (RMachAt.num (s':={s with calls:=s.calls+1}) HMA.out 12 _ rfl rfl rfl rfl) 10 _ ?_ rfl rfl rfl) ((below1 _ _).drew),(Row.new' _ _ (by simp)).drew,((Wr.cell1 w mc 12 _).trans (Wr.cell1 _ mc 10 _) (fun _ h=>Or.inl h)).trans (Wr.of_below (F:=fun _=>False) ((below1 _ _).drew)) (fun _ h=>h.elim)⟩
   first|(simp[rmcells];done)|(simp[rmcells];omega)
 case rest=>
  obtain⟨hMB,hR0,hW0⟩:=hcut;have hBw:Below base w wc:=hW0.below (by omega) (fun k hk=>by omega);have HMB:=Lib.hid hMB;have HR0:=Lib.hid hR0;have HW0:=Lib.hid hW0;have hzc:=hW0.size;have hrl:=hR0.lt;have d1:wc.cell? ⟨mc,1,none⟩=some (.slice (some ⟨gb,goff,none⟩) nf capf):=HPF.out▸hMB.row.cell (j:=1) rfl;have g0':=cell_below g0 hBw hgb;have g1':=cell_below g1 hBw hgb;have g2':=cell_below g2 hBw hgb;have g3':=cell_below g3 hBw hgb;have HBW:=Lib.hid hBw;clear hMB hR0 hW0 hBw g0 g1 g2 g3 c1 c9 c11 f9 f11;have hgbl':gb<wc.heap.size:=by omega
  obtain⟨wb,rfl⟩:∃wb:World,wb=wc:=⟨_,rfl⟩
  go_upto_region 6 with fail;go_cut [9] (fun v9 wx=>∃fb tb:Nat,v9= .pointer (some ⟨fb,0,none⟩)∧Row wx fb #[.slice (some ⟨tb,0,none⟩) nt nt,.slice none 0 0] 107∧VRow wx tb (List.replicate nt ⟨0,0⟩)∧Row wx wb.heap.size #[.int .i64 g.params,.int .i64 nt,.slice LA g.locs.length lcap,.slice BA g.ins.length bcap] 39∧Below wb.heap.size wb wx∧wb.heap.size<fb∧wb.heap.size<tb)
  case first=>
   go_wp2_with fail
   all_goals go_meet
   all_goals exact⟨wb.heap.size+1+1,wb.heap.size+1,rfl,(Row.new' _ _ (by simp)),⟨Z,((Row.new' _ _ (by simp)).alloc _),hZ⟩,(((Row.new _ _ _).alloc _).alloc _),(below3 _ _ _ _),by omega,by omega⟩
  case rest=>
   obtain⟨fb,tb,rfl,hFR,hTR,hGR,hBL,hfb,htb⟩:=hcut;have HFR:=Lib.hid hFR;have HTR:=Lib.hid hTR;have HGR:=Lib.hid hGR;have HBL:=Lib.hid hBL;have hz2:=hBL.size;have hBw2:Below base w wc:=HBW.out.trans (hBL.mono (by omega));have HBW2:=Lib.hid hBw2;have gr2:wc.cell? ⟨wb.heap.size,2,none⟩=some (.slice LA g.locs.length lcap):=hGR.cell (j:=2) rfl;have gr3:wc.cell? ⟨wb.heap.size,3,none⟩=some (.slice BA g.ins.length bcap):=hGR.cell (j:=3) rfl;have hLO2:=HLO.out.below hBw2 (Nat.le_refl _) (fun _ _ h=>h.below hBw2 (Nat.le_refl _));have HLO2:=Lib.hid hLO2
   have HST:=Lib.hid (fun W(hb:Below wc.heap.size wc W)=>hy▸rstep_any base mc own P fuel (countsF g.locs) {s with calls:=s.calls+1,deep:=max s.deep (s.calls+1)} W ⟨_,_,_,_,(HMB.out.below HBL.out).below hb⟩ HI.out.lo HI.out.hi (by omega) (by have:=countsF_bd hobs;omega) (by have:=countsF_bd hobs;omega));have HOBS:=Lib.hid hobs;have hcb:=countsF_bd hobs;obtain⟨hcb1,hcb2⟩:=hcb;have HY:=Lib.hid hy;clear hFR hTR hGR hBL hBw2 hLO2 g0' g1' g2' g3' d1 hobs hy;go_wp2_with fail
   go_loop [10,11] (fun t i=>∃k:Nat,k≤g.locs.length∧i= .int .i64 k∧t= .int .i64 (countsF (g.locs.take k))) (fun _ i=>g.locs.length-(intOf i).toNat)
   case atStart=>exact⟨0,by omega,rfl,rfl⟩
   case round=>
    obtain⟨k,hk,rfl,rfl⟩:=hrel;have hcT:(countsF (g.locs.take k):Int)=countsF (g.locs.take k):=rfl;have hct:=countsF_bd (l:=g.locs.take k) (fun o ho=>HOBS.out o (List.mem_of_mem_take ho));rw[List.length_take,Nat.min_eq_left hk]at hct;obtain⟨hct1,hct2⟩:=hct;by_cases hlt:k<g.locs.length
    ·obtain⟨lb,loff,o,rfl,hlb,hok,_,o1,_⟩:=HLO2.out.get hlt;have hoo:=HOBS.out o (List.mem_of_getElem? hok);have hoc0:=hoo.2.1;have hoc1:=hoo.2.2.1;have HOK:=Lib.hid hok;have hkl:(k:Int)<(g.locs.length:Int):=by omega
     have hlen:(k:Int)≤400:=by omega
     clear hok hoo hcT;go_wp2_with fail
     go_round
     case rel=>exact⟨k+1,by omega,by go_num,by rw[List.take_add_one,HOK.out];simp only[Option.toList_some];rw[countsF_append];simp[countsF]⟩
     case measure=>simp[intOf];omega
    ·obtain rfl:k=g.locs.length:=by omega
     rw[List.take_length]at hct1 hct2 ⊢;have HRX:=Lib.hid (show Row wc w.heap.size #[.int .i64 0,.int .i64 0] 70 from HR0.out.below HBL.out hrl);have hns:=HY1.out;have hs2:=HI.out.hi;have hs3:=HI.out.lo;go_wp2_with fail;refine(HST.out _ (Below.refl _ _)).mono ?_;rintro e w1 ⟨rfl,hM1,hw1⟩;rw[HY2.out]at hM1;have HM1:=Lib.hid hM1;have HW1:=Lib.hid hw1;have hz1:=hw1.size;have hfbm:¬fb=mc:=by omega
     have htbm:¬tb=mc:=by omega
     have hgbm:¬wb.heap.size=mc:=by omega
     have HR1:=Lib.hid (HRX.out.wr hw1 (show¬w.heap.size=mc by omega));have HFR1:=Lib.hid (HFR.out.wr hw1 hfbm);have HTR1:=Lib.hid (show VRow w1 tb (List.replicate nt ⟨0,0⟩)from(by obtain⟨cv,h1,h2⟩:=HTR.out;exact⟨cv,h1.wr hw1 htbm,h2⟩));have HGR1:=Lib.hid (HGR.out.wr hw1 hgbm);have HB1:=Lib.hid (show Below base w w1 from HBW2.out.trans (hw1.below (by omega) (fun k hk=>by omega)));have hfl:=HFR1.out.lt;have htl:=(by obtain⟨_,h,_⟩:=HTR1.out;exact h.lt:tb<w1.heap.size)
     have HWA:=Lib.hid (show Wr own w w1 from((HW0.out.mono (fun k hk=>Or.inl (hk▸HM0.out))).trans (Wr.of_below (F:=fun _=>False) HBL.out) (fun i hi=>hi.elim)).trans hw1 (fun i hi=>Or.inl (hi▸HM0.out)));clear hM1 hw1;obtain⟨i0,hi,hz0,hzz1,hzz2⟩:=info_parts int_info;go_wp2_with fail;go_loopw [12] (fun i wr=>∃(k:Nat)(own1:Nat→Prop)(lvk:Value),k≤g.locs.length∧i= .int .i64 k∧RLocsAt base mc own P fuel {s with calls:=s.calls+1,deep:=max s.deep (s.calls+1),steps:=s.steps+countsF g.locs} fb tb nt g LA lcap BA bcap s.mem w wb.heap.size w1 wr k own1 lvk) (fun i _=>g.locs.length-(intOf i).toNat)
     case atStart=>exact⟨0,own,.slice none 0 0,by omega,rfl,⟨HM1.out,HFR1.out,HTR1.out,HGR1.out,HR1.out,World.ownsRow_nil _ _ _ _,fun _ h=>h,fun _ h=>Or.inl h,fun _ h=>(by cases h),Wr.refl _ _⟩⟩
     case round=>
      obtain⟨k,own1,lvk,hk,rfl,hL⟩:=hrel;have hzr:=hL.wr.size;have hbw:base≤w1.heap.size:=by omega
      have hBr:Below base w wr:=HB1.out.trans (hL.wr.below hbw (fun i hi=>by rcases hi with hi|hi;exact(HOW.out i hi).1;omega));have HBr:=Lib.hid hBr;have e2:wr.cell? ⟨wb.heap.size,2,none⟩=some (.slice LA g.locs.length lcap):=hL.grow.cell (j:=2) rfl;have HL:=Lib.hid hL;by_cases hlt:k<g.locs.length
      ·
       obtain⟨lb,loff,o,rfl,hlb,hok,o0,o1,⟨ov,o2,hov⟩,_,_⟩:=(HLO.out.below hBr (Nat.le_refl _) (fun _ _ h=>h.below hBr (Nat.le_refl _))).get hlt;simp only[Nat.add_zero]at o0 o1 o2;obtain⟨OA,ocap,hOv⟩:∃OA ocap,ov= .slice OA o.init.length ocap:=(by obtain⟨A',c',h,_⟩:=hov;exact⟨_,_,h⟩)
       subst hOv;have hoo:=HOBS.out o (List.mem_of_getElem? hok);have hbm:(memBase (makesF s.mem (g.locs.take k))).length=(memBase s.mem).length+k:=memBase_makes_take _ _ _ hk;have hmany:(memBase s.mem).length≤100000020:=by have:=HI.out.many;have:=HI.out.lo;have:=HI.out.hi;omega
       have HMK:=Lib.hid (fun W(hb:Below wr.heap.size wr W)=>rmake_mach base mc own1 P fuel _ o (.slice OA o.init.length ocap) W (HL.out.mach.below hb) hoo (hov.below (hb.mono (by omega)) (Nat.le_refl _)) (by show(memBase (makesF s.mem (g.locs.take k))).length+1≤1000000000;omega));have HOK:=Lib.hid hok;have HHB:=Lib.hid hbm;have hkl:(k:Int)<(g.locs.length:Int):=by omega
       have hk0:(0:Int)≤(k:Int):=by omega
       have e5:wr.cell? ⟨fb,1,none⟩=some lvk:=hL.frow.cell (j:=1) rfl;have hlbl:lb<wr.heap.size:=by omega
       have HNF:=Lib.hid (show¬own1 fb from fun h=>by rcases HL.out.down fb h with h|h;have:=(HOW.out fb h).2;omega;omega);clear hL hBr hok hov hoo hbm;go_wp2_with fail;go_region_law
        (first
         |(go_simp;go_at_call 23;refine(HMK.out _ (by exact(Below.refl _ _).drew)).mono ?_;rintro e w2 ⟨rfl,own2,hu2,hd2,hM2,hw2⟩;have hF2:=(HL.out.frow.drew).wr hw2 HNF.out;have h5:w2.cell? ⟨fb,1,none⟩=some lvk:=hF2.cell (j:=1) rfl;have h5f:=hF2.free 1;have h5l:=hF2.lt;have HF2:=Lib.hid hF2;have HM2:=Lib.hid hM2;have HW2:=Lib.hid hw2;have HU2:=Lib.hid (And.intro hu2 hd2);have hzw2:wr.heap.size≤w2.heap.size:=hw2.size;clear hF2 hM2 hw2 hu2 hd2)
         |(refine step_append_lies _ (by rfl) _ _ _ (by rfl) w1.heap.size 3 i0 _ 1 8 Tryz.underlying41 hi hz0 hzz1 hzz2 rfl (by omega) lvk k ((numsF s.mem k).map fun x=>Value.int .i64 (x:Nat)) (by rfl) (own_one (ownsRow_wr (own_drew0 HL.out.locs) HW2.out (fun i hi h=>HL.out.noloc i hi h)) _) ⟨w2.heap.size,0,none⟩ 1 1 [.int .i64 ((memBase (makesF s.mem (g.locs.take k))).length:Nat)] (by rfl) (by rfl) (cells_new _ _ _) (by intro u hu;simp at hu;subst hu;rfl) (by omega) (by unfold maxLen;omega) (by omega) (by simp;omega) (w2.heap.size+1) (by simp) ?_;intro gg cap3 w3 hown3 hgrow hat hlt3;have hF3:=(HF2.out.alloc (.cells #[.int .i64 ((memBase (makesF s.mem (g.locs.take k))).length:Nat)] 3)).wr (Wr.grown (F:=fun i=>lvk.ownBlock=some i) hgrow (fun i hi=>hi)) (fun h=>by obtain⟨_,cs',hr'⟩:=ownsRow_row HL.out.locs h;exact HL.out.frow.ne hr' (by decide) rfl);have h6:w3.cell? ⟨fb,1,none⟩=some lvk:=hF3.cell (j:=1) rfl;have h6f:=hF3.free 1;have HOW3:=Lib.hid hown3;have HGW:=Lib.hid hgrow;have HAT:=Lib.hid hat;clear hF3 hown3 hgrow hat))
       all_goals go_wp2_with fail
       all_goals
        go_roundw
        case rel=>
         exact⟨k+1,own2,.slice (some ⟨gg,0,none⟩) (k+1) cap3,by omega,by go_num,rlocs_next HL.out HOK.out HU2.out.1 HU2.out.2 HM2.out HW2.out hbw (by omega) ⟨fun h=>by have:=(HOW.out fb h).2;omega,hfl⟩ ⟨fun h=>by have:=(HOW.out tb h).2;omega,htl⟩ ⟨fun h=>by have:=(HOW.out _ h).2;omega,by omega⟩ ⟨fun h=>by have:=(HOW.out _ h).2;omega,by omega⟩ HOW3.out HGW.out HAT.out⟩
        case measure=>simp[intOf];omega
      ·obtain rfl:k=g.locs.length:=by omega
       obtain⟨w2,rfl⟩:∃w2:World,w2=wr:=⟨_,rfl⟩
       have HARG2:=Lib.hid (show∀j v,args[j]? =some v→∃b off,AA=some ⟨b,off,none⟩∧b<w.heap.size∧ValCells w2 b (off+j*2) v from fun j v hj=>by
        obtain⟨b,off,h1,h2,h3,h4⟩:=HARG.out j v hj;exact⟨b,off,h1,h2,h4.wr2 HWA.out h3 h2 HL.out.wr (fun h=>by rcases h with h|h;exact h3 h;omega) (by omega)⟩)
       clear hL hBr;go_wp2_with fail;go_loopw [13] (fun i wr=>∃k:Nat,k≤an∧i= .int .i64 k∧VRow wr tb (args.take k++List.replicate (nt-k) ⟨0,0⟩)∧Wr (fun b=>b=tb) w2 wr) (fun i _=>an-(intOf i).toNat)
       case atStart=>exact⟨0,by omega,rfl,by simpa using HL.out.trow,Wr.refl _ _⟩
       case round=>
        obtain⟨k,hk,rfl,hVk,hwr⟩:=hrel;have hzr2:=hwr.size;have hzl2:=HL.out.frow.lt;have hft:¬fb=tb:=(by obtain⟨_,h,_⟩:=HL.out.trow;exact fun e=>HL.out.frow.ne h (by decide) e)
        have hFk:=HL.out.frow.wr hwr hft;have e4:wr.cell? ⟨fb,0,none⟩=some (.slice (some ⟨tb,0,none⟩) nt nt):=hFk.cell (j:=0) rfl;have HWR:=Lib.hid hwr;have HVK:=Lib.hid hVk;by_cases hlt2:k<an
        ·
         obtain⟨av,hav⟩:∃v,args[k]? =some v:=⟨_,List.getElem?_eq_getElem (by omega)⟩
         obtain⟨ab,aoff,rfl,hab,ha⟩:=HARG2.out k av hav;have hab2:¬ab=tb:=by omega
         obtain⟨a0,a1⟩:=ha.wr1 hwr hab2 (by omega);have HAV:=Lib.hid hav;have hkan:(k:Int)<(an:Int):=by omega
         have hknt:(k:Int)<(nt:Int):=by omega
         obtain⟨cv,hvr,hvi⟩:=hVk;have hvsz:cv.size=nt*2:=(by have:=hvi.1;rw[this];simp;omega)
         have t5:=hvr.free (k*2);have t6:=hvr.free (k*2+1);obtain⟨u7',t7⟩:∃u,wr.cell? ⟨tb,k*2,none⟩=some u:=⟨_,hvr.cell (Array.getElem?_eq_getElem (by omega))⟩
         obtain⟨u8',t8⟩:∃u,wr.cell? ⟨tb,k*2+1,none⟩=some u:=⟨_,hvr.cell (Array.getElem?_eq_getElem (by omega))⟩
         clear hvr hvi hFk hwr ha hav hvsz;go_wp2_with fail;refine still_tail 10 (by kernel_rfl) (by kernel_rfl) ?_;simp only[List.take_succ_cons,List.take_zero,List.drop_succ_cons,List.drop_zero]
         repeat still_step
         try refine wpStill_nil ?_
         go_wp2_with fail;go_roundw
         case rel=>
          have hV2:=HVK.out.set k av;rw[start_next (by omega) HAV.out (by have:=HAN.out;omega)]at hV2;exact⟨k+1,by omega,by go_num,hV2,(HWR.out.trans (wr_pair _ _ _ _ _ _) (fun i h=>Or.inl h)).trans (Wr.of_below (F:=fun _=>False) (Below.refl _ _).drew) (fun i h=>h.elim)⟩
         case measure=>simp[intOf];omega
        ·obtain rfl:k=an:=by omega
         obtain⟨w3,rfl⟩:∃w3:World,w3=wr:=⟨_,rfl⟩
         have hst:args.take k++List.replicate (nt-k) (⟨0,0⟩:V)=startF nt args:=by rw[←HAN.out,List.take_length];rfl
         rw[hst]at HVK;have hstl:(startF nt args).length=nt:=by rw[←hst,List.length_append,List.length_take,List.length_replicate,HAN.out];omega
         have HB0:=Lib.hid (rcall_start HL.out HWR.out HVK.out hstl hntb (by omega) (HOW.out) HWA.out HBW.out hfb htb (by omega) HSS.out);clear hst hstl hwr hVk hFk;have hgs:(fuel-(s.steps+countsF g.locs)).toNat<(fuel-(s.steps+countsF g.locs)+1).toNat:=by have:=HMANY.out;omega
         have HGS:=Lib.hid hgs;clear hgs;go_wp2_with fail;refine rcall_rounds base mc own own1 P fuel (s.calls+1) p f fb tb nt wb.heap.size _ 0 g LA BA lcap bcap lvk (numsF s.mem g.locs.length) R _ _ _ w w3 hf (by omega) HP.out HOW.out HBS.out (numsF_length _ _) HG.out HB0.out hnb HGS.out rfl (by omega) (by omega) HINS.out HLAST.out HLAY.out hil HNT.out HPA.out hng HVIN.out HLABS.out HCOK.out HRK.out _ _ _ _ _ _ _ _ _ _ _ _ _ _ _ _ _ _ _ _ _ _ _ _ _ _ _ _ _ _ _ _ _ _ _ _ _ _ _ _ _ _ _ _ _ _ _ _ _ _ _ _ _ _ _ _ _ _ _ _ _ _ _ _ _ _ _ _ _ _ _ _ _ _ _ _ _ _ _ _ _ _ _ _ _ _ _ _ _ _ _ _ _ _ _ _ _ _ _ _ _ _ _ _ _ _ _ _ _ _ _ _ _ _ _ _ _ _ _ _ _ _ _ _ _ _ _ _ _ _ _ _ _ _ _ _ _ _ _ _ _ _ _ _ _ _ _ _ _ _ _ _ _ _ _ _ _ _ _ _ _ _ _ _ _ _ _ _ _ _ _ _ _ _ _ _ _ _ _ _ _ _ _ _ _ _ _ _ _ _ _ _ _ _ _ _ _ _ _ _ _ _ _ _ _ _ _ _ _ _ ?_;exact fun _ _ h=>h
end Go.Proofs.YtlenilbkifofjaaGreatDoor
