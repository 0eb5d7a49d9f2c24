/- gantletref14: a call for which no fuel is left. Conditions: as stated. -/
import Derived.Test.YtlenilbkifofjaaGreatDoorQ11Zz
import Derived.Test.YtlenilbkifofjaaGreatDoorQ10Zz
import Derived.WalkLawsBesides
import Derived.Deep.DeepCutAuto
import Derived.Outline
set_option linter.unusedVariables false
set_option linter.unusedSimpArgs false
set_option maxHeartbeats 8000000
set_option maxRecDepth 100000
namespace Go.Proofs.YtlenilbkifofjaaGreatDoor
open Go.RowKit
theorem rcall_dry(base mc:Nat)(own:Nat→Prop)(P:Value×Value×Value×Value)(fuel:Int)(p:VirtS)(s:St)(f:Nat)(g:CodeS)(args:List V)(AA:Option Addr)(an acap:Nat)(w:World)
  (hM:RMach w base mc own P fuel s)(hP:VirtAt w base (P.1,P.2.1,P.2.2.1) p)(hI:GInv fuel s)(hf:fuel≤100000000)(hg:p.funcs[f]? =some g)(hC0:0≤s.calls)(hd:s.calls<64)(hdeep:0≤s.deep)(nt:Nat)(hnt:g.regs=nt)(hntb:nt≤8000)(hobs:∀o,o∈g.locs→ObOk o)(hnl:g.locs.length≤400)(hy:(stepF fuel (countsF g.locs) {s with calls:=s.calls+1,deep:=max s.deep (s.calls+1)}).1=false):
  Calls Tryz.prog 24 #[.pointer (some ⟨mc,0,none⟩),.int .i64 f,.slice AA an acap] w fun e w'=>RCallSays base mc own P fuel (none,(stepF fuel (countsF g.locs) {s with calls:=s.calls+1,deep:=max s.deep (s.calls+1)}).2) w e w':=by
 have hmc:=(by obtain⟨_,_,_,_,h⟩:=hM;exact⟨h.mine,h.rest.own mc h.mine⟩:own mc∧base≤mc∧mc<w.heap.size)
 obtain⟨hm0,hmc0,hmc1⟩:=hmc;obtain⟨inv,outv,memv,rb,hMA⟩:=id hM;have c9:w.cell? ⟨mc,10,none⟩=some (.int .i64 s.deep):=hMA.row.cell (j:=10) rfl;have c11:w.cell? ⟨mc,12,none⟩=some (.int .i64 s.calls):=hMA.row.cell (j:=12) rfl;have f9:=hMA.row.free 10;have f11:=hMA.row.free 12;have q64:(s.calls==64)=false:=by simp;omega
 obtain⟨AF,nf,capf,hPf⟩:∃AF nf capf,P.2.1= .slice AF nf capf:=(by obtain⟨A',c',h,_⟩:=hP.2.1;exact⟨_,_,_,h⟩)
 have c1:w.cell? ⟨mc,1,none⟩=some (.slice AF nf capf):=hPf▸hMA.row.cell (j:=1) rfl;have hPs:SliceAt w base 4 (CodeE w base) p.funcs P.2.1:=hP.2.1;rw[hPf]at hPs;have hfn:f<nf:=(by have:=hPs.len.1;rcases Nat.lt_or_ge f p.funcs.length with h|h;omega;rw[List.getElem?_eq_none h]at hg;cases hg)
 obtain⟨gb,goff,g',rfl,hgb,hg',hGE⟩:=hPs.get hfn;rw[hg]at hg';injection hg' with hg';subst hg';obtain⟨g0,g1,⟨lv0,g2,hlo⟩,⟨bv,g3,hbl⟩,_,_⟩:=hGE;simp only[Nat.add_zero]at g0 g1 g2 g3;obtain⟨LA,lcap,hlv⟩:∃LA lcap,lv0= .slice LA g.locs.length lcap:=(by obtain⟨A',c',h,_⟩:=hlo;exact⟨_,_,h⟩)
 subst hlv;obtain⟨BA,bcap,hbv⟩:∃BA bcap,bv= .slice BA g.ins.length bcap:=(by obtain⟨A',c',h,_⟩:=hbl;exact⟨_,_,h⟩)
 subst hbv;have hlol:=hlo.len.2;have hbll:=hbl.len.2;have hnf:=hPs.len.2;have hfn0:(0:Int)≤(f:Int):=by omega
 have hfn1:(f:Int)<(nf:Int):=by omega
 have hgbl:gb<w.heap.size:=by omega
 have HM:=Lib.hid hM;have HP:=Lib.hid hP;have HI:=Lib.hid hI;have HLO:=Lib.hid hlo;have HBS:=Lib.hid hbl;have HM0:=Lib.hid hm0;have HOW:=Lib.hid (show∀k,own k→base≤k∧k<w.heap.size from hMA.rest.own);have HMA:=Lib.hid hMA;obtain⟨Z,hZ,hmk⟩:=make_vals nt (by omega);rw[hnt]at g1;have HNT:=Lib.hid hnt;clear hnt;have hd1:0≤s.deep:=hdeep;have HPF:=Lib.hid hPf;clear hM hP hI hlo hbl hm0 hMA hPs hg hPf;go_enter Tryz.func24,Tryz.ntmps24;go_upto_region 4 with fail;go_cut [] (fun wx=>RMachAt wx base mc own P fuel {s with calls:=s.calls+1,deep:=max s.deep (s.calls+1)} inv outv memv rb∧Row wx w.heap.size #[.int .i64 0,.int .i64 0] 70∧Wr (fun k=>k=mc) w wx)
 case first=>
  refine still_tail 14 (by kernel_rfl) (by kernel_rfl) ?_;simp only[List.take_succ_cons,List.take_zero,List.drop_succ_cons,List.drop_zero]
  repeat still_step
  try refine wpStill_nil ?_
  go_wp2_with fail
  all_goals go_meet
  all_goals
   refine⟨RMachAt.below (w:=(w.setCell ⟨mc,12,none⟩ _).setCell ⟨mc,10,none⟩ _) (RMachAt.num (RMachAt.num (s':={s with calls:=s.calls+1}) HMA.out 12 _ rfl rfl rfl rfl) 10 _ ?_ rfl rfl rfl) ((below1 _ _).drew),(Row.new' _ _ (by simp)).drew,((Wr.cell1 w mc 12 _).trans (Wr.cell1 _ mc 10 _) (fun _ h=>Or.inl h)).trans (Wr.of_below (F:=fun _=>False) ((below1 _ _).drew)) (fun _ h=>h.elim)⟩
   first|(simp[rmcells];done)|(simp[rmcells];omega)
 case rest=>
  obtain⟨hMB,hR0,hW0⟩:=hcut;have hBw:Below base w wc:=hW0.below (by omega) (fun k hk=>by omega);have HMB:=Lib.hid hMB;have HR0:=Lib.hid hR0;have HW0:=Lib.hid hW0;have hzc:=hW0.size;have hrl:=hR0.lt;have d1:wc.cell? ⟨mc,1,none⟩=some (.slice (some ⟨gb,goff,none⟩) nf capf):=HPF.out▸hMB.row.cell (j:=1) rfl;have g0':=cell_below g0 hBw hgb;have g1':=cell_below g1 hBw hgb;have g2':=cell_below g2 hBw hgb;have g3':=cell_below g3 hBw hgb;have HBW:=Lib.hid hBw;clear hMB hR0 hW0 hBw g0 g1 g2 g3 c1 c9 c11 f9 f11;have hgbl':gb<wc.heap.size:=by omega
  obtain⟨wb,rfl⟩:∃wb:World,wb=wc:=⟨_,rfl⟩
  go_upto_region 6 with fail;go_cut [9] (fun v9 wx=>∃fb tb:Nat,v9= .pointer (some ⟨fb,0,none⟩)∧Row wx fb #[.slice (some ⟨tb,0,none⟩) nt nt,.slice none 0 0] 107∧VRow wx tb (List.replicate nt ⟨0,0⟩)∧Row wx wb.heap.size #[.int .i64 g.params,.int .i64 nt,.slice LA g.locs.length lcap,.slice BA g.ins.length bcap] 39∧Below wb.heap.size wb wx∧wb.heap.size<fb∧wb.heap.size<tb)
  case first=>
   go_wp2_with fail
   all_goals go_meet
   all_goals exact⟨wb.heap.size+1+1,wb.heap.size+1,rfl,(Row.new' _ _ (by simp)),⟨Z,((Row.new' _ _ (by simp)).alloc _),hZ⟩,(((Row.new _ _ _).alloc _).alloc _),(below3 _ _ _ _),by omega,by omega⟩
  case rest=>
   obtain⟨fb,tb,rfl,hFR,hTR,hGR,hBL,hfb,htb⟩:=hcut;have HFR:=Lib.hid hFR;have HTR:=Lib.hid hTR;have HGR:=Lib.hid hGR;have HBL:=Lib.hid hBL;have hz2:=hBL.size;have hBw2:Below base w wc:=HBW.out.trans (hBL.mono (by omega));have HBW2:=Lib.hid hBw2;have gr2:wc.cell? ⟨wb.heap.size,2,none⟩=some (.slice LA g.locs.length lcap):=hGR.cell (j:=2) rfl;have gr3:wc.cell? ⟨wb.heap.size,3,none⟩=some (.slice BA g.ins.length bcap):=hGR.cell (j:=3) rfl;have hLO2:=HLO.out.below hBw2 (Nat.le_refl _) (fun _ _ h=>h.below hBw2 (Nat.le_refl _));have HLO2:=Lib.hid hLO2
   have HST:=Lib.hid (fun W(hb:Below wc.heap.size wc W)=>hy▸rstep_any base mc own P fuel (countsF g.locs) {s with calls:=s.calls+1,deep:=max s.deep (s.calls+1)} W ⟨_,_,_,_,(HMB.out.below HBL.out).below hb⟩ HI.out.lo HI.out.hi (by omega) (by have:=countsF_bd hobs;omega) (by have:=countsF_bd hobs;omega));have HOBS:=Lib.hid hobs;have hcb:=countsF_bd hobs;obtain⟨hcb1,hcb2⟩:=hcb;have HY:=Lib.hid hy;clear hFR hTR hGR hBL hBw2 hLO2 g0' g1' g2' g3' d1 hobs hy;go_wp2_with fail
   go_loop [10,11] (fun t i=>∃k:Nat,k≤g.locs.length∧i= .int .i64 k∧t= .int .i64 (countsF (g.locs.take k))) (fun _ i=>g.locs.length-(intOf i).toNat)
   case atStart=>exact⟨0,by omega,rfl,rfl⟩
   case round=>
    obtain⟨k,hk,rfl,rfl⟩:=hrel;have hcT:(countsF (g.locs.take k):Int)=countsF (g.locs.take k):=rfl;have hct:=countsF_bd (l:=g.locs.take k) (fun o ho=>HOBS.out o (List.mem_of_mem_take ho));rw[List.length_take,Nat.min_eq_left hk]at hct;obtain⟨hct1,hct2⟩:=hct;by_cases hlt:k<g.locs.length
    ·obtain⟨lb,loff,o,rfl,hlb,hok,_,o1,_⟩:=HLO2.out.get hlt;have hoo:=HOBS.out o (List.mem_of_getElem? hok);have hoc0:=hoo.2.1;have hoc1:=hoo.2.2.1;have HOK:=Lib.hid hok;have hkl:(k:Int)<(g.locs.length:Int):=by omega
     have hlen:(k:Int)≤400:=by omega
     clear hok hoo hcT;go_wp2_with fail
     go_round
     case rel=>exact⟨k+1,by omega,by go_num,by rw[List.take_add_one,HOK.out];simp only[Option.toList_some];rw[countsF_append];simp[countsF]⟩
     case measure=>simp[intOf];omega
    ·obtain rfl:k=g.locs.length:=by omega
     rw[List.take_length]at hct1 hct2 ⊢;have HRX:=Lib.hid (show Row wc w.heap.size #[.int .i64 0,.int .i64 0] 70 from HR0.out.below HBL.out hrl);go_wp2_with fail;refine(HST.out _ (Below.refl _ _)).mono ?_;rintro e w1 ⟨rfl,hM1,hw1⟩;have hr0:=HRX.out.wr hw1 (show¬w.heap.size=mc by omega);have r0:w1.cell? ⟨w.heap.size,0,none⟩=some (.int .i64 0):=hr0.cell (j:=0) rfl;have r1:w1.cell? ⟨w.heap.size,1,none⟩=some (.int .i64 0):=hr0.cell (j:=1) rfl;have r2:=hr0.free 0;have r3:=hr0.free 1;have HM1:=Lib.hid hM1;have HW1:=Lib.hid hw1;clear hr0 hM1 hw1;go_wp2_with fail;refine bodyPost_ret (v:=ansV none) ?_ rfl ⟨rfl,own,fun _ h=>h,fun _ h=>Or.inl h,HM1.out.wr (wr_two _ _ _ _) (fun k hk=>⟨by omega,fun ho=>by have:=(HOW.out _ ho).2;omega⟩),?_⟩
     ·simp[results,Tryz.results24,go_sem,ansV, *]
     ·exact((((HW0.out.mono (fun k hk=>Or.inl (hk▸HM0.out))).trans (Wr.of_below (F:=fun _=>False) HBL.out) (fun i hi=>hi.elim))).trans HW1.out (fun i hi=>Or.inl (hi▸HM0.out))).trans (wr_two _ _ _ _) (fun i hi=>Or.inr (by omega))
end Go.Proofs.YtlenilbkifofjaaGreatDoor
