/- gantletref14's Run, of a program that may be. Conditions: as stated. -/
import Derived.Test.YtlenilbkifofjaaGreatDoorQ09Zz
import Derived.Test.YtlenilbkifofjaaGreatDoorQ13Zz
import Derived.Test.YtlenilbkifofjaaGreatDoorQ12Zz
import Derived.Test.YtlenilbkifofjaaGreatDoorQ10Zz
import Derived.Test.YtlenilbkifofjaaGreatDoorQ01Zz
import Derived.BigRegion
set_option linter.unusedVariables false
set_option linter.unusedSimpArgs false
set_option maxHeartbeats 8000000
set_option maxRecDepth 100000
namespace Go.Proofs.YtlenilbkifofjaaGreatDoor
open Go.RowKit
theorem RMachAt.setP{w:World}{base mc:Nat}{own:Nat→Prop}{P:Value×Value×Value×Value}{fuel:Int}{s:St}{inv outv memv:Value}{rb:Nat→Nat}(h:RMachAt w base mc own P fuel s inv outv memv rb)(v:Value):RMachAt (w.setCell ⟨mc,3,none⟩ v) base mc own (P.1,P.2.1,P.2.2.1,v) fuel s inv outv memv rb:=by
 obtain⟨hr,hm,hs⟩:=h;have hb:=(hs.own mc hm)
 have hw:Wr (fun k=>k=mc) w (w.setCell ⟨mc,3,none⟩ v):=Wr.setCell w ⟨mc,3,none⟩ v rfl;refine⟨hr.set 3 v,hm,(hs.wrR hw (fun k hk=>?_) (by omega))⟩;subst hk;exact⟨hb.1,fun _=>⟨_,hr⟩⟩
def RLabRow(w:World)(N k:Nat)(xs:List Value)(v:VirtS):Prop:=∀(f:Nat)(c:CodeS),f<k→v.funcs[f]? =some c→∃lb,xs[f]? =some (.slice (some ⟨lb,0,none⟩) 8000 8000)∧IntsAt w lb 8000 (labK c.ins c.ins.length)∧N≤lb
theorem IntsAt.lt{w:World}{b N:Nat}{f:Nat→Int}(h:IntsAt w b N f):b<w.heap.size:=by obtain⟨_,h,_⟩:=h;exact h.lt
theorem RLabRow.wr{F:Nat→Prop}{w w':World}{N k:Nat}{xs:List Value}{v:VirtS}(h:RLabRow w N k xs v)(hw:Wr F w w')(hF:∀i,F i→∃cs t,Row w i cs t∧t≠3):RLabRow w' N k xs v:=fun f c hf hc=>by
 obtain⟨mb,h1,h2,h3⟩:=h f c hf hc;exact⟨mb,h1,h2.wr hw (fun hx=>by obtain⟨cs,t,hr,ht⟩:=hF _ hx;obtain⟨cs',hr',_⟩:=h2;exact hr.ne hr' ht rfl),h3⟩
theorem RLabRow.next{w:World}{N k:Nat}{xs:List Value}{v:VirtS}{c:CodeS}{lb:Nat}(h:RLabRow w N k xs v)(hx:xs.length=k)(hc:v.funcs[k]? =some c)(hm:IntsAt w lb 8000 (labK c.ins c.ins.length))(hN:N≤lb):RLabRow w N (k+1) (xs++[.slice (some ⟨lb,0,none⟩) 8000 8000]) v:=fun f g hf hg=>by
 by_cases he:f=k
 ·subst he;obtain rfl:c=g:=Option.some.inj (hc.symm.trans hg);exact⟨lb,by rw[List.getElem?_append_right (by omega),hx,Nat.sub_self];rfl,hm,hN⟩
 ·obtain⟨lb',h1,h2,h3⟩:=h f g (by omega) hg;exact⟨lb',by rw[List.getElem?_append_left (by omega)];exact h1,h2,h3⟩
theorem RLabRow.labs{own:Nat→Prop}{w:World}{N:Nat}{A:Option Addr}{c:Nat}{t:TypeId}{xs:List Value}{v:VirtS}(h:RLabRow w N v.funcs.length xs v)(ho:w.ownsRow N t 1 (.slice A v.funcs.length c) v.funcs.length xs)(hpos:0<v.funcs.length)(hown:∀k,own k→k<N):RLabs w own w.heap.size (.slice A v.funcs.length c) v:=by
 have hx0:∃x,xs[0]? =some x:=⟨_,List.getElem?_eq_getElem (by rw[ho.1];omega)⟩
 obtain⟨x,hx⟩:=hx0;obtain⟨lb,rfl,h1,h2,_⟩:=own_cell1 ho hx;refine⟨lb,c,rfl,fun h=>by have:=hown _ h;omega,h2,fun f g hg=>?_⟩;obtain⟨mb,g1,g2,g3⟩:=h f g (List.getElem?_eq_some_iff.1 hg).1 hg;obtain⟨lb',he,_,_,hcell⟩:=own_cell1 ho g1;injection he with he;injection he with he;subst he;rw[Nat.zero_add]at hcell;exact⟨mb,8000,hcell,g2,fun h=>by have:=hown _ h;omega,g2.lt⟩
theorem s00_rmach{w:World}{B:Nat}{P:Value×Value×Value×Value}{fuel:Int}{inp:List Int}{inv:Value}(hB:B≤w.heap.size)(hin:InW w B inv inp)(o1 o2:Obj):
  RMach (((w.alloc o1).alloc o2).alloc (.cells (rmcells P fuel (s00 inp) inv (.slice none 0 0) (.slice none 0 0)) 64)) w.heap.size (w.heap.size+1+1) (fun k=>k=w.heap.size+1+1) P fuel (s00 inp):=by
 have hb:=below3 w o1 o2 (.cells (rmcells P fuel (s00 inp) inv (.slice none 0 0) (.slice none 0 0)) 64);refine⟨inv,.slice none 0 0,.slice none 0 0,fun _=>0,Row.new' _ _ (by simp),rfl,⟨?_,World.ownsRow_nil _ _ _ _,fun g hg=>(by cases hg),⟨⟨[],World.ownsRow_nil _ _ _ _,fun k o h=>(by simp[s00]at h)⟩,fun k o _ h=>(by simp[s00]at h),fun i j _ h=>(by simp[s00]at h),⟨by simp[s00],fun o h=>(by simp[s00]at h),fun k o _ h=>(by simp[s00]at h),fun o h=>(by simp[s00]at h)⟩⟩,fun g hg=>(by cases hg),fun k hk=>?_⟩⟩
 ·obtain⟨A,cap,h0,h1,h2,h3⟩:=hin;refine⟨A,cap,h0,h1,h2,fun hp=>?_⟩;obtain⟨b,off,hA,hlt,hc⟩:=h3 hp;exact⟨b,off,hA,by omega,fun j x hj=>⟨(hb.cell (p:=⟨b,off+j,none⟩) (show b<w.heap.size by omega)).trans (hc j x hj).1,(hc j x hj).2⟩⟩
 ·subst hk;refine⟨by omega,by simp⟩
theorem rrun_ok(B:Nat)(fuel:Int)(p:VirtS)(inp:List Int)(GA FA IA:Option Addr)(gcap fcap icap:Nat)(f:Nat)(g:CodeS)(w:World)
  (hB:B≤w.heap.size)(hP:VirtAt w B (.slice GA p.globs.length gcap,.slice FA p.funcs.length fcap,.int .i64 (f:Nat)) p)(hin:InW w B (.slice IA inp.length icap) inp)(hvm:vmayB p=true)(hvin:VirtIn p)(hmain:p.main=(f:Nat))(hfun:p.funcs[f]? =some g)(hg0:g.params=0)(hf0:0≤fuel)(hf:fuel≤100000000):
  Calls Tryz.prog 9 #[.agg #[.slice GA p.globs.length gcap,.slice FA p.funcs.length fcap,.int .i64 (f:Nat)],.slice IA inp.length icap,.int .i64 fuel] w fun e w'=>RunSays (runF (virtG p) inp fuel) w.heap.size w e w':=by
 have hpk:=vmay_ok hvin hvm;have hobs:∀o,o∈p.globs→ObOk o:=fun o ho=>(hpk.globs o ho).1;have hgl:p.globs.length≤16:=hpk.gfew;have hst:=s00_inv hf0 (InW.in64 hin) hpk.globs hpk.gfew;have hst:GInv fuel {s00 inp with mem:=makesF [] p.globs}∧(memBase (makesF [] p.globs)).length=p.globs.length+1:=hst;have hnf:1≤p.funcs.length∧p.funcs.length≤8:=by
  unfold vmayB at hvm;by_cases hh:vmayP p
  ·have h1:=hh.2.1;have h2:=hh.2.2.1;omega
  ·rw[if_neg hh]at hvm;cases hvm
 have hcin:∀c,c∈p.funcs→c.ins.length≤8000:=fun c hc=>by
  obtain⟨⟨_,_,_,_,_,_,h,_⟩,_⟩:=codeB_ok (vmay_codes hvm hc);omega
 have HP:=Lib.hid hP;have HIN:=Lib.hid hin;have HOBS:=Lib.hid hobs;have HFUN:=Lib.hid hfun;have HST:=Lib.hid hst;have HG0:=Lib.hid hg0;have HCIN:=Lib.hid hcin;have HVM:=Lib.hid hvm;have HVIN:=Lib.hid hvin;obtain⟨hnf0,hnf1⟩:=hnf;obtain⟨r,hr⟩:∃r,r=callF (virtG p) fuel (63+1) f [] {s00 inp with mem:=makesF [] p.globs}:=⟨_,rfl⟩
 have hrun:runF (virtG p) inp fuel=endF r:=(runF_main (p:=virtG p) hmain).trans (congrArg endF hr.symm);simp only[hrun];have HR:=Lib.hid hr;clear hP hin hobs hfun hst hg0 hmain hrun hr hpk hcin hvm hvin;go_enter Tryz.func9,Tryz.ntmps9;refine wp_letter (fun Q hQ=>?_);have HQ:=Lib.hid hQ;clear hQ;go_wp2_with fail
 go_loopw [8] (fun i wr=>∃(k:Nat)(atv:Value)(xs:List Value),k≤p.funcs.length∧i= .int .i64 k∧RMach wr w.heap.size (w.heap.size+1+1) (fun b=>b=w.heap.size+1+1) (.slice GA p.globs.length gcap,.slice FA p.funcs.length fcap,.int .i64 (f:Nat),atv) fuel (s00 inp)∧wr.ownsRow (w.heap.size+3) 41 1 atv k xs∧RLabRow wr (w.heap.size+3) k xs p∧Row wr w.heap.size #[.slice GA p.globs.length gcap,.slice FA p.funcs.length fcap,.int .i64 (f:Nat)] 30∧Row wr (w.heap.size+1) #[.int .i64 0,.int .i64 0,.slice none 0 0,.int .i64 0,.int .i64 0] 45∧Below w.heap.size w wr) (fun i _=>p.funcs.length-(intOf i).toNat)
 case atStart=>exact⟨0,.slice none 0 0,[],by omega,rfl,by exact s00_rmach (P:=(.slice GA p.globs.length gcap,.slice FA p.funcs.length fcap,.int .i64 (f:Nat),.slice none 0 0)) (fuel:=fuel) hB HIN.out _ _,World.ownsRow_nil _ _ _ _,fun f c hf=>by omega,((Row.new _ _ _).alloc _).alloc _,(Row.new' _ _ (by simp)).alloc _,below3 _ _ _ _⟩
 case round=>
  obtain⟨k,atv,xs,hk,rfl,hM,hown,hlr,hR0,hR1,hBW⟩:=hrel;obtain⟨ln,lcap,hatv⟩:=slice_of_own hown;subst hatv;have c1:wr.cell? ⟨w.heap.size,1,none⟩=some (.slice FA p.funcs.length fcap):=hR0.cell (j:=1) rfl;have hz:=hR1.lt;by_cases hlt:k<p.funcs.length
  ·obtain⟨gb,goff,c,rfl,hgb,hok,g0,g1,⟨LV,g2,hlo⟩,⟨BV,g3,hbl⟩,_,_⟩:=((HP.out.below (hBW.mono hB)).2.1).get hlt;simp only[Nat.add_zero]at g0 g1 g2 g3;obtain⟨LA,lc,hlv⟩:∃LA lc,LV= .slice LA c.locs.length lc:=(by obtain⟨A',c',h,_⟩:=hlo;exact⟨_,_,h⟩)
   subst hlv;obtain⟨BA,bc,hbv⟩:∃BA bc,BV= .slice BA c.ins.length bc:=(by obtain⟨A',c',h,_⟩:=hbl;exact⟨_,_,h⟩)
   subst hbv;have hcl:=HCIN.out c (List.mem_of_getElem? hok);have hlab:∀W,Below wr.heap.size wr W→Calls Tryz.prog 22 #[.agg #[.int .i64 c.params,.int .i64 c.regs,.slice LA c.locs.length lc,.slice BA c.ins.length bc]] W fun e w'=>RLabSays c.ins W e w':=fun W hW=>rlabels_any c LA lc BA bc B W (by have:=hW.size;have:=hBW.size;omega) (hbl.below (hW.mono (by have:=hBW.size;omega)) (Nat.le_refl _) (fun _ _ h=>h.below (hW.mono (by have:=hBW.size;omega)) (Nat.le_refl _))) hcl;have HM:=Lib.hid hM;have HR0:=Lib.hid hR0;have HR1:=Lib.hid hR1;have HOWN:=Lib.hid hown;have HLR:=Lib.hid hlr;have HBW:=Lib.hid hBW;have HOK:=Lib.hid hok;have HLAB:=Lib.hid hlab;have HG0':=Lib.hid g0;have HG1':=Lib.hid g1;have HG2':=Lib.hid g2;have HG3':=Lib.hid g3;obtain⟨inv,outv,memv,rb,hA⟩:=hM;have HA:=Lib.hid hA
   have hgbl:gb<wr.heap.size:=by have:=hBW.size;omega
   clear hA hR0 hR1 hown hlr hBW hok hlab g0 g1 g2 g3 hlo hbl;go_wp2_with fail;refine rrl_region (w.heap.size+1+1) w.heap.size (w.heap.size+3) gb goff p.funcs.length fcap _ _ _ c LA lc BA bc ln k lcap xs wr HA.out.row rfl HR0.out hgbl hlt HG0'.out HG1'.out HG2'.out HG3'.out HOWN.out (by have:=HA.out.row.lt;omega) (by omega) HLAB.out _ _ _ _ _ _ _ _ _ _ _ _ _ _ _ _ _ _ _ _ _ _ _ _ _ _ _ _ _ _ _ _ _ _ _ _ _ _ _ _ _ _ _ _ _ _ _ _ _ _ _ _ _ _ _ _ _ _ _ _ _ _ _ _ _ _ _ _ _ _ _ _ _ _ _ _ _ _ _ _ _ _ _ _ _ _ _ _ _ (fun W W' gg cap lb Y hbw hm hmb r1 r2 r3=>?_);have HB0:=Lib.hid hbw;have HI:=Lib.hid hm;have HR1':=Lib.hid r1;have HR2':=Lib.hid r2;have HR3':=Lib.hid r3;clear hbw hm r1 r2 r3;go_wp2_with fail;go_roundw
   case rel=>
    have hmbl:=HA.out.row.lt;have hob:∀i,(Value.slice ln k lcap).ownBlock=some i→w.heap.size+3≤i∧∃cs,Row wr i cs 41:=fun i hi=>ownsRow_row HOWN.out hi;have hww:Wr (fun i=>(Value.slice ln k lcap).ownBlock=some i) wr W':=(Wr.of_below (F:=fun i=>(Value.slice ln k lcap).ownBlock=some i) HB0.out).trans (Wr.grown (F:=fun i=>(Value.slice ln k lcap).ownBlock=some i) HR2'.out (fun i hi=>hi)) (fun i hi=>Or.inl hi);have hM':RMach W' w.heap.size (w.heap.size+1+1) (fun b=>b=w.heap.size+1+1) (.slice GA p.globs.length gcap,.slice (some ⟨gb,goff,none⟩) p.funcs.length fcap,.int .i64 (f:Nat),.slice ln k lcap) fuel (s00 inp):=HM.out.wr hww (fun i hi=>by have:=(hob i hi).1;exact⟨by omega,by omega⟩);obtain⟨inv',outv',memv',rb',hA'⟩:=hM';have hset:=Wr.cell1 W' (w.heap.size+1+1) 3 (.slice (some ⟨gg,0,none⟩) (k+1) cap)
    have hwf:∀i cs t,Row wr i cs t→t≠41→t≠64→Row (W'.setCell ⟨w.heap.size+1+1,3,none⟩ (.slice (some ⟨gg,0,none⟩) (k+1) cap)) i cs t:=fun i cs t hr h1 h2=>(hr.wr hww (fun h=>by obtain⟨_,cs',hr'⟩:=hob i h;exact hr.ne hr' h1 rfl)).wr hset (fun h=>by subst h;exact(hr.wr hww (fun h=>by obtain⟨_,cs',hr'⟩:=hob _ h;exact hr.ne hr' h1 rfl)).ne hA'.row h2 rfl);have hl1:RLabRow W' (w.heap.size+3) k xs p:=HLR.out.wr hww (fun i hi=>by obtain⟨_,cs',hr'⟩:=hob i hi;exact⟨cs',_,hr',by decide⟩);have hi1:IntsAt W' lb 8000 (labK c.ins c.ins.length):=HI.out.wr (Wr.grown (F:=fun i=>(Value.slice ln k lcap).ownBlock=some i) HR2'.out (fun i hi=>hi)) (fun h=>by have:=HOWN.out.lt _ h;omega)
    have hl2:=(hl1.next (by have:=HOWN.out.1;omega) HOK.out hi1 (by omega)).wr hset (fun i hi=>by obtain rfl:i=w.heap.size+1+1:=hi;exact⟨_,_,hA'.row,by decide⟩);refine⟨k+1,.slice (some ⟨gg,0,none⟩) (k+1) cap,_,by omega,by go_num,⟨inv',outv',memv',rb',hA'.setP _⟩,ownsRow_wr HR1'.out hset (fun i hi h=>?_),hl2,hwf _ _ _ HR0.out (by decide) (by decide),hwf _ _ _ HR1.out (by decide) (by decide),?_⟩
    ·obtain⟨_,cs',hr'⟩:=ownsRow_row HR1'.out hi;have:i=w.heap.size+1+1:=h;subst this;exact hr'.ne hA'.row (by decide) rfl
    ·have hwx:Wr (fun i=>(Value.slice ln k lcap).ownBlock=some i∨i=w.heap.size+1+1) wr (W'.setCell ⟨w.heap.size+1+1,3,none⟩ (.slice (some ⟨gg,0,none⟩) (k+1) cap)):=(hww.mono (fun i hi=>Or.inl (Or.inl hi))).trans hset (fun i hi=>Or.inl (Or.inr hi));exact HBW.out.trans (hwx.below (by omega) (fun i hi=>by rcases hi with hi|hi;have:=(hob i hi).1;omega;omega))
   case measure=>simp[intOf];omega
  ·obtain rfl:k=p.funcs.length:=by omega
   have hlabs:RLabs wr (fun b=>b=w.heap.size+1+1) wr.heap.size (.slice ln p.funcs.length lcap) p:=hlr.labs hown (by omega) (fun k hk=>by omega);have HLA:=Lib.hid hlabs;have HMA:=Lib.hid hM;have HRA:=Lib.hid (And.intro hR0 hR1);have HBA:=Lib.hid hBW;obtain⟨wa,rfl⟩:∃wa:World,wa=wr:=⟨_,rfl⟩
   clear hM hown hlr hR0 hR1 hBW hlabs;go_wp2_with fail;go_loopw [9] (fun i wr=>∃(k:Nat)(own1:Nat→Prop),k≤p.globs.length∧i= .int .i64 k∧RMach wr w.heap.size (w.heap.size+1+1) own1 (.slice GA p.globs.length gcap,.slice FA p.funcs.length fcap,.int .i64 (f:Nat),.slice ln p.funcs.length lcap) fuel {s00 inp with mem:=makesF [] (p.globs.take k)}∧(∀i,own1 i→w.heap.size+1+1≤i)∧Row wr w.heap.size #[.slice GA p.globs.length gcap,.slice FA p.funcs.length fcap,.int .i64 (f:Nat)] 30∧Row wr (w.heap.size+1) #[.int .i64 0,.int .i64 0,.slice none 0 0,.int .i64 0,.int .i64 0] 45∧Below w.heap.size w wr∧RLabs wr own1 wr.heap.size (.slice ln p.funcs.length lcap) p) (fun i _=>p.globs.length-(intOf i).toNat)
   case atStart=>exact⟨0,_,by omega,rfl,HMA.out,fun i hi=>Nat.le_of_eq hi.symm,HRA.out.1,HRA.out.2,HBA.out,HLA.out⟩
   case round=>
    clear c1 hz;obtain⟨k,own1,hk,rfl,hM,hown,hR0,hR1,hBW,hLB⟩:=hrel;have c0:wr.cell? ⟨w.heap.size,0,none⟩=some (.slice GA p.globs.length gcap):=hR0.cell (j:=0) rfl;have c2:wr.cell? ⟨w.heap.size,2,none⟩=some (.int .i64 (f:Nat)):=hR0.cell (j:=2) rfl;have hz:=hR1.lt;have HM:=Lib.hid hM;have HR0:=Lib.hid hR0;have HR1:=Lib.hid hR1;have HOWN:=Lib.hid hown;have HBW:=Lib.hid hBW;have HLB:=Lib.hid hLB;by_cases hlt:k<p.globs.length
    ·obtain⟨lb,loff,o,rfl,hlb,hok,o0,o1,⟨ov,o2,hov⟩,_,_⟩:=((HP.out.below (hBW.mono hB)).1).get hlt;simp only[Nat.add_zero]at o0 o1 o2;obtain⟨OA,ocap,hOv⟩:∃OA ocap,ov= .slice OA o.init.length ocap:=(by obtain⟨A',c',h,_⟩:=hov;exact⟨_,_,h⟩)
     subst hOv;have hoo:=HOBS.out o (List.mem_of_getElem? hok);have hml:(makesF [] (p.globs.take k)).length≤17:=by rw[makesF_length,List.length_take,memBase_length];(repeat' split)<;>first|omega|(simp;done)|(simp;omega)
     have hmb:(memBase (makesF [] (p.globs.take k))).length+1≤1000000000:=by rw[memBase_length];split<;>omega
     have HMK:=Lib.hid (rmake_mach w.heap.size (w.heap.size+1+1) own1 _ fuel _ o (.slice OA o.init.length ocap) wr.drew (hM.below (Below.refl _ _).drew) hoo (hov.below (Below.refl _ _).drew (by omega)) hmb);have HOK:=Lib.hid hok;have hkl:(k:Int)<(p.globs.length:Int):=by omega
     have hk0:(0:Int)≤(k:Int):=by omega
     have hlbl:lb<wr.heap.size:=by omega
     clear hM hR0 hR1 hown hBW hok hov hoo hml hmb hLB;go_wp2_with fail;refine still_tailq 8 (by kernel_rfl) (by kernel_rfl) ?_;simp only[List.take_succ_cons,List.take_zero,List.drop_succ_cons,List.drop_zero]
     repeat(go_big_quiet_step (fail))
     refine wpQuiet_nil ?_;go_wp2_with fail;refine HMK.out.mono ?_;rintro e w2 ⟨rfl,own2,hu2,hd2,hM2,hw2⟩;have HU2:=Lib.hid (And.intro hu2 hd2);have HM2:=Lib.hid hM2;have HW2:=Lib.hid hw2;clear hu2 hd2 hM2 hw2;go_wp2_with fail;go_roundw
     case rel=>
      have hw3:Wr own1 wr w2:=(Wr.of_below (F:=own1) (Below.refl _ _).drew).trans HW2.out (fun i hi=>Or.inl hi);have hn0:¬own1 w.heap.size:=fun h=>by have:=HOWN.out _ h;omega
      have hn1:¬own1 (w.heap.size+1):=fun h=>by have:=HOWN.out _ h;omega
      have hzw:w.heap.size≤wr.heap.size:=by omega
      have hme:makesF [] (p.globs.take (k+1))=makeF (makesF [] (p.globs.take k)) o:=by rw[take_succ_of HOK.out,makesF_append];rfl
      have hdn:∀i,own2 i→own1 i∨wr.heap.size≤i:=HU2.out.2;refine⟨k+1,own2,by omega,by go_num,by rw[hme];exact HM2.out,fun i hi=>?_,HR0.out.wr hw3 hn0,HR1.out.wr hw3 hn1,HBW.out.trans (hw3.below hzw (fun i hi=>by have:=HOWN.out i hi;omega)),((HLB.out.wr hw3 (fun _ h=>Or.inl h) (Nat.le_refl _)).up hdn).mono hw3.size⟩;rcases hdn i hi with h|h
      ·exact HOWN.out i h
      ·omega
     case measure=>simp[intOf];omega
    ·obtain rfl:k=p.globs.length:=by omega
     rw[List.take_length]at hM;have hcall:=rcall_all HVIN.out HVM.out hf 64 0 (by omega) f g [] {s00 inp with mem:=makesF [] p.globs} w.heap.size (w.heap.size+1+1) own1 (.slice GA p.globs.length gcap,.slice FA p.funcs.length fcap,.int .i64 (f:Nat),.slice ln p.funcs.length lcap) none 0 0 wr HFUN.out (by rw[HG0.out];rfl) hM (HP.out.below (hBW.mono hB)|>.up (by omega)) hLB HST.out.1 rfl (by have:=HST.out.2;show _<(memBase (makesF [] p.globs)).length;omega) (fun v hv=>by cases hv) rfl (fun j v h=>by simp at h);rw[show(64:Nat)=63+1 from rfl]at hcall;rw[←HR.out]at hcall;have HCA:=Lib.hid hcall;obtain⟨rv,rs⟩:=r;clear hM hR0 hR1 hown hBW hcall HR hLB;go_wp2_with fail;refine HCA.out.mono ?_;rintro e w3 ⟨rfl,own3,hu3,hd3,hM3,hw3⟩;obtain⟨inv3,outv3,memv3,rb3,hA3⟩:=hM3
     obtain⟨OA,on,oc,hov⟩:∃A n c,outv3= .slice A n c:=(by obtain⟨_,h|⟨g,c,cur,h,_⟩⟩:=hA3.rest.out;exact⟨_,_,_,h.1⟩;exact⟨_,_,_,h⟩)
     subst hov;have hn0:¬own1 w.heap.size:=fun h=>by have:=HOWN.out _ h;omega
     have hn1:¬own1 (w.heap.size+1):=fun h=>by have:=HOWN.out _ h;omega
     have hq1:=HR1.out.wr hw3 hn1;have q0:=hq1.free 0;have q1:=hq1.free 1;have q2:=hq1.free 2;have q3:=hq1.free 3;have q4:=hq1.free 4;have hq1l:=hq1.lt;have p0:w3.cell? ⟨w.heap.size+1,0,none⟩=some (.int .i64 0):=hq1.cell (j:=0) rfl;have p1:w3.cell? ⟨w.heap.size+1,1,none⟩=some (.int .i64 0):=hq1.cell (j:=1) rfl;have p2:w3.cell? ⟨w.heap.size+1,2,none⟩=some (.slice none 0 0):=hq1.cell (j:=2) rfl;have p3:w3.cell? ⟨w.heap.size+1,3,none⟩=some (.int .i64 0):=hq1.cell (j:=3) rfl;have p4:w3.cell? ⟨w.heap.size+1,4,none⟩=some (.int .i64 0):=hq1.cell (j:=4) rfl;have hmcl:=hA3.lt;have HA3:=Lib.hid hA3;have HQ1:=Lib.hid hq1;have HW3:=Lib.hid hw3;have hne1:¬w.heap.size+1=w.heap.size+1+1:=by omega
     have hne2:¬w.heap.size+1+1=w.heap.size+1:=by omega
     have HB3:=Lib.hid (show Below w.heap.size w w3 from HBW.out.trans (hw3.below (by omega) (fun i hi=>by have:=HOWN.out i hi;omega)));have HOUT:=Lib.hid (show∀g,(Value.slice OA on oc).ownBlock=some g→¬(g=w.heap.size+1∨g=w.heap.size+1+1)from fun g hg h=>by
      obtain⟨_,cs,hr⟩:=ownsRow_row hA3.rest.out hg;rcases h with h|h
      ·subst h;exact hr.ne hq1 (by decide) rfl
      ·subst h;exact hr.ne hA3.row (by decide) rfl)
     have hz3:w.heap.size+1+1≤w3.heap.size:=by omega
     have hnm:¬w.heap.size+1=w.heap.size:=by omega
     clear hne1 hne2 hnm;have hne1:¬w.heap.size+1=w.heap.size+1+1:=by omega
     have hne2:¬w.heap.size+1+1=w.heap.size+1:=by omega
     have hge1:w.heap.size≤w.heap.size+1:=by omega
     have hge2:w.heap.size≤w.heap.size+1+1:=by omega
     generalize hmb:w.heap.size+1+1=mb at*;generalize hrb:w.heap.size+1=rb at*;have HMB:=Lib.hid hmb;have HRB:=Lib.hid hrb;clear hmb hrb;cases rv with
     |none=>
      simp only[ansV];have k5:w3.cell? ⟨mb,6,none⟩=some (.int .i64 rs.kind):=hA3.row.cell (j:=6) rfl;have k3:w3.cell? ⟨mb,7,none⟩=some (.int .i64 rs.code):=hA3.row.cell (j:=7) rfl;have k7:w3.cell? ⟨mb,8,none⟩=some (.slice OA on oc):=hA3.row.cell (j:=8) rfl;have k8:w3.cell? ⟨mb,9,none⟩=some (.int .i64 rs.steps):=hA3.row.cell (j:=9) rfl;have k9:w3.cell? ⟨mb,10,none⟩=some (.int .i64 rs.deep):=hA3.row.cell (j:=10) rfl;by_cases hk3:rs.kind=3
      ·rw[hk3]at k5;have HK3:=Lib.hid hk3;clear hk3 hA3 hq1 hw3 hu3 hd3;go_wp2_with fail;refine HQ.out _ _ _ ?_;refine bodyPost_ret (v:= .agg #[.int .i64 3,.int .i64 0,.slice none 0 0,.int .i64 0,.int .i64 0]) ?_ rfl ?_
       ·simp[results,Tryz.results9,go_sem,p0,p1,p2,p3,p4,hq1l]
       ·have he:endF (none,rs)=⟨3,0,[],0,0⟩:=by simp[endF,HK3.out]
        rw[he];exact⟨_,rfl,World.ownsRow_nil _ _ _ _,HB3.out.trans ((wr_five w3 (rb) _ _ _ _ _ _).below (by omega) (fun i hi=>by omega))⟩
      ·have hk3':(rs.kind==3)=false:=by simpa using hk3
       have HK3:=Lib.hid hk3;clear hk3 hA3 hq1 hw3 hu3 hd3;go_wp2_with fail;refine HQ.out _ _ _ ?_;refine bodyPost_ret (v:= .agg #[.int .i64 rs.kind,.int .i64 rs.code,.slice OA on oc,.int .i64 rs.steps,.int .i64 rs.deep]) ?_ rfl ?_
       ·simp[results,Tryz.results9,go_sem,p0,p1,p2,p3,p4,hq1l]
       ·have he:endF (none,rs)=⟨rs.kind,rs.code,rs.out,rs.steps,rs.deep⟩:=by simp[endF,HK3.out]
        rw[he];exact⟨_,rfl,ownsRow_wr HA3.out.rest.out (wr_five w3 (rb) _ _ _ _ _ _) (fun g hg h=>HOUT.out g hg (Or.inl h)),HB3.out.trans ((wr_five w3 (rb) _ _ _ _ _ _).below (by omega) (fun i hi=>by omega))⟩
     |some v=>
      simp only[ansV];have k5:w3.cell? ⟨mb,6,none⟩=some (.int .i64 rs.kind):=hA3.row.cell (j:=6) rfl;have k6:w3.cell? ⟨mb,7,none⟩=some (.int .i64 rs.code):=hA3.row.cell (j:=7) rfl;have k7:w3.cell? ⟨mb,8,none⟩=some (.slice OA on oc):=hA3.row.cell (j:=8) rfl;have k8:w3.cell? ⟨mb,9,none⟩=some (.int .i64 rs.steps):=hA3.row.cell (j:=9) rfl;have k9:w3.cell? ⟨mb,10,none⟩=some (.int .i64 rs.deep):=hA3.row.cell (j:=10) rfl;have f5:=hA3.row.free 6;have f6:=hA3.row.free 7;obtain⟨vo,vn⟩:=v;by_cases hv:vo=0
      ·subst hv;have HV:=Lib.hid (True.intro);clear hA3 hq1 hw3 hu3 hd3;go_wp2_with fail;go_region
       all_goals go_wp2_with fail
       all_goals
        refine HQ.out _ _ _ ?_;refine bodyPost_ret (v:= .agg #[.int .i64 1,.int .i64 vn,.slice OA on oc,.int .i64 rs.steps,.int .i64 rs.deep]) ?_ rfl ?_
        ·simp[results,Tryz.results9,go_sem,p0,p1,p2,p3,p4,hq1l,hne1,hne2]
        ·have he:endF (some ⟨0,vn⟩,rs)=⟨1,vn,rs.out,rs.steps,rs.deep⟩:=by simp[endF]
         rw[he];have hWR:∀{W:World},Wr (fun i=>i=rb∨i=mb) w3 W→Below w.heap.size w W:=fun h=>HB3.out.trans (h.below (by omega) (fun i hi=>by omega));refine⟨_,rfl,ownsRow_wr HA3.out.rest.out (F:=fun i=>i=rb∨i=mb) ?_ HOUT.out,hWR ?_⟩
         all_goals
          repeat(first|(with_reducible exact Wr.refl _ _)|(with_reducible refine Wr.drewR ?_)|(with_reducible refine Wr.allocR ?_ _)|(with_reducible refine Wr.setR ?_ _ _ _ (Or.inl ?_))|exact Or.inl rfl|exact Or.inr rfl)
      ·have hv':(0:Int)<(vo:Int):=by omega
       have hv2:0<vo:=by omega
       have HV:=Lib.hid hv;clear hv hA3 hq1 hw3 hu3 hd3;go_wp2_with fail;go_region
       all_goals go_wp2_with fail
       all_goals
        refine HQ.out _ _ _ ?_;refine bodyPost_ret (v:= .agg #[.int .i64 3,.int .i64 0,.slice none 0 0,.int .i64 0,.int .i64 0]) ?_ rfl ?_
        ·simp[results,Tryz.results9,go_sem,p0,p1,p2,p3,p4,hq1l,hne1,hne2]
        ·have he:endF (some ⟨vo,vn⟩,rs)=⟨3,0,[],0,0⟩:=by simp[endF,Nat.pos_of_ne_zero HV.out]
         rw[he];have hWR:∀{W:World},Wr (fun i=>i=rb∨i=mb) w3 W→Below w.heap.size w W:=fun h=>HB3.out.trans (h.below (by omega) (fun i hi=>by omega));refine⟨_,rfl,World.ownsRow_nil _ _ _ _,hWR ?_⟩
         repeat(first|(with_reducible exact Wr.refl _ _)|(with_reducible refine Wr.drewR ?_)|(with_reducible refine Wr.allocR ?_ _)|(with_reducible refine Wr.setR ?_ _ _ _ (Or.inl ?_))|exact Or.inl rfl|exact Or.inr rfl)
end Go.Proofs.YtlenilbkifofjaaGreatDoor
