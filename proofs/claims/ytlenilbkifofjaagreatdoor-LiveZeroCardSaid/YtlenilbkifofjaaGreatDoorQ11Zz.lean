/- gantletref14: what is put out. Conditions: as stated. gantletref14: what a call answers; a call that is too deep. Conditions: as stated. gantletref14: a call's locals, made one by one. No condition. gantletref14: the state between a call's instructions. No condition. The page's machine: a call's locals are no more, one by one. Conditions: as stated. gantletref14: a call's locals are no more, one by one. Conditions: as stated. -/
import Derived.Test.YtlenilbkifofjaaGreatDoorRDoesDZz
import Derived.Test.YtlenilbkifofjaaGreatDoorQ03Zz
import Derived.Test.YtlenilbkifofjaaGreatDoorQ10Zz
import Derived.Test.YtlenilbkifofjaaGreatDoorQ04Zz
import Derived.Test.YtlenilbkifofjaaGreatDoorQ01Zz
import Derived.Deep.RegionHeld3
set_option linter.unusedVariables false
set_option linter.unusedSimpArgs false
set_option maxHeartbeats 8000000
set_option maxRecDepth 100000
namespace Go.Proofs.YtlenilbkifofjaaGreatDoor
open Go.RowKit
theorem RMachAt.putOut{w w1:World}{base mc:Nat}{own:Nat→Prop}{P:Value×Value×Value×Value}{fuel:Int}{s:St}{inv outv memv:Value}{rb:Nat→Nat}(h:RMachAt w base mc own P fuel s inv outv memv rb)(hw:Wr (fun k=>outv.ownBlock=some k) w w1)(v:Value)(l:List Int)
  (hv:w1.ownsRow base 2 1 v l.length (l.map (Value.int .i64))):RMachAt (w1.setCell ⟨mc,8,none⟩ v) base mc (fun k=>own k∨v.ownBlock=some k) P fuel {s with out:=l} inv v memv rb:=by
 obtain⟨hr,hm,hs⟩:=h;have hb:=hs.own mc hm;have hne:∀g cs t,Row w g cs t→t≠2→¬outv.ownBlock=some g:=fun g cs t hr' ht hg=>by
  obtain⟨_,cs',hr2⟩:=ownsRow_row hs.out hg;exact hr'.ne hr2 ht rfl
 have hr1:=hr.wr hw (hne mc _ _ hr (by decide));have hws:Wr (fun k=>k=mc) w1 (w1.setCell ⟨mc,8,none⟩ v):=Wr.setCell w1 ⟨mc,8,none⟩ v rfl;have hmx:∀g cs t,Row w g cs t→t≠64→¬g=mc:=fun g cs t hr' ht hg=>by subst hg;exact hr'.ne hr ht rfl
 have hmy:∀g cs t,Row w1 g cs t→t≠64→¬g=mc:=fun g cs t hr' ht hg=>by subst hg;exact hr'.ne hr1 ht rfl
 refine⟨hr1.set 8 v,Or.inl hm,⟨hs.inp.below (fun b o hb'=>?_),ownsRow_wr hv hws (fun g hg=>?_),fun g hg=>Or.inr hg,?_,fun g hg=>Or.inl (hs.memo g hg),fun k hk=>?_⟩⟩
 ·exact(World.cell?_of_block (a:=⟨b,o,none⟩) (hws.block b (by have:=hw.size;omega) (by omega))).trans (World.cell?_of_block (a:=⟨b,o,none⟩) (hw.block b (by omega) (fun hf=>by have:=(ownsRow_row hs.out hf).1;omega)))
 ·obtain⟨_,cs,hr'⟩:=ownsRow_row hv hg;exact hmy g cs _ hr' (by decide)
 ·obtain⟨⟨xs,hx,hox⟩,hmm,hi,hk⟩:=hs.mem;refine⟨⟨xs,ownsRow_wr (ownsRow_wr hx hw (fun g hg=>?_)) hws (fun g hg=>?_),hox⟩,fun k o h1 ho=>?_,hi,hk⟩
  ·obtain⟨_,cs,hr'⟩:=ownsRow_row hx hg;exact hne g cs _ hr' (by decide)
  ·obtain⟨_,cs,hr'⟩:=ownsRow_row hx hg;exact hmx g cs _ hr' (by decide)
  ·obtain⟨ho',cs,hr',hvv⟩:=hmm k o h1 ho;exact⟨Or.inl ho',cs,(hr'.wr hw (hne _ cs _ hr' (by decide))).wr hws (hmx _ cs _ hr' (by decide)),hvv⟩
 ·have h1:=hw.size;rcases hk with hk|hk
  ·have:=hs.own k hk;simp only[World.size_setCell];omega
  ·have:=hv.lt k hk;simp only[World.size_setCell];exact this
theorem long_infoR:(Tryz.prog.info? 2).map (fun i=>(i.zero,i.size,i.bytes))=some (some (.int .i64 0),1,8):=by kernel_rfl
theorem int_oneR(a:Int):∀u:Value,u∈[Value.int .i64 a]→u.oneCell'=true:=by
 intro u hu;simp at hu;subst hu;rfl
theorem RMachAt.below{w w':World}{base mc:Nat}{own:Nat→Prop}{P:Value×Value×Value×Value}{fuel:Int}{s:St}{inv outv memv:Value}{rb:Nat→Nat}(h:RMachAt w base mc own P fuel s inv outv memv rb)(hw:Below w.heap.size w w'):RMachAt w' base mc own P fuel s inv outv memv rb:=by
 obtain⟨hr,hm,hs⟩:=h;have hb:=(hs.own mc hm)
 exact⟨hr.below hw hr.lt,hm,hs.wrR (F:=fun _=>False) (Wr.of_below hw) (fun k hk=>hk.elim) (by omega)⟩
theorem rbox{w:World}{base mc fb tb:Nat}{own:Nat→Prop}{P:Value×Value×Value×Value}{fuel:Int}{s:St}{tp:List V}{lv:Value}{lo:List Nat}(h:RMach w base mc own P fuel s)(hF:RFrame w fb tb tp lv lo)(q:Nat)(hq:base≤q∧¬own q)(hf:¬fb=q)(ht:¬tb=q)(hl:∀g,lv.ownBlock=some g→¬g=q)(a b:Value):
  RMach ((w.setCell ⟨q,0,none⟩ a).setCell ⟨q,1,none⟩ b) base mc own P fuel s∧RFrame ((w.setCell ⟨q,0,none⟩ a).setCell ⟨q,1,none⟩ b) fb tb tp lv lo∧Wr (fun k=>k=q) w ((w.setCell ⟨q,0,none⟩ a).setCell ⟨q,1,none⟩ b):=by
 have hw:=wr_pair w q 0 1 a b;exact⟨h.wr hw (fun k hk=>(by subst hk;exact hq)),hF.wr hw hf ht hl,hw⟩
def RCallSays(base mc:Nat)(own:Nat→Prop)(P:Value×Value×Value×Value)(fuel:Int)(r:Option V×St)(w:World)(e:Ending)(w':World):Prop:=
 e= .returned (ansV r.1)∧∃own':Nat→Prop,(∀k,own k→own' k)∧(∀k,own' k→own k∨w.heap.size≤k)∧RMach w' base mc own' P fuel r.2∧Wr own w w'
theorem rcall_over(base mc:Nat)(own:Nat→Prop)(P:Value×Value×Value×Value)(fuel:Int)(p:VirtS)(s:St)(f:Nat)(g:CodeS)(args:List V)(AA:Option Addr)(an acap:Nat)(w:World)
  (hM:RMach w base mc own P fuel s)(hP:VirtAt w base (P.1,P.2.1,P.2.2.1) p)(hI:GInv fuel s)(hf:fuel≤100000000)(hg:p.funcs[f]? =some g)(hC0:0≤s.calls)(hd:s.calls=64):
  Calls Tryz.prog 24 #[.pointer (some ⟨mc,0,none⟩),.int .i64 f,.slice AA an acap] w fun e w'=>RCallSays base mc own P fuel ((none,stopF 4 s)) w e w':=by
 have hmc:=(by obtain⟨_,_,_,_,h⟩:=hM;exact⟨h.mine,h.rest.own mc h.mine⟩:own mc∧base≤mc∧mc<w.heap.size)
 obtain⟨hm0,hmc0,hmc1⟩:=hmc;have c11:w.cell? ⟨mc,12,none⟩=some (.int .i64 64):=(by obtain⟨_,_,_,_,h⟩:=hM;exact hd▸h.row.cell (j:=12) rfl)
 have HS:=Lib.hid (fun W(hb:Below w.heap.size w W)=>rstop_any base mc own P fuel 4 s W (hM.below hb));have HM0:=Lib.hid hm0;have HOW:=Lib.hid (show∀k,own k→base≤k∧k<w.heap.size from by obtain⟨_,_,_,_,h⟩:=hM;exact h.rest.own);clear hM hP hI hg hd hm0;go_enter Tryz.func24,Tryz.ntmps24;go_wp2_with(go_at_call 37;refine(HS.out _ (below1 _ _)).mono ?_;rintro e w1 ⟨rfl,hM1,hw1⟩;have HM1:=Lib.hid hM1;have HW1:=Lib.hid hw1;have hz1:=hw1.size;have hr0:=(Row.new w #[.int .i64 0,.int .i64 0] 70).wr hw1 (show¬w.heap.size=mc by omega);have r0:w1.cell? ⟨w.heap.size,0,none⟩=some (.int .i64 0):=hr0.cell (j:=0) rfl;have r1:w1.cell? ⟨w.heap.size,1,none⟩=some (.int .i64 0):=hr0.cell (j:=1) rfl;have r2:=hr0.free 0;have r3:=hr0.free 1;clear hM1 hw1 hr0)
 refine bodyPost_ret (v:=ansV none) ?_ rfl ⟨rfl,own,fun _ h=>h,fun _ h=>Or.inl h,HM1.out.wr (wr_two _ _ _ _) (fun k hk=>⟨by omega,fun ho=>by have:=(HOW.out _ ho).2;omega⟩),?_⟩
 ·simp[results,Tryz.results24,go_sem,ansV, *]
 ·exact((Wr.of_below (below1 _ _)).trans HW1.out (fun i hi=>Or.inl (hi▸HM0.out))).trans (wr_two _ _ _ _) (fun i hi=>Or.inr (by omega))
structure RLocsAt (base mc:Nat) (own:Nat→Prop) (P:Value×Value×Value×Value) (fuel:Int) (s:St) (fb tb nt:Nat) (g:CodeS) (LA:Option Addr) (lcap:Nat) (BA:Option Addr) (bcap:Nat) (M:List MO) (w:World) (gr:Nat) (w1 wr:World) (k:Nat) (own1:Nat→Prop) (lvk:Value):Prop where
 mach:RMach wr base mc own1 P fuel {s with mem:=makesF M (g.locs.take k)}
 frow:Row wr fb #[.slice (some ⟨tb,0,none⟩) nt nt,lvk] 107
 trow:VRow wr tb (List.replicate nt ⟨0,0⟩)
 grow:Row wr gr #[.int .i64 g.params,.int .i64 nt,.slice LA g.locs.length lcap,.slice BA g.ins.length bcap] 39
 rrow:Row wr w.heap.size #[.int .i64 0,.int .i64 0] 70
 locs:wr.ownsRow w1.heap.size 3 1 lvk k ((numsF M k).map fun x=> .int .i64 (x:Nat))
 up:∀i,own i→own1 i
 down:∀i,own1 i→own i∨w1.heap.size≤i
 noloc:∀i,lvk.ownBlock=some i→¬own1 i
 wr:Wr (fun b=>own b∨b=fb) w1 wr
theorem rlocs_next{base mc fb tb nt lcap bcap gr k gg cap3:Nat}{own own1 own2:Nat→Prop}{P:Value×Value×Value×Value}{fuel:Int}{s:St}{g:CodeS}{LA BA:Option Addr}{M:List MO}{w w1 wr w2 w3:World}{lvk:Value}{o:ObS}
  (hL:RLocsAt base mc own P fuel s fb tb nt g LA lcap BA bcap M w gr w1 wr k own1 lvk)(ho:g.locs[k]? =some o)
  (hu2:∀i,own1 i→own2 i)(hd2:∀i,own2 i→own1 i∨wr.drew.heap.size≤i)(hM2:RMach w2 base mc own2 P fuel {s with mem:=makeF (makesF M (g.locs.take k)) o})(hw2:Wr own1 wr.drew w2)
  (hbw:base≤w1.heap.size)(hbf:base≤fb)(hfb:¬own fb∧fb<w1.heap.size)(htb:¬own tb∧tb<w1.heap.size)(hgr:¬own gr∧gr<w1.heap.size)(hrr:¬own w.heap.size∧w.heap.size<w1.heap.size)
  (hown3:w3.ownsRow w1.heap.size 3 1 (.slice (some ⟨gg,0,none⟩) (k+1) cap3) (k+1) ((numsF M k).map (fun x=>Value.int .i64 (x:Nat))++[.int .i64 ((memBase (makesF M (g.locs.take k))).length:Nat)]))
  (hgrow:(w2.alloc (.cells #[.int .i64 ((memBase (makesF M (g.locs.take k))).length:Nat)] 3)).grownBy w3 lvk.ownBlock)(hat:lvk.ownBlock=some gg∨gg=w2.heap.size+1):
  RLocsAt base mc own P fuel s fb tb nt g LA lcap BA bcap M w gr w1 (w3.setCell ⟨fb,1,none⟩ (.slice (some ⟨gg,0,none⟩) (k+1) cap3)) (k+1) own2 (.slice (some ⟨gg,0,none⟩) (k+1) cap3):=by
 obtain⟨l1,l2,l3,l4,l5,l6,l7,l8,l9,l10⟩:=hL;have hz:=l10.size;have hz2:=hw2.size;simp only[World.size_drew]at hz2 hd2;have hkl:k<g.locs.length:=by
  rcases Nat.lt_or_ge k g.locs.length with h|h
  ·exact h
  ·rw[List.getElem?_eq_none h]at ho;cases ho
 have htk:g.locs.take (k+1)=g.locs.take k++[o]:=by rw[List.take_add_one,ho];rfl
 have hn1:∀i,¬own i→i<w1.heap.size→¬own1 i:=fun i h1 h2 h=>by rcases l8 i h with h|h;exact h1 h;omega
 have hn2:∀i,¬own1 i→i<wr.heap.size→¬own2 i:=fun i h1 h2 h=>by rcases hd2 i h with h|h;exact h1 h;omega
 have hwg:Wr (fun i=>lvk.ownBlock=some i) w2 w3:=(Wr.of_below (F:=fun i=>lvk.ownBlock=some i) (below1 w2 (.cells #[.int .i64 ((memBase (makesF M (g.locs.take k))).length:Nat)] 3))).trans (Wr.grown (F:=fun i=>lvk.ownBlock=some i) hgrow (fun i hi=>hi)) (fun i hi=>Or.inl hi);have hlr:∀i,lvk.ownBlock=some i→w1.heap.size≤i∧∃cs,Row wr i cs 3:=fun i hi=>ownsRow_row l6 hi;have hws:=Wr.cell1 w3 fb 1 (.slice (some ⟨gg,0,none⟩) (k+1) cap3);have hall:∀i,¬own i→i<w1.heap.size→∀cs t,Row wr i cs t→Row w3 i cs t:=fun i h1 h2 cs t hr=>
  (hr.drew.wr hw2 (hn1 i h1 h2)).wr hwg (fun h=>by have:=(hlr i h).1;omega)
 have hggb:∀i,(Value.slice (some ⟨gg,0,none⟩) (k+1) cap3).ownBlock=some i→i=gg:=fun i hi=>by simp only[Value.ownBlock,Option.some.injEq]at hi;exact hi.symm
 have hnf:¬gg=fb:=by
  intro e;obtain⟨_,cs',hr⟩:=ownsRow_row hown3 (g:=gg) rfl;subst e;exact hr.ne (hall _ hfb.1 hfb.2 _ _ l2) (by decide) rfl
 have hb2:base≤w2.heap.size:=by obtain⟨_,_,_,_,h⟩:=hM2;have:=h.rest.own mc h.mine;omega
 have hbo:∀i,own2 i→base≤i:=by obtain⟨_,_,_,_,h⟩:=hM2;exact fun i hi=>(h.rest.own i hi).1
 have hrw:∀i,lvk.ownBlock=some i→i<wr.heap.size:=fun i hi=>by obtain⟨cs,hr⟩:=(hlr i hi).2;exact hr.lt
 have hne:∀i,¬own i→i<w1.heap.size→∀cs t,Row wr i cs t→t≠107→Row (w3.setCell ⟨fb,1,none⟩ (.slice (some ⟨gg,0,none⟩) (k+1) cap3)) i cs t:=fun i h1 h2 cs t hr ht=>
  (hall i h1 h2 cs t hr).wr hws (fun h=>(hall i h1 h2 cs t hr).ne (hall _ hfb.1 hfb.2 _ _ l2) ht h)
 refine⟨?_,(hall _ hfb.1 hfb.2 _ _ l2).set 1 _,?_,hne _ hgr.1 hgr.2 _ _ l4 (by decide),hne _ hrr.1 hrr.2 _ _ l5 (by decide),?_,fun i hi=>hu2 i (l7 i hi),fun i hi=>?_,fun i hi=>?_,?_⟩
 ·have e:makesF M (g.locs.take (k+1))=makeF (makesF M (g.locs.take k)) o:=by rw[htk,makesF_append];rfl
  rw[e];refine hM2.wr (F:=fun i=>lvk.ownBlock=some i∨i=fb) ((hwg.mono (fun i hi=>Or.inl (Or.inl hi))).trans hws (fun i hi=>Or.inl (Or.inr hi))) (fun i hi=>?_);rcases hi with hi|rfl
  ·exact⟨by have:=(hlr i hi).1;omega,hn2 i (l9 i hi) (hrw i hi)⟩
  ·exact⟨hbf,hn2 i (hn1 i hfb.1 hfb.2) (by omega)⟩
 ·obtain⟨cv,h1,h2⟩:=l3;exact⟨cv,hne _ htb.1 htb.2 _ _ h1 (by decide),h2⟩
 ·rw[numsF_succ,List.map_append,←memBase_makes_take M g.locs k (by omega)];exact ownsRow_wr hown3 hws (fun i hi h=>hnf ((hggb i hi).symm.trans h))
 ·rcases hd2 i hi with h|h
  ·exact l8 i h
  ·exact Or.inr (by omega)
 ·rw[hggb i hi];rcases hat with h|h
  ·exact hn2 gg (l9 gg h) (hrw gg h)
  ·intro h';obtain⟨_,_,_,_,hq⟩:=hM2;have:=(hq.rest.own gg h').2;omega
 ·refine(((l10.trans (Wr.of_below (F:=fun _=>False) (Below.refl _ _).drew) (fun i hi=>hi.elim)).trans hw2 (fun i hi=>?_)).trans hwg (fun i hi=>Or.inr (hlr i hi).1)).trans hws (fun i hi=>Or.inl (Or.inr hi));rcases l8 i hi with h|h
  ·exact Or.inl (Or.inl h)
  ·exact Or.inr h
end Go.Proofs.YtlenilbkifofjaaGreatDoor
namespace Go.Proofs.YtlenilbkifofjaaGreatDoor
open Go.RowKit
structure RBlkAt (base mc:Nat) (own:Nat→Prop) (P:Value×Value×Value×Value) (fuel:Int) (d:Int) (ng fb tb nt:Nat) (lv:Value) (lo:List Nat) (gr:Nat) (gc:Array Value) (w:World) (wr:World) (own':Nat→Prop) (st:St) (tp:List V):Prop where
 mach:RMach wr base mc own' P fuel st
 fr:RFrame wr fb tb tp lv lo
 off:OffAt base own' fb tb lv
 inv:GInv fuel st
 frok:FrOk (memBase st.mem) tp lo ng
 many:lo≠[]→2≤(memBase st.mem).length
 calls:st.calls=d
 len:tp.length=nt
 grow:Row wr gr gc 39
 gn:¬own' gr
 rrow:Row wr w.heap.size #[.int .i64 0,.int .i64 0] 70
 rn:¬own' w.heap.size∧¬w.heap.size=tb
 up:∀i,own i→own' i
 down:∀i,own' i→own i∨w.heap.size≤i
 tbw:w.heap.size≤tb
 wr:Wr own w wr
section
variable {base mc:Nat} {own:Nat→Prop} {P:Value×Value×Value×Value} {fuel d:Int} {ng fb tb nt:Nat} {lv:Value} {lo:List Nat} {gr:Nat} {gc:Array Value} {w wr:World} {own':Nat→Prop} {st:St} {tp:List V}
theorem RBlkAt.below(h:RBlkAt base mc own P fuel d ng fb tb nt lv lo gr gc w wr own' st tp){w':World}(hb:Below wr.heap.size wr w'):RBlkAt base mc own P fuel d ng fb tb nt lv lo gr gc w w' own' st tp:=
 ⟨h.mach.below hb,h.fr.below hb,h.off,h.inv,h.frok,h.many,h.calls,h.len,h.grow.below hb h.grow.lt,h.gn,h.rrow.below hb h.rrow.lt,h.rn,h.up,h.down,h.tbw,h.wr.trans (Wr.of_below (F:=fun _=>False) hb) (fun i hi=>hi.elim)⟩
theorem RBlkAt.mine(h:RBlkAt base mc own P fuel d ng fb tb nt lv lo gr gc w wr own' st tp):own' mc:=by obtain⟨_,_,_,_,h⟩:=h.mach;exact h.mine
theorem RBlkAt.mach'(h:RBlkAt base mc own P fuel d ng fb tb nt lv lo gr gc w wr own' st tp){w':World}{st':St}(hw:Wr (fun b=>b=mc) wr w')(hm:RMach w' base mc own' P fuel st')(hi:GInv fuel st')(hf:FrOk (memBase st'.mem) tp lo ng)(hgr:(memBase st.mem).length≤(memBase st'.mem).length)(hc:st'.calls=d):
  RBlkAt base mc own P fuel d ng fb tb nt lv lo gr gc w w' own' st' tp:=by
 have hmm:=h.mine;refine⟨hm,h.fr.wr hw (fun e=>h.off.fb.1 (by rw[e];exact hmm)) (fun e=>h.off.tb.1 (by rw[e];exact hmm)) (fun g hg e=>(h.off.lv g hg).1 (by rw[e];exact hmm)),h.off,hi,hf,(fun hn=>Nat.le_trans (h.many hn) hgr),hc,h.len,h.grow.wr hw (fun e=>h.gn (by rw[e];exact hmm)),h.gn,h.rrow.wr hw (fun e=>h.rn.1 (by rw[e];exact hmm)),h.rn,h.up,h.down,h.tbw,h.wr.trans hw (fun i hi=>?_)⟩;rcases h.down mc hmm with h'|h'
 ·exact Or.inl (hi▸h')
 ·exact Or.inr (hi▸h')
theorem RBlkAt.does(h:RBlkAt base mc own P fuel d ng fb tb nt lv lo gr gc w wr own' st tp){r:Bool×St×List V}{e:Ending}{w':World}(hd:RSays base mc P fuel fb tb lv lo own' r wr e w')(hk:GInv fuel r.2.1∧FrOk (memBase r.2.1.mem) r.2.2 lo ng∧r.2.1.calls=st.calls∧(memBase st.mem).length≤(memBase r.2.1.mem).length∧r.2.2.length=tp.length)(ht:r.1=true):
  ∃own'',RBlkAt base mc own P fuel d ng fb tb nt lv lo gr gc w w' own'' r.2.1 r.2.2∧(∀i,own'' i→own' i∨wr.heap.size≤i):=by
 obtain⟨_,own2,h1,h2,h3,h4,h5⟩:=hd;have hl:∀i,i<wr.heap.size→¬own' i→¬own2 i:=fun i hi hn ho=>by rcases h2 i ho with h|h;exact hn h;omega
 have hfl:=h.fr.row.lt;have htl:=(by obtain⟨_,hr,_⟩:=h.fr.temps;exact hr.lt:tb<wr.heap.size)
 have hll:∀g,lv.ownBlock=some g→g<wr.heap.size:=fun g hg=>by obtain⟨_,cs,hr⟩:=ownsRow_row h.fr.locs hg;exact hr.lt
 have htr:∃cs,Row wr tb cs 70:=by obtain⟨cs,hr,_⟩:=h.fr.temps;exact⟨cs,hr⟩
 have hng:¬(own' gr∨gr=tb):=fun e=>by
  rcases e with e|e
  ·exact h.gn e
  ·obtain⟨cs,hr⟩:=htr;exact h.grow.ne hr (by decide) e
 have hnr:¬(own' w.heap.size∨w.heap.size=tb):=fun e=>by
  rcases e with e|e
  ·exact h.rn.1 e
  ·exact h.rn.2 e
 refine⟨own2,⟨h3,h4 ht,⟨⟨hl _ hfl h.off.fb.1,h.off.fb.2⟩,⟨hl _ htl h.off.tb.1,h.off.tb.2⟩,fun g hg=>⟨hl g (hll g hg) (h.off.lv g hg).1,(h.off.lv g hg).2⟩⟩,hk.1,hk.2.1,(fun hn=>Nat.le_trans (h.many hn) hk.2.2.2.1),hk.2.2.1.trans h.calls,hk.2.2.2.2.trans h.len,
  h.grow.wr h5 hng,hl _ h.grow.lt h.gn,h.rrow.wr h5 hnr,⟨hl _ h.rrow.lt h.rn.1,h.rn.2⟩,fun i hi=>h1 i (h.up i hi),fun i hi=>?_,h.tbw,h.wr.trans h5 (fun i hi=>?_)⟩,h2⟩
 ·rcases h2 i hi with h'|h'
  ·exact h.down i h'
  ·exact Or.inr (by have:=h.wr.size;omega)
 ·rcases hi with hi|hi
  ·exact h.down i hi
  ·exact Or.inr (hi▸h.tbw)
theorem RBlkAt.done(h:RBlkAt base mc own P fuel d ng fb tb nt lv lo gr gc w wr own' st tp){r:Bool×St×List V}{e:Ending}{w':World}(hd:RSays base mc P fuel fb tb lv lo own' r wr e w'):
  ∃own2:Nat→Prop,(∀k,own k→own2 k)∧(∀k,own2 k→own k∨w.heap.size≤k)∧RMach w' base mc own2 P fuel r.2.1∧Wr own w w'∧Row w' w.heap.size #[.int .i64 0,.int .i64 0] 70∧¬own2 w.heap.size:=by
 obtain⟨_,own2,h1,h2,h3,h4,h5⟩:=hd;have hnr:¬(own' w.heap.size∨w.heap.size=tb):=fun e=>by
  rcases e with e|e
  ·exact h.rn.1 e
  ·exact h.rn.2 e
 refine⟨own2,fun k hk=>h1 k (h.up k hk),fun k hk=>?_,h3,h.wr.trans h5 (fun i hi=>?_),h.rrow.wr h5 hnr,fun ho=>?_⟩
 ·rcases h2 k hk with h'|h'
  ·exact h.down k h'
  ·exact Or.inr (by have:=h.wr.size;omega)
 ·rcases hi with hi|hi
  ·exact h.down i hi
  ·exact Or.inr (hi▸h.tbw)
 ·rcases h2 _ ho with h'|h'
  ·exact h.rn.1 h'
  ·have:=h.rrow.lt;omega
end
theorem rdoesSays_keep{base mc fb tb:Nat}{own:Nat→Prop}{P:Value×Value×Value×Value}{fuel:Int}{lv:Value}{lo:List Nat}{r:Bool×St×List V}{w:World}{e:Ending}{w':World}{b:Nat}{cs:Array Value}{t:TypeId}
  (h:RSays base mc P fuel fb tb lv lo own r w e w')(hr:Row w b cs t)(h1:¬own b)(h2:¬b=tb):Row w' b cs t:=by
 obtain⟨_,own2,_,_,_,_,h5⟩:=h;exact hr.wr h5 (fun e=>by rcases e with e|e;exact h1 e;exact h2 e)
theorem rdoesSays_below{base mc fb tb:Nat}{own:Nat→Prop}{P:Value×Value×Value×Value}{fuel:Int}{lv:Value}{lo:List Nat}{r:Bool×St×List V}{w:World}{e:Ending}{w':World}
  (h:RSays base mc P fuel fb tb lv lo own r w e w')(hm:∀k,own k→base≤k)(ht:base≤tb)(hb:base≤w.heap.size):Below base w w':=by
 obtain⟨_,own2,_,_,_,_,h5⟩:=h;exact h5.below hb (fun k hk=>by rcases hk with hk|hk;exact hm k hk;omega)
theorem RCallSays.below{base mc:Nat}{own:Nat→Prop}{P:Value×Value×Value×Value}{fuel:Int}{r:Option V×St}{w w' w'':World}{e:Ending}(h:RCallSays base mc own P fuel r w e w')(hb:Below w'.heap.size w' w''):RCallSays base mc own P fuel r w e w'':=by
 obtain⟨h0,own2,h1,h2,h3,h4⟩:=h;exact⟨h0,own2,h1,h2,h3.below hb,h4.trans (Wr.of_below (F:=fun _=>False) hb) (fun i hi=>hi.elim)⟩
theorem RMach.steps{w:World}{base mc:Nat}{own:Nat→Prop}{P:Value×Value×Value×Value}{fuel:Int}{s:St}(h:RMach w base mc own P fuel s):w.cell? ⟨mc,9,none⟩=some (.int .i64 s.steps):=by
 obtain⟨_,_,_,_,h⟩:=h;exact h.row.cell (j:=9) rfl
theorem rcall_pair{base mc:Nat}{own own2:Nat→Prop}{P:Value×Value×Value×Value}{fuel:Int}{s:St}{w w5:World}(v:Option V)(h1:∀k,own k→own2 k)(h2:∀k,own2 k→own k∨w.heap.size≤k)(h3:RMach w5 base mc own2 P fuel s)(h4:Wr own w w5)(h5:¬own2 w.heap.size)(hb:base≤w.heap.size)(a b:Int):
  RCallSays base mc own P fuel (v,s) w (.returned (ansV v)) ((w5.setCell ⟨w.heap.size,0,none⟩ (.int .i64 a)).setCell ⟨w.heap.size,1,none⟩ (.int .i64 b)):=
 ⟨rfl,own2,h1,h2,h3.wr (wr_two _ _ _ _) (fun k hk=>(by subst hk;exact⟨hb,h5⟩)),h4.trans (wr_two _ _ _ _) (fun i hi=>Or.inr (by omega))⟩
theorem rcall_start{base mc fb tb nt lcap bcap:Nat}{own own1:Nat→Prop}{P:Value×Value×Value×Value}{fuel:Int}{s:St}{g:CodeS}{LA BA:Option Addr}{p:VirtS}{args:List V}{w wb w1 w2 w3:World}{lvk:Value}
  (hL:RLocsAt base mc own P fuel {s with calls:=s.calls+1,deep:=max s.deep (s.calls+1),steps:=s.steps+countsF g.locs} fb tb nt g LA lcap BA bcap s.mem w wb.heap.size w1 w2 g.locs.length own1 lvk)
  (hwr:Wr (fun b=>b=tb) w2 w3)(hv:VRow w3 tb (startF nt args))(hl:(startF nt args).length=nt)(hnt:nt≤8000)(hnl:g.locs.length≤1000000)(how:∀k,own k→base≤k∧k<w.heap.size)(hwa:Wr own w w1)(hbw:Below base w wb)(hfb:wb.heap.size<fb)(htb:wb.heap.size<tb)(hwb:base≤w.heap.size∧w.heap.size<wb.heap.size∧fb<w1.heap.size∧tb<w1.heap.size∧wb.heap.size<w1.heap.size)(hS:GInv fuel {s with calls:=s.calls+1,deep:=max s.deep (s.calls+1),steps:=s.steps+countsF g.locs,mem:=makesF s.mem g.locs}∧FrOk (memBase (makesF s.mem g.locs)) (startF nt args) (numsF s.mem g.locs.length) p.globs.length∧(memBase (makesF s.mem g.locs)).length=(memBase s.mem).length+g.locs.length):
  RBlkAt base mc own P fuel (s.calls+1) p.globs.length fb tb nt lvk (numsF s.mem g.locs.length) wb.heap.size #[.int .i64 g.params,.int .i64 nt,.slice LA g.locs.length lcap,.slice BA g.ins.length bcap] w w3 own1
   {s with calls:=s.calls+1,deep:=max s.deep (s.calls+1),steps:=s.steps+countsF g.locs,mem:=makesF s.mem g.locs} (startF nt args):=by
 obtain⟨l1,l2,l3,l4,l5,l6,l7,l8,l9,l10⟩:=hL;rw[List.take_length]at l1;have hn1:∀i,w.heap.size≤i→i<w1.heap.size→¬own1 i:=fun i h1 h2 h=>by
  rcases l8 i h with h|h
  ·have:=(how i h).2;omega
  ·omega
 have hno:∀i,lvk.ownBlock=some i→w1.heap.size≤i:=fun i hi=>(ownsRow_row l6 hi).1;have hft:¬fb=tb:=fun e=>by obtain⟨cs,hr,_⟩:=l3;exact l2.ne hr (by decide) e
 obtain⟨hb0,hb1,hb2,hb3,hb4⟩:=hwb;refine⟨l1.wr hwr (fun k hk=>⟨by omega,hk▸hn1 tb (by omega) hb3⟩),⟨?_,hv,?_,fun g' hg'=>by have:=hno g' hg';omega,by rw[hl];omega,by rw[numsF_length];exact hnl⟩,⟨⟨hn1 fb (by omega) hb2,by omega⟩,⟨hn1 tb (by omega) hb3,by omega⟩,fun g' hg'=>⟨l9 g' hg',by have:=hno g' hg';omega⟩⟩,
  hS.1,hS.2.1,(fun hn=>?_),rfl,hl,
  l4.wr hwr (fun h=>by omega),hn1 _ (by omega) hb4,l5.wr hwr (fun h=>by omega),⟨hn1 _ (by omega) (by omega),by omega⟩,l7,fun i hi=>?_,by omega,?_⟩
 ·rw[hl];exact l2.wr hwr hft
 ·rw[numsF_length];exact ownsRow_base (ownsRow_wr l6 hwr (fun i hi h=>by have:=hno i hi;omega)) (Nat.zero_le _)
 ·show 2≤(memBase (makesF s.mem g.locs)).length;rw[hS.2.2];have h1:=memBase_pos s.mem;have h2:0<g.locs.length:=by
   rcases Nat.eq_zero_or_pos g.locs.length with h|h
   ·exact absurd (by rw[h];rfl) hn
   ·exact h
  omega
 ·rcases l8 i hi with h|h
  ·exact Or.inl h
  ·exact Or.inr (by omega)
 ·refine(hwa.trans l10 (fun i hi=>?_)).trans hwr (fun i hi=>Or.inr (by omega));rcases hi with hi|hi
  ·exact Or.inl hi
  ·exact Or.inr (by omega)
end Go.Proofs.YtlenilbkifofjaaGreatDoor
namespace Go.Proofs.YtlenilbkifofjaaGreatDoor
open Go.RowKit
def loopsOf:Code→List Code
 | .loop c=>[.loop c]
 | .seq a b=>loopsOf a++loopsOf b
 | .block _ c=>loopsOf c
 | .scope c=>loopsOf c
 | .cond _ a b=>loopsOf a++loopsOf b
 |_=>[]
def bodyOf:Code→Code
 | .loop c=>c
 |c=>c
theorem wanted_none(d:Option Nat)(op:Op)(t:TypeId)(ps:String)(af:Array Edge)(y:Nat→Option Bool):Region.wanted ⟨d,op,t,ps,af,none⟩ y=true:=rfl
attribute [local go_sem ↓] wanted_none
end Go.Proofs.YtlenilbkifofjaaGreatDoor
namespace Go.Proofs.YtlenilbkifofjaaGreatDoor
open Go.RowKit
theorem RMachAt.kill{w:World}{base mc:Nat}{own:Nat→Prop}{P:Value×Value×Value×Value}{fuel:Int}{s:St}{inv outv:Value}{rb:Nat→Nat}{mg cap:Nat}(h:RMachAt w base mc own P fuel s inv outv (.slice (some ⟨mg,0,none⟩) s.mem.length cap) rb)(j:Nat)(hj:j<s.mem.length):
  RMachAt (w.setCell ⟨mg,j*3+2,none⟩ (.bool false)) base mc own P fuel {s with mem:=s.mem.modify j dead} inv outv (.slice (some ⟨mg,0,none⟩) s.mem.length cap) rb∧Wr own w (w.setCell ⟨mg,j*3+2,none⟩ (.bool false)):=by
 obtain⟨hr,hm,hs⟩:=h;have hmg:=hs.memo mg rfl;have hw:Wr (fun k=>k=mg) w (w.setCell ⟨mg,j*3+2,none⟩ (.bool false)):=Wr.cell1 w mg _ _;obtain⟨⟨xs,hx,hox⟩,hmi,hinj,hok⟩:=hs.mem;obtain⟨hgb,cs,hgr⟩:=ownsRow_row hx (g:=mg) rfl;have hne:∀g cs' t,Row w g cs' t→t≠103→¬g=mg:=fun g cs' t hr' ht e=>by subst e;exact hr'.ne hgr ht rfl
 have hb:=hs.own mc hm;have hbm:=hs.own mg hmg;refine⟨⟨hr.wr hw (hne _ _ _ hr (by decide)),hm,⟨?_,?_,hs.outo,?_,hs.memo,fun k hk=>⟨(hs.own k hk).1,Nat.lt_of_lt_of_le (hs.own k hk).2 hw.size⟩⟩⟩,hw.mono (fun k hk=>Or.inl (hk▸hmg))⟩
 ·exact hs.inp.below (fun b o hb'=>World.cell?_of_block (a:=⟨b,o,none⟩) (hw.block b (by omega) (fun hf=>by omega)))
 ·refine ownsRow_wr hs.out hw (fun g hg=>?_);obtain⟨_,cs',hr'⟩:=ownsRow_row hs.out hg;exact hne g cs' _ hr' (by decide)
 ·refine⟨⟨xs.set (j*3+2) (.bool false),by rw[List.length_modify];exact(hx.stored (j*3+2) _).1,fun k o ho=>?_⟩,fun k o hk ho=>?_,fun i k=>by rw[List.length_modify];exact hinj i k,hok.kill j⟩
  ·obtain⟨o0,h0,rfl⟩:=modify_get ho;refine(hox k o0 h0).kill ?_;have hkl:k<s.mem.length:=by
    rcases Nat.lt_or_ge k s.mem.length with h|h
    ·exact h
    ·rw[List.getElem?_eq_none h]at h0;cases h0
   rw[hx.1];omega
  ·obtain⟨o0,h0,rfl⟩:=modify_get ho;obtain⟨h1,cv,h2,h3⟩:=hmi k o0 hk h0;refine⟨h1,cv,h2.wr hw (hne _ _ _ h2 (by decide)),?_⟩;split
   ·exact h3
   ·exact h3
theorem RMachAt.calls{w:World}{base mc:Nat}{own:Nat→Prop}{P:Value×Value×Value×Value}{fuel:Int}{s:St}{inv outv memv:Value}{rb:Nat→Nat}(h:RMachAt w base mc own P fuel s inv outv memv rb)(c:Int):
  RMachAt (w.setCell ⟨mc,12,none⟩ (.int .i64 c)) base mc own P fuel {s with calls:=c} inv outv memv rb:=RMachAt.num (s':={s with calls:=c}) h 12 _ rfl rfl rfl rfl
noncomputable def rcallRounds:Code:=(loopsOf (Tryz.f24.body.getD .skip)).getD 3 .skip
attribute [local go_sem ↓] wanted_none
noncomputable def rcallKills:Code:=(loopsOf (bodyOf rcallRounds)).getD 0 .skip
theorem rcall_kills(base mc:Nat)(own2:Nat→Prop)(P:Value×Value×Value×Value)(fuel:Int)(s:St)(fb tb:Nat)(tp:List V)(lvk:Value)(lo:List Nat)(w7:World)
  (hM:RMach w7 base mc own2 P fuel s)(hF:RFrame w7 fb tb tp lvk lo)(hO:OffAt base own2 fb tb lvk)(hlo:∀x,x∈lo→x<s.mem.length)(hmany:s.mem.length≤4294967296)
  (c1 c2 c3 c4 c5 c6 c7 c8 c10 c11 c12 c13 c14 c15 c17 c18 c19 c20 c21 c22 c23 c24 c25 c26 c27 c28 c29 c30 c31 c32 c33 c34 c35 c36 c37 c38 c39 c40 c41 c42 c43 c44 c45 c46 c47 c48 c49 c50 c51 c52 c53 c54 c55 c56 c57 c58 c59 c60 c61 c62 c63 c64 c65 c66 c67 c68 c69 c70 c71 c72 c73 c74 c75 c76 c77 c78 c79 c80 c81 c82 c83 c84 c85 c86 c87 c88 c89 c90 c91 c92 c93 c94 c95 c96 c97 c98 c99 c100 c101 c102 c103 c104 c105 c106 c107 c108 c109 c110 c111 c112 c113 c114 c115 c116 c117 c118 c119 c120 c121 c122 c123 c124 c125 c126 c127 c128 c129 c130 c131 c132 c133 c134 c135 c136 c137 c138 c139 c140 c141 c142 c143 c144 c145 c146 c147 c148 c149 c150 c151 c152 c153 c154 c155 c156 c157 c158 c159 c160 c161 c162 c163 c164 c165 c166 c167 c168 c169 c170 c171 c172 c173 c174 c175 c176 c177 c178 c179 c180 c181 c182 c183 c184 c185 c186 c187 c188 c189 c190 c191 c192 c193 c194 c195 c196 c197 c198 c199 c200 c201 c202 c203 c204 c205 c206 c207 c208 c209 c210 c211 c212 c213 c214:Value)(Q:Exit→Act→World→Prop)
  (hexit:∀(u16 u141 u142 u143 u144 u145 u146 u147 u148 u149 u150 u151 u152 u153 u154 u155 u156 u157 u158 u159 u160 u161 u162 u163:Value)(w':World),RMach w' base mc own2 P fuel {s with mem:=killF s.mem lo}→Wr own2 w7 w'→Q (.exit 9) ⟨List.toArray ((Value.pointer (some ⟨mc,0,none⟩))::c1::c2::c3::c4::c5::c6::c7::c8::(Value.pointer (some ⟨fb,0,none⟩))::c10::c11::c12::c13::c14::c15::u16::c17::c18::c19::c20::c21::c22::c23::c24::c25::c26::c27::c28::c29::c30::c31::c32::c33::c34::c35::c36::c37::c38::c39::c40::c41::c42::c43::c44::c45::c46::c47::c48::c49::c50::c51::c52::c53::c54::c55::c56::c57::c58::c59::c60::c61::c62::c63::c64::c65::c66::c67::c68::c69::c70::c71::c72::c73::c74::c75::c76::c77::c78::c79::c80::c81::c82::c83::c84::c85::c86::c87::c88::c89::c90::c91::c92::c93::c94::c95::c96::c97::c98::c99::c100::c101::c102::c103::c104::c105::c106::c107::c108::c109::c110::c111::c112::c113::c114::c115::c116::c117::c118::c119::c120::c121::c122::c123::c124::c125::c126::c127::c128::c129::c130::c131::c132::c133::c134::c135::c136::c137::c138::c139::c140::u141::u142::u143::u144::u145::u146::u147::u148::u149::u150::u151::u152::u153::u154::u155::u156::u157::u158::u159::u160::u161::u162::u163::c164::c165::c166::c167::c168::c169::c170::c171::c172::c173::c174::c175::c176::c177::c178::c179::c180::c181::c182::c183::c184::c185::c186::c187::c188::c189::c190::c191::c192::c193::c194::c195::c196::c197::c198::c199::c200::c201::c202::c203::c204::c205::c206::c207::c208::c209::c210::c211::c212::c213::c214::[]),[]⟩ w'):
  Code.wp Tryz.prog rcallKills Q ⟨List.toArray ((Value.pointer (some ⟨mc,0,none⟩))::c1::c2::c3::c4::c5::c6::c7::c8::(Value.pointer (some ⟨fb,0,none⟩))::c10::c11::c12::c13::c14::c15::(Value.int .i64 0)::c17::c18::c19::c20::c21::c22::c23::c24::c25::c26::c27::c28::c29::c30::c31::c32::c33::c34::c35::c36::c37::c38::c39::c40::c41::c42::c43::c44::c45::c46::c47::c48::c49::c50::c51::c52::c53::c54::c55::c56::c57::c58::c59::c60::c61::c62::c63::c64::c65::c66::c67::c68::c69::c70::c71::c72::c73::c74::c75::c76::c77::c78::c79::c80::c81::c82::c83::c84::c85::c86::c87::c88::c89::c90::c91::c92::c93::c94::c95::c96::c97::c98::c99::c100::c101::c102::c103::c104::c105::c106::c107::c108::c109::c110::c111::c112::c113::c114::c115::c116::c117::c118::c119::c120::c121::c122::c123::c124::c125::c126::c127::c128::c129::c130::c131::c132::c133::c134::c135::c136::c137::c138::c139::c140::c141::c142::c143::c144::c145::c146::c147::c148::c149::c150::c151::c152::c153::c154::c155::c156::c157::c158::c159::c160::c161::c162::c163::c164::c165::c166::c167::c168::c169::c170::c171::c172::c173::c174::c175::c176::c177::c178::c179::c180::c181::c182::c183::c184::c185::c186::c187::c188::c189::c190::c191::c192::c193::c194::c195::c196::c197::c198::c199::c200::c201::c202::c203::c204::c205::c206::c207::c208::c209::c210::c211::c212::c213::c214::[]),[]⟩ w7:=by
 obtain⟨LV,lvc,hlvk⟩:∃A c,lvk= .slice A lo.length c:=(by obtain⟨_,h|⟨g,c,cur,h,_⟩⟩:=hF.locs;exact⟨none,0,by rw[h.1,h.2]⟩;exact⟨_,_,h⟩)
 subst hlvk;have hlvm:lo.length≤9223372036854775807:=by
  obtain⟨_,h|⟨g,c,cur,_,_,_,h1,h2,_⟩⟩:=hF.locs
  ·omega
  ·unfold maxLen at h2;omega
 have HF:=Lib.hid hF;have HM:=Lib.hid hM;have HO:=Lib.hid hO;have HLO:=Lib.hid hlo;have HEX:=Lib.hid hexit;clear hM hF hO hlo hexit
 conv=>arg 2;whnf
 go_loopw [16] (fun i wr=>∃k:Nat,k≤lo.length∧i= .int .i64 k∧RMach wr base mc own2 P fuel {s with mem:=killF s.mem (lo.take k)}∧Wr own2 w7 wr) (fun i _=>lo.length-(intOf i).toNat)
 case atStart=>exact⟨0,by omega,rfl,HM.out,Wr.refl _ _⟩
 case round=>
  obtain⟨k2,hk2,rfl,hMk,hwk⟩:=hrel;have hFk:=HF.out.wr hwk HO.out.fb.1 HO.out.tb.1 (fun g hg=>(HO.out.lv g hg).1);have e5:wr.cell? ⟨fb,1,none⟩=some (.slice LV lo.length lvc):=hFk.row.cell (j:=1) rfl;have HMk:=Lib.hid hMk;have HWK:=Lib.hid hwk;by_cases hlt6:k2<lo.length
  ·obtain⟨x,hx⟩:∃x,lo[k2]? =some x:=⟨_,List.getElem?_eq_getElem hlt6⟩
   obtain⟨lg,rfl,hlgl⟩:∃lg,LV=some ⟨lg,0,none⟩∧lg<wr.heap.size:=(by
    obtain⟨_,h|⟨g,c,cur,h,_,hh,_⟩⟩:=hFk.locs
    ·omega
    ·injection h with h;exact⟨g,h,Row.lt hh⟩)
   have e6:wr.cell? ⟨lg,k2,none⟩=some (.int .i64 (x:Nat)):=(by
    have:=hFk.locs.cells (g:=lg) rfl k2 (.int .i64 (x:Nat)) (by rw[List.getElem?_map,hx];rfl);rw[addr0]at this;exact this)
   have hxl:x<s.mem.length:=HLO.out x (List.mem_of_getElem? hx);obtain⟨inv,outv,memv,rb,hMA⟩:=hMk;have hkl:(killF s.mem (lo.take k2)).length=s.mem.length:=killF_length _ _;obtain⟨⟨xs,hxs,_⟩,_⟩:=hMA.rest.mem;obtain⟨mg,mcap,hmv⟩:∃mg mcap,memv= .slice (some ⟨mg,0,none⟩) (killF s.mem (lo.take k2)).length mcap:=(by
    obtain⟨_,h|⟨g,c,cur,h,_⟩⟩:=id hxs
    ·have:=h.2;simp only at this;omega
    ·exact⟨g,c,h⟩)
   subst hmv;have e10:wr.cell? ⟨mc,11,none⟩=some (.slice (some ⟨mg,0,none⟩) s.mem.length mcap):=(by rw[←hkl];exact hMA.row.cell (j:=11) rfl)
   obtain⟨u11,e11⟩:∃u,wr.cell? ⟨mg,x*3+2,none⟩=some u:=⟨_,by rw[hxs.cellAt (x*3+2) (by rw[hkl];omega)];exact List.getElem?_eq_getElem (by rw[hxs.1];show _<(killF s.mem (lo.take k2)).length*3;omega)⟩
   have e12:=hxs.frozenAt (x*3+2);have hk1:(k2:Int)<(lo.length:Int):=by omega
   obtain⟨_,csm,hmgr⟩:=ownsRow_row hxs (g:=mg) rfl;have hmn1:¬fb=mg:=fun e=>hFk.row.ne hmgr (by decide) e;have hmn2:¬mg=fb:=fun e=>hmn1 e.symm;have hmn3:¬mc=mg:=fun e=>hMA.row.ne hmgr (by decide) e;have hmn4:¬mg=mc:=fun e=>hmn3 e.symm;have hmn5:¬lg=mg:=(by obtain⟨_,csl,hr⟩:=ownsRow_row hFk.locs (g:=lg) rfl;exact fun e=>hr.ne hmgr (by decide) e)
   have hmn6:¬mg=lg:=fun e=>hmn5 e.symm;clear hmgr;have hk0:(0:Int)≤(k2:Int):=by omega
   have hx1:(x:Int)<(s.mem.length:Int):=by omega
   have hx0:(0:Int)≤(x:Int):=by omega
   have HMA:=Lib.hid hMA;have HX:=Lib.hid hx;clear hMA hxs hx hFk hwk hkl hlgl hxl;go_wp2_with fail;refine still_tailq 14 (by kernel_rfl) (by kernel_rfl) ?_;simp only[List.take_succ_cons,List.take_zero,List.drop_succ_cons,List.drop_zero]
   repeat(go_big_quiet_step (fail))
   refine wpQuiet_nil ?_;go_wp2_with fail;go_roundw
   case rel=>
    obtain⟨hA,hB⟩:=HMA.out.kill x (by show x<(killF s.mem (lo.take k2)).length;rw[killF_length];omega);have hC:=(RMach.below ⟨_,_,_,_,hA⟩ (Below.refl _ _).drew:RMach _ base mc own2 P fuel _)
    have e:killF s.mem (lo.take (k2+1))=(killF s.mem (lo.take k2)).modify x dead:=by rw[take_succ_of HX.out,killF_snoc]
    refine⟨k2+1,hlt6,by go_num,?_,(HWK.out.trans hB (fun i hi=>Or.inl hi)).trans (Wr.of_below (F:=fun _=>False) (Below.refl _ _).drew) (fun i hi=>hi.elim)⟩;rw[e];exact hC
   case measure=>simp[intOf];omega
  ·obtain rfl:k2=lo.length:=by omega
   rw[List.take_length]at hMk;clear hFk HMk HWK;go_wp2_with fail;exact HEX.out _ _ _ _ _ _ _ _ _ _ _ _ _ _ _ _ _ _ _ _ _ _ _ _ _ hMk hwk
end Go.Proofs.YtlenilbkifofjaaGreatDoor
