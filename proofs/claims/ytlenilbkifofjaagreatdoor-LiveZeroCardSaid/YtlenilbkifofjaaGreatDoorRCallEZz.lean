/- gantletref14: a call's rounds, one an instruction. Conditions: as stated. -/
import Derived.Test.YtlenilbkifofjaaGreatDoorQ09Zz
import Derived.Test.YtlenilbkifofjaaGreatDoorQ11Zz
import Derived.Test.YtlenilbkifofjaaGreatDoorQ12Zz
import Derived.Test.YtlenilbkifofjaaGreatDoorQ10Zz
import Derived.WalkLawsBesides
import Derived.BigQuiet
import Derived.Deep.QuietTactic
import Derived.Deep.RegionHeld3
import Derived.Outline
set_option linter.unusedVariables false
set_option linter.unusedSimpArgs false
set_option maxHeartbeats 8000000
set_option maxRecDepth 100000
namespace Go.Proofs.YtlenilbkifofjaaGreatDoor
open Go.RowKit
theorem nextF_on{R:CallR}{fuel:Int}{lo:List Nat}{l:List InsS}{x:InsS}{k:Nat}{s:St}{tp:List V}(hy:(stepF fuel 1 s).1=true)(hs:Straight x):nextF R fuel lo l s tp k x=((afterF R lo (stepF fuel 1 s).2 tp (stepI x)).1,((k+1:Nat):Int),(afterF R lo (stepF fuel 1 s).2 tp (stepI x)).2.1,(afterF R lo (stepF fuel 1 s).2 tp (stepI x)).2.2):=by
 unfold nextF;rw[if_neg (by rw[hy];simp),if_neg hs.2.2,if_neg hs.1,if_neg hs.2.1]
theorem RBlkAt.labs{base mc:Nat}{own own':Nat→Prop}{P:Value×Value×Value×Value}{fuel d:Int}{ng fb tb nt:Nat}{lv:Value}{lo:List Nat}{gr:Nat}{gc:Array Value}{w wr:World}{st:St}{tp:List V}{v:Value}{p:VirtS}(h:RBlkAt base mc own P fuel d ng fb tb nt lv lo gr gc w wr own' st tp)(hL:RLabs w own w.heap.size v p):RLabs wr own' wr.heap.size v p:=
 ((hL.wr h.wr (fun _ hk=>Or.inl hk) (Nat.le_refl _)).up h.down).mono h.wr.size
theorem rcall_rounds(base mc:Nat)(own own0:Nat→Prop)(P:Value×Value×Value×Value)(fuel d:Int)(p:VirtS)(f fb tb nt gr gas0 k0:Nat)(g:CodeS)(LA BA:Option Addr)(lcap bcap:Nat)(lvk:Value)(lo:List Nat)(R:CallR)(st0:St)(tp0:List V)(T:Option V×St)(w w3:World)
  (hf:fuel≤100000000)(hbs:base≤w.heap.size)(hP:VirtAt w base (P.1,P.2.1,P.2.2.1) p)(how:∀k,own k→base≤k∧k<w.heap.size)(hBS:SliceAt w base 6 (InsE w base) g.ins (.slice BA g.ins.length bcap))(hlol:lo.length=g.locs.length)(hg:p.funcs[f]? =some g)
  (hB0:RBlkAt base mc own P fuel d p.globs.length fb tb nt lvk lo gr #[.int .i64 g.params,.int .i64 nt,.slice LA g.locs.length lcap,.slice BA g.ins.length bcap] w w3 own0 st0 tp0)(hk0:k0<g.ins.length)(hgas0:(fuel-st0.steps).toNat<gas0)(hT:blocksF R fuel lo (blocksI g.ins) gas0 (k0:Nat) st0 tp0=T)(hd0:0≤d)(hd1:d≤64)
  (hins:∀x,x∈g.ins→InsOk g p.globs.length p.funcs.length (parV p) x)(hlast:lastB g=true)(hlay:layB [] g.ins=true)(hil:g.ins.length≤8000)(hnt:g.regs=nt)(hpa:∀c,c∈p.funcs→c.params≤4)(hng:p.globs.length≤1000)
  (hvin:∀i,i∈g.ins→In64 i.op∧In64 i.dst∧In64 i.a∧In64 i.b∧In64 i.n∧∀x,x∈i.arg→In64 x)(hL:RLabs w own w.heap.size P.2.2.2 p)(hC:RCallOk p fuel d R)(hRK:∀c,RKept (virtG p) fuel c R)
  (c2 c3 c4 c5 c7 c10 c11 c12 c13 c15 c16 c17 c18 c19 c20 c21 c22 c23 c24 c25 c26 c27 c28 c29 c30 c31 c32 c33 c34 c35 c36 c37 c38 c39 c40 c41 c42 c43 c44 c45 c46 c47 c48 c49 c50 c51 c52 c53 c54 c55 c56 c57 c58 c59 c60 c61 c62 c63 c64 c65 c66 c67 c68 c69 c70 c71 c72 c73 c74 c75 c76 c77 c78 c79 c80 c81 c82 c83 c84 c85 c86 c87 c88 c89 c90 c91 c92 c93 c94 c95 c96 c97 c98 c99 c100 c101 c102 c103 c104 c105 c106 c107 c108 c109 c110 c111 c112 c113 c114 c115 c116 c117 c118 c119 c120 c121 c122 c123 c124 c125 c126 c127 c128 c129 c130 c131 c132 c133 c134 c135 c136 c137 c138 c139 c140 c141 c142 c143 c144 c145 c146 c147 c148 c149 c150 c151 c152 c153 c154 c155 c156 c157 c158 c159 c160 c161 c162 c163 c164 c165 c166 c167 c168 c169 c170 c171 c172 c173 c174 c175 c176 c177 c178 c179 c180 c181 c182 c183 c184 c185 c186 c187 c188 c189 c190 c191 c192 c193 c194 c195 c196 c197 c198 c199 c200 c201 c202 c203 c204 c205 c206 c207 c208 c209 c210 c211 c212 c213 c214:Value)(Q:Exit→Act→World→Prop)(hQ:∀a w',bodyPost Tryz.prog Tryz.f24 (fun e w'=>RCallSays base mc own P fuel T w e w') Exit.ret a w'→Q Exit.ret a w'):
  Code.wp Tryz.prog rcallRounds Q ⟨List.toArray ((Value.pointer (some ⟨mc,0,none⟩))::(Value.int .i64 (f:Nat))::c2::c3::c4::c5::(Value.pointer (some ⟨w.heap.size,0,none⟩))::c7::(Value.pointer (some ⟨gr,0,none⟩))::(Value.pointer (some ⟨fb,0,none⟩))::c10::c11::c12::c13::(Value.int .i64 (k0:Nat))::c15::c16::c17::c18::c19::c20::c21::c22::c23::c24::c25::c26::c27::c28::c29::c30::c31::c32::c33::c34::c35::c36::c37::c38::c39::c40::c41::c42::c43::c44::c45::c46::c47::c48::c49::c50::c51::c52::c53::c54::c55::c56::c57::c58::c59::c60::c61::c62::c63::c64::c65::c66::c67::c68::c69::c70::c71::c72::c73::c74::c75::c76::c77::c78::c79::c80::c81::c82::c83::c84::c85::c86::c87::c88::c89::c90::c91::c92::c93::c94::c95::c96::c97::c98::c99::c100::c101::c102::c103::c104::c105::c106::c107::c108::c109::c110::c111::c112::c113::c114::c115::c116::c117::c118::c119::c120::c121::c122::c123::c124::c125::c126::c127::c128::c129::c130::c131::c132::c133::c134::c135::c136::c137::c138::c139::c140::c141::c142::c143::c144::c145::c146::c147::c148::c149::c150::c151::c152::c153::c154::c155::c156::c157::c158::c159::c160::c161::c162::c163::c164::c165::c166::c167::c168::c169::c170::c171::c172::c173::c174::c175::c176::c177::c178::c179::c180::c181::c182::c183::c184::c185::c186::c187::c188::c189::c190::c191::c192::c193::c194::c195::c196::c197::c198::c199::c200::c201::c202::c203::c204::c205::c206::c207::c208::c209::c210::c211::c212::c213::c214::[]),[]⟩ w3:=by
 have HP:=Lib.hid hP;have HOW:=Lib.hid how;have HBS:=Lib.hid hBS;have HQ:=Lib.hid hQ;have HINS:=Lib.hid hins;have HLAST:=Lib.hid hlast;have HLAY:=Lib.hid hlay;have HNT:=Lib.hid hnt;have HPA:=Lib.hid hpa;have HVIN:=Lib.hid hvin;have HL:=Lib.hid hL;have HC:=Lib.hid hC;have HRK:=Lib.hid hRK;have HG:=Lib.hid hg;have HLOL:=Lib.hid hlol;have HNB:=Lib.hid (show g.ins.length≤9223372036854775807 from by omega);obtain⟨ab,ac,hat,han,habl,hlb⟩:=hL.lie;have HAT:=Lib.hid hat;have hfl:f<p.funcs.length:=(List.getElem?_eq_some_iff.1 hg).1;obtain⟨lb,lc,hlb0,hlb1,hlbn,hlbl⟩:=hlb f g hg;have HLB0:=Lib.hid hlb0;have HLB1:=Lib.hid hlb1;have HLN:=Lib.hid (And.intro han hlbn);have hflen:p.funcs.length≤9223372036854775807:=by
  obtain⟨_,_,_,h,_⟩:=hP.2.1;exact h
 have hT0:=hT;have HT:=Lib.hid hT;clear hP how hBS hQ hins hlast hlay hnt hpa hvin hL hC hRK hg hlol hat han hlb hlb0 hlb1 hlbn hT hT0
 conv=>arg 2;whnf
 go_loopw [14] (fun a wr=>∃(gas k:Nat)(own':Nat→Prop)(st:St)(tp:List V),a= .int .i64 k∧k<g.ins.length∧RBlkAt base mc own P fuel d p.globs.length fb tb nt lvk lo gr #[.int .i64 g.params,.int .i64 nt,.slice LA g.locs.length lcap,.slice BA g.ins.length bcap] w wr own' st tp∧(fuel-st.steps).toNat<gas∧blocksF R fuel lo (blocksI g.ins) gas (k:Nat) st tp=T) (fun a wr=>(fuel-intOf ((wr.cell? ⟨mc,9,none⟩).getD undef)).toNat*(g.ins.length+1)+(g.ins.length-(intOf a).toNat))
 case atStart=>exact⟨gas0,k0,own0,st0,tp0,rfl,hk0,hB0,hgas0,HT.out⟩
 case round=>
  clear hB0 hk0 hgas0 HT;obtain⟨gas,k,own',st,tp,rfl,hk,hB,hgas,heq⟩:=hrel;obtain⟨gas',rfl⟩:∃g',gas=g'+1:=⟨gas-1,by omega⟩
  have HB:=Lib.hid hB;have HEQ:=Lib.hid heq;have hbse:=hB.mach.base;have hBr:Below base w wr:=hB.wr.below hbs (fun i hi=>(HOW.out i hi).1);obtain⟨bb,boff,x,rfl,hbb,hbk,b0,b1,b2,b3,b4,⟨sv,b5,hst⟩,hx0,hx1,hx2,hx3,hx4⟩:=(HBS.out.below hBr (Nat.le_refl _) (fun _ _ h=>h.below hBr (Nat.le_refl _))).get hk;simp only[Nat.add_zero]at b0 b1 b2 b3 b4 b5;obtain⟨SA,scap,hsv⟩:∃SA scap,sv= .slice SA x.arg.length scap:=(by obtain⟨A',c',h,_⟩:=hst;exact⟨_,_,h⟩)
  subst hsv;have hgmc:¬gr=mc:=fun e=>hB.gn (by rw[e];exact hB.mine);have hrmc:¬w.heap.size=mc:=fun e=>hB.rn.1 (by rw[e];exact hB.mine);have hbmc:¬bb=mc:=by omega
  have hbbl:bb<wr.heap.size:=by have:=hBr.size;omega
  have hkb:(k:Int)<(g.ins.length:Int):=by omega
  have hkle:(k:Int)≤8000:=by omega
  have hnbl:g.ins.length≤9223372036854775807:=HNB.out;have HBK:=Lib.hid hbk;have HST2:=Lib.hid hst;have HBR:=Lib.hid hBr;have HX3:=Lib.hid hx3;have HX4:=Lib.hid hx4;have hxm:=List.mem_of_getElem? hbk;have HXM:=Lib.hid hxm;have hiok:=HINS.out x hxm;have HIOK:=Lib.hid hiok;have HBSE:=Lib.hid hbse;have hmcb:=hbse.2.1;have hmcl:=hbse.2.2.1;have hcl:=hB.calls;have hlen:=hB.len;have HLEN:=Lib.hid hlen;have HCL:=Lib.hid hcl;have hop:=hiok.ops;have hgrl:=hB.grow.lt;have e3:=hB.grow.cell (j:=3) rfl;by_cases hy:(stepF fuel 1 st).1=true
  ·obtain⟨hk2,hlt5,hs6⟩:=stepF_yes hy;have HST:=Lib.hid (hy▸hs6▸rstep_any base mc own' P fuel 1 st wr hB.mach hB.inv.lo hB.inv.hi (by omega) (by omega) (by omega):Calls Tryz.prog 38 #[.pointer (some ⟨mc,0,none⟩),.int .i64 1] wr fun e w'=>e= .returned (.bool true)∧RMach w' base mc own' P fuel {st with steps:=st.steps+1}∧Wr (fun b=>b=mc) wr w');have HY:=Lib.hid hy;have HS6:=Lib.hid hs6;have HK2:=Lib.hid hk2;have hkp:=next_kept (p:=virtG p) (nt:=nt) (nl:=g.locs.length) (R:=R) (fuel:=fuel) (lo:=lo) (l:=g.ins) (x:=x) (k:=k) (s:=st) (tp:=tp) HRK.out hB.inv hB.frok HLEN.out HLOL.out (fun hst=>stepI_ok HVIN.out HNT.out HPA.out HXM.out hst HIOK.out);have HKP:=Lib.hid hkp
   have hb5:∀w5,RMach w5 base mc own' P fuel {st with steps:=st.steps+1}→Wr (fun b=>b=mc) wr w5→RBlkAt base mc own P fuel d p.globs.length fb tb nt lvk lo gr #[.int .i64 g.params,.int .i64 nt,.slice LA g.locs.length lcap,.slice (some ⟨bb,boff,none⟩) g.ins.length bcap] w (w5.alloc (.cells #[.int .i64 x.op,.int .i64 x.dst,.int .i64 x.a,.int .i64 x.b,.int .i64 x.n,.slice SA x.arg.length scap] 43)) own' {st with steps:=st.steps+1} tp:=fun w5 hm hw=>
    (hB.mach' hw hm (hB.inv.step1 (by omega)) hB.frok (Nat.le_refl _) hB.calls).below (below1 _ _)
   have HB5:=Lib.hid hb5;clear hB heq hBr hbk hst hx0 hx1 hx2 hx3 hx4 hxm hiok hbse hcl hlen hy hs6 hk2 hkp hb5;by_cases h17:x.op=17
   ·obtain⟨ma,hma⟩:=Int.eq_ofNat_of_zero_le (HIOK.out.a (by omega)).1;have hma2:ma<tp.length:=by have:=(HIOK.out.a (by omega)).2;have:=HNT.out;have:=HLEN.out;omega
    obtain⟨v,hv,hgd⟩:=tp_get hma2;have HV:=Lib.hid hv;have HGD:=Lib.hid hgd;have HMA:=Lib.hid hma;clear hv hgd hma;have t17:(x.op==17)=true:=by simp;omega
    have t15:(x.op==15)=false:=by simp;omega
    have t16:(x.op==16)=false:=by simp;omega
    have H17:=Lib.hid h17;clear h17;go_wp2_with(go_at_call 38;refine HST.out.mono ?_;rintro e w5 ⟨rfl,hM5,hw5⟩;have q3:=(HB.out.grow.wr hw5 hgmc).cell (j:=3) rfl;have q4:=(HB.out.grow.wr hw5 hgmc).lt;have d0:=cell_wrR b0 hw5 hbbl hbmc;have d1:=cell_wrR b1 hw5 hbbl hbmc;have d2:=cell_wrR b2 hw5 hbbl hbmc;have d3:=cell_wrR b3 hw5 hbbl hbmc;have d4:=cell_wrR b4 hw5 hbbl hbmc;have d5:=cell_wrR b5 hw5 hbbl hbmc;have dl:bb<w5.heap.size:=Nat.lt_of_lt_of_le hbbl hw5.size;have HB6:=Lib.hid (HB5.out w5 hM5 hw5);have HW5:=Lib.hid hw5;have hz5:=hw5.size;clear hM5 hw5);have hB6:=HB6.out
    have hlo2:∀z,z∈lo→z<st.mem.length:=fun z hz=>by have h2:=hB6.many (List.ne_nil_of_mem hz);have h3:=hB6.frok.locs z hz;have h4:=memBase_le st.mem;rw[memBase_of (by have h2':2≤(memBase st.mem).length:=h2;show 0<st.mem.length;omega)]at h3;exact h3
    refine rcall_kills base mc own' P fuel {st with steps:=st.steps+1} fb tb tp lvk lo _ hB6.mach hB6.fr hB6.off hlo2 (hB6.inv.mem.unbase.many) _ _ _ _ _ _ _ _ _ _ _ _ _ _ _ _ _ _ _ _ _ _ _ _ _ _ _ _ _ _ _ _ _ _ _ _ _ _ _ _ _ _ _ _ _ _ _ _ _ _ _ _ _ _ _ _ _ _ _ _ _ _ _ _ _ _ _ _ _ _ _ _ _ _ _ _ _ _ _ _ _ _ _ _ _ _ _ _ _ _ _ _ _ _ _ _ _ _ _ _ _ _ _ _ _ _ _ _ _ _ _ _ _ _ _ _ _ _ _ _ _ _ _ _ _ _ _ _ _ _ _ _ _ _ _ _ _ _ _ _ _ _ _ _ _ _ _ _ _ _ _ _ _ _ _ _ _ _ _ _ _ _ _ _ _ _ _ _ _ _ _ _ _ _ _ _ _ _ _ _ _ _ _ _ _ _ _ _ _ _ _ _ _ _ _ _ _ _ _ _ _ _ _ _ _ _ _ _ _ _ _ _ _ ?_;intro u16 u141 u142 u143 u144 u145 u146 u147 u148 u149 u150 u151 u152 u153 u154 u155 u156 u157 u158 u159 u160 u161 u162 u163 wk hMk hwk;have hxn:¬own' w5.heap.size:=fun ho=>by have:=(HBSE.out.2.2.2 _ ho).2;omega
    have hxk:=(Row.new w5 #[.int .i64 x.op,.int .i64 x.dst,.int .i64 x.a,.int .i64 x.b,.int .i64 x.n,.slice SA x.arg.length scap] 43).wr hwk hxn;have hfk:=hB6.fr.wr hwk hB6.off.fb.1 hB6.off.tb.1 (fun g' hg'=>(hB6.off.lv g' hg').1);have hrk:=hB6.rrow.wr hwk hB6.rn.1;have x2:=hxk.cell (j:=2) rfl;have xl:=hxk.lt;rw[HMA.out]at x2;have r0:wk.cell? ⟨w.heap.size,0,none⟩=some (.int .i64 0):=hrk.cell (j:=0) rfl;have r1:wk.cell? ⟨w.heap.size,1,none⟩=some (.int .i64 0):=hrk.cell (j:=1) rfl;have r2:=hrk.free 0;have r3:=hrk.free 1;have r4:=hrk.lt;have ft:=hfk.row.cell (j:=0) rfl;have ftl:=hfk.row.lt;obtain⟨cs,htr,hvi⟩:=id hfk.temps;obtain⟨tv0,tv1⟩:=hvi.2 ma _ HV.out;have t0:=htr.cell tv0;have t1:=htr.cell tv1;have htl:=htr.lt;have hfew:=hfk.few;have hmal:(ma:Int)<(tp.length:Int):=by omega
    have hma0:(0:Int)≤(ma:Int):=by omega
    clear htr hvi tv0 tv1;obtain⟨inv,outv,memv,rbk,hA⟩:=hMk;have e12:wk.cell? ⟨mc,12,none⟩=some (.int .i64 st.calls):=hA.row.cell (j:=12) rfl;have f12:=hA.row.free 12;have e12l:=hA.lt;have HMA2:=Lib.hid (hA.calls (st.calls-1));have hne1:¬mc=w.heap.size:=fun e=>hrmc e.symm;have hne2:¬fb=mc:=fun e=>hB6.off.fb.1 (by rw[e];exact hB6.mine);have hne3:¬tb=mc:=fun e=>hB6.off.tb.1 (by rw[e];exact hB6.mine);have hne4:¬w5.heap.size=mc:=by omega
    have hne5:¬fb=w.heap.size:=(fun e=>hfk.row.ne hrk (by decide) e)
    have hne6:¬tb=w.heap.size:=fun e=>hB6.rn.2 e.symm;have hne7:¬w5.heap.size=w.heap.size:=fun e=>by have:=hB6.rrow.lt;have:=HB.out.rrow.lt;omega
    have hcl0:0≤st.calls:=by rw[HCL.out];exact hd0
    have hcl1:st.calls≤64:=by rw[HCL.out];exact hd1
    have HWK:=Lib.hid hwk;have HHB6:=Lib.hid hB6;clear hxk hfk hrk hA hwk hB6 hlo2 hxn;go_wp2_with fail;refine still_tailq 8 (by kernel_rfl) (by kernel_rfl) ?_;simp only[List.take_succ_cons,List.take_zero,List.drop_succ_cons,List.drop_zero]
    repeat(go_big_quiet_step (fail))
    refine wpQuiet_nil ?_;go_wp2_with fail;refine HQ.out _ _ ?_;refine bodyPost_ret (v:=ansV (some v)) ?_ rfl ?_
    ·simp[results,Tryz.results24,go_sem,ansV,r0,r1,hrmc,hne1]
    ·have hnf:nextF R fuel lo g.ins st tp k x=(true,-1,{st with steps:=st.steps+1},tp):=by unfold nextF;rw[if_neg (by rw[HY.out];simp),if_pos H17.out,HS6.out]
     obtain⟨h2,_,_⟩:=goI_end (R:=R) (fuel:=fuel) (lo:=lo) (s:=st) (tp:=tp) HBK.out gas' H17.out (by rw[hnf]);rw[hnf,HMA.out,Int.toNat_natCast,HGD.out]at h2;rw[←HEQ.out,h2];refine(rcall_pair (some v) HHB6.out.up HHB6.out.down ⟨_,_,_,_,HMA2.out⟩ ((HHB6.out.wr.trans HWK.out (fun i hi=>HHB6.out.down i hi)).trans (Wr.setCell (F:=fun b=>b=mc) wk ⟨mc,12,none⟩ _ rfl) (fun i hi=>?_)) HHB6.out.rn.1 hbs _ _).below (Below.refl _ _).drew;rcases HHB6.out.down mc HHB6.out.mine with h|h
     ·exact Or.inl (hi▸h)
     ·exact Or.inr (hi▸h)
   by_cases h15:x.op=15
   ·have t17:(x.op==17)=false:=by simp;omega
    have t15:(x.op==15)=true:=by simp;omega
    have t16:(x.op==16)=false:=by simp;omega
    have H15:=Lib.hid h15;clear h15;go_wp2_with(go_at_call 38;refine HST.out.mono ?_;rintro e w5 ⟨rfl,hM5,hw5⟩;have q3:=(HB.out.grow.wr hw5 hgmc).cell (j:=3) rfl;have q4:=(HB.out.grow.wr hw5 hgmc).lt;have d0:=cell_wrR b0 hw5 hbbl hbmc;have d1:=cell_wrR b1 hw5 hbbl hbmc;have d2:=cell_wrR b2 hw5 hbbl hbmc;have d3:=cell_wrR b3 hw5 hbbl hbmc;have d4:=cell_wrR b4 hw5 hbbl hbmc;have d5:=cell_wrR b5 hw5 hbbl hbmc;have dl:bb<w5.heap.size:=Nat.lt_of_lt_of_le hbbl hw5.size;have HB6:=Lib.hid (HB5.out w5 hM5 hw5);have HW5:=Lib.hid hw5;have hz5:=hw5.size;clear hM5 hw5);refine wp_world (fun X hX=>?_);have hB6:RBlkAt base mc own P fuel d p.globs.length fb tb nt lvk lo gr #[.int .i64 g.params,.int .i64 nt,.slice LA g.locs.length lcap,.slice (some ⟨bb,boff,none⟩) g.ins.length bcap] w X own' {st with steps:=st.steps+1} tp:=hX▸HB6.out
    have hXB:Row X w5.heap.size #[.int .i64 x.op,.int .i64 x.dst,.int .i64 x.a,.int .i64 x.b,.int .i64 x.n,.slice SA x.arg.length scap] 43:=hX▸Row.new _ _ _;have hXl:=hXB.lt;clear hX;have hli:labI g.ins x.n=true:=by
     have:=HIOK.out.num;simpa [numberI,H15.out]using this
    have hrg:=layB_range HLAY.out hli;obtain⟨nn,hnn⟩:=Int.eq_ofNat_of_zero_le hrg.1;have hlk:labK g.ins g.ins.length nn=(labN g.ins x.n:Nat):=by
     rw[labK_N HLAY.out _ (Nat.le_refl _) nn (by rw[List.take_length,←hnn];exact hli),hnn]
    have hnn8:(nn:Int)<8000:=by omega
    have hnn0:(0:Int)≤(nn:Int):=by omega
    have hkl:=labN_lt hli;have m3:X.cell? ⟨mc,3,none⟩=some (.slice (some ⟨ab,0,none⟩) p.funcs.length ac):=by obtain⟨_,_,_,_,hm⟩:=hB6.mach;rw[←HAT.out];exact hm.row.cell (j:=3) rfl
    have m3l:mc<X.heap.size:=hB6.mach.base.2.2.1;have a0:=cell_wrR HLB0.out hB6.wr habl HLN.out.1;have a0l:ab<X.heap.size:=Nat.lt_of_lt_of_le habl hB6.wr.size;obtain⟨cl,hclr,hcls,hclv⟩:=HLB1.out.wr hB6.wr HLN.out.2;have l0:=hclr.cell (hclv nn (by omega));rw[hlk]at l0;have l0l:=hclr.lt;have x4:=hXB.cell (j:=4) rfl;rw[hnn]at x4;have hfl0:(0:Int)≤(f:Int):=by omega
    have hfl1:(f:Int)<(p.funcs.length:Int):=by omega
    have HLI:=Lib.hid hli;have HKL:=Lib.hid hkl;have HHB6:=Lib.hid hB6;have HXB:=Lib.hid hXB;obtain⟨kk,hkk⟩:∃kk:Nat,kk=labN g.ins x.n:=⟨_,rfl⟩
    rw[←hkk]at l0;have HKK:=Lib.hid hkk;clear hli hrg hnn hlk hclr hclv hkk hkl hB6 hXB;refine still_tailq 11 (by kernel_rfl) (by kernel_rfl) ?_;simp only[List.take_succ_cons,List.take_zero,List.drop_succ_cons,List.drop_zero]
    repeat(go_big_quiet_step (fail))
    refine wpQuiet_nil ?_;go_wp2_with fail;go_roundw
    case rel=>
     refine⟨gas',kk,own',{st with steps:=st.steps+1},tp,rfl,by rw[HKK.out];exact HKL.out,HHB6.out.below (Below.refl _ _).drew,by show(fuel-(st.steps+1)).toNat<gas';omega,?_⟩;have h2:=goI_jump (R:=R) (fuel:=fuel) (lo:=lo) (s:=st) (tp:=tp) HBK.out H15.out gas' HY.out;rw[HS6.out]at h2;rw[←HEQ.out,HKK.out,h2]
    case measure=>
     rw[(HHB6.out.below (Below.refl _ _).drew).mach.steps,HB.out.mach.steps];show(fuel-(st.steps+1)).toNat*(g.ins.length+1)+(g.ins.length-(kk:Int).toNat)<(fuel-st.steps).toNat*(g.ins.length+1)+(g.ins.length-(k:Int).toNat);have hd:(fuel-st.steps).toNat=(fuel-(st.steps+1)).toNat+1:=by omega
     rw[hd,Nat.add_mul];omega
   by_cases h16:x.op=16
   ·obtain⟨ma,hma⟩:=Int.eq_ofNat_of_zero_le (HIOK.out.a (by omega)).1;have hma2:ma<tp.length:=by have:=(HIOK.out.a (by omega)).2;have:=HNT.out;have:=HLEN.out;omega
    obtain⟨v,hv,hgd⟩:=tp_get hma2;have HV:=Lib.hid hv;have HGD:=Lib.hid hgd;have HMA:=Lib.hid hma;clear hv hgd hma;have t17:(x.op==17)=false:=by simp;omega
    have t15:(x.op==15)=false:=by simp;omega
    have t16:(x.op==16)=true:=by simp;omega
    have H16:=Lib.hid h16;clear h16;go_wp2_with(go_at_call 38;refine HST.out.mono ?_;rintro e w5 ⟨rfl,hM5,hw5⟩;have q3:=(HB.out.grow.wr hw5 hgmc).cell (j:=3) rfl;have q4:=(HB.out.grow.wr hw5 hgmc).lt;have d0:=cell_wrR b0 hw5 hbbl hbmc;have d1:=cell_wrR b1 hw5 hbbl hbmc;have d2:=cell_wrR b2 hw5 hbbl hbmc;have d3:=cell_wrR b3 hw5 hbbl hbmc;have d4:=cell_wrR b4 hw5 hbbl hbmc;have d5:=cell_wrR b5 hw5 hbbl hbmc;have dl:bb<w5.heap.size:=Nat.lt_of_lt_of_le hbbl hw5.size;have HB6:=Lib.hid (HB5.out w5 hM5 hw5);have HW5:=Lib.hid hw5;have hz5:=hw5.size;clear hM5 hw5);refine wp_world (fun X hX=>?_);have hB6:RBlkAt base mc own P fuel d p.globs.length fb tb nt lvk lo gr #[.int .i64 g.params,.int .i64 nt,.slice LA g.locs.length lcap,.slice (some ⟨bb,boff,none⟩) g.ins.length bcap] w X own' {st with steps:=st.steps+1} tp:=hX▸HB6.out
    have hXB:Row X w5.heap.size #[.int .i64 x.op,.int .i64 x.dst,.int .i64 x.a,.int .i64 x.b,.int .i64 x.n,.slice SA x.arg.length scap] 43:=hX▸Row.new _ _ _;have hXl:=hXB.lt;clear hX;have ft:=hB6.fr.row.cell (j:=0) rfl;have ftl:=hB6.fr.row.lt;obtain⟨cs,htr,hvi⟩:=id hB6.fr.temps;obtain⟨tv0,tv1⟩:=hvi.2 ma _ HV.out;have t0:=htr.cell tv0;have t1:=htr.cell tv1;have htl:=htr.lt;have hfew:=hB6.fr.few;have hmal:(ma:Int)<(tp.length:Int):=by omega
    have hma0:(0:Int)≤(ma:Int):=by omega
    clear htr hvi tv0 tv1;have x2:=hXB.cell (j:=2) rfl;rw[HMA.out]at x2;by_cases hv0:v=⟨0,0⟩
    ·subst hv0;have t0:X.cell? ⟨tb,ma*2,none⟩=some (.int .i64 0):=t0;have t1:X.cell? ⟨tb,ma*2+1,none⟩=some (.int .i64 0):=t1;have HHB6:=Lib.hid hB6;clear hB6 hXB;refine wp_region_quiet_lit (by kernel_rfl) (by kernel_rfl) ?_
     repeat(go_big_quiet_step (fail))
     refine wpQuiet_nil ?_;intro Wq hwq;obtain⟨nq,hwq⟩:=hwq;subst hwq;go_wp2_with fail;go_roundw
     case rel=>
      refine⟨gas',k+1,own',{st with steps:=st.steps+1},tp,by go_num,last_more HLAST.out HBK.out h15 (by have:=H16.out;omega) h17,HHB6.out.below (below_drewN (Below.refl _ _) _),by show(fuel-(st.steps+1)).toNat<gas';omega,?_⟩;have h2:=goI_branch (R:=R) (fuel:=fuel) (lo:=lo) (s:=st) (tp:=tp) HBK.out H16.out gas' HY.out;rw[HS6.out,HMA.out,Int.toNat_natCast,HGD.out,if_pos rfl]at h2;rw[←HEQ.out,h2]
     case measure=>
      rw[(HHB6.out.below (below_drewN (Below.refl _ _) _)).mach.steps,HB.out.mach.steps];show(fuel-(st.steps+1)).toNat*(g.ins.length+1)+(g.ins.length-((k:Int)+1).toNat)<(fuel-st.steps).toNat*(g.ins.length+1)+(g.ins.length-(k:Int).toNat);have hd:(fuel-st.steps).toNat=(fuel-(st.steps+1)).toNat+1:=by omega
      rw[hd,Nat.add_mul];omega
    ·have HV0:=Lib.hid hv0;clear hv0;have hli:labI g.ins x.n=true:=by
      have:=HIOK.out.num;simpa [numberI,H16.out]using this
     have hrg:=layB_range HLAY.out hli;obtain⟨nn,hnn⟩:=Int.eq_ofNat_of_zero_le hrg.1;have hlk:labK g.ins g.ins.length nn=(labN g.ins x.n:Nat):=by
      rw[labK_N HLAY.out _ (Nat.le_refl _) nn (by rw[List.take_length,←hnn];exact hli),hnn]
     have hnn8:(nn:Int)<8000:=by omega
     have hnn0:(0:Int)≤(nn:Int):=by omega
     have hkl:=labN_lt hli;have m3:X.cell? ⟨mc,3,none⟩=some (.slice (some ⟨ab,0,none⟩) p.funcs.length ac):=by obtain⟨_,_,_,_,hm⟩:=hB6.mach;rw[←HAT.out];exact hm.row.cell (j:=3) rfl
     have m3l:mc<X.heap.size:=hB6.mach.base.2.2.1;have a0:=cell_wrR HLB0.out hB6.wr habl HLN.out.1;have a0l:ab<X.heap.size:=Nat.lt_of_lt_of_le habl hB6.wr.size;obtain⟨cl,hclr,hcls,hclv⟩:=HLB1.out.wr hB6.wr HLN.out.2;have l0:=hclr.cell (hclv nn (by omega));rw[hlk]at l0;have l0l:=hclr.lt;have x4:=hXB.cell (j:=4) rfl;rw[hnn]at x4;have hfl0:(0:Int)≤(f:Int):=by omega
     have hfl1:(f:Int)<(p.funcs.length:Int):=by omega
     have HLI:=Lib.hid hli;have HKL:=Lib.hid hkl;have HHB6:=Lib.hid hB6;have HXB:=Lib.hid hXB;obtain⟨kk,hkk⟩:∃kk:Nat,kk=labN g.ins x.n:=⟨_,rfl⟩
     rw[←hkk]at l0;have HKK:=Lib.hid hkk;clear hli hrg hnn hlk hclr hclv hkk hkl hB6 hXB;by_cases ho:v.obj=0
     ·have hn:¬v.n=0:=fun e=>HV0.out (vzero ho e);rw[ho]at t0;have t0:X.cell? ⟨tb,ma*2,none⟩=some (.int .i64 0):=t0;clear ho;refine wp_region_quiet_lit (by kernel_rfl) (by kernel_rfl) ?_
      repeat(go_big_quiet_step (fail))
      refine wpQuiet_nil ?_;intro Wq hwq;obtain⟨nq,hwq⟩:=hwq;subst hwq;go_wp2_with fail;refine still_tailq 11 (by kernel_rfl) (by kernel_rfl) ?_;simp only[List.take_succ_cons,List.take_zero,List.drop_succ_cons,List.drop_zero]
      repeat(go_big_quiet_step (fail))
      refine wpQuiet_nil ?_;go_wp2_with fail;go_roundw
      case rel=>
       refine⟨gas',kk,own',{st with steps:=st.steps+1},tp,rfl,by rw[HKK.out];exact HKL.out,(HHB6.out.below (below_drewN (Below.refl _ _) nq)).below (Below.refl _ _).drew,by show(fuel-(st.steps+1)).toNat<gas';omega,?_⟩;have h2:=goI_branch (R:=R) (fuel:=fuel) (lo:=lo) (s:=st) (tp:=tp) HBK.out H16.out gas' HY.out;rw[HS6.out,HMA.out,Int.toNat_natCast,HGD.out,if_neg HV0.out]at h2;rw[←HEQ.out,HKK.out,h2]
      case measure=>
       rw[((HHB6.out.below (below_drewN (Below.refl _ _) nq)).below (Below.refl _ _).drew).mach.steps,HB.out.mach.steps];show(fuel-(st.steps+1)).toNat*(g.ins.length+1)+(g.ins.length-(kk:Int).toNat)<(fuel-st.steps).toNat*(g.ins.length+1)+(g.ins.length-(k:Int).toNat);have hd:(fuel-st.steps).toNat=(fuel-(st.steps+1)).toNat+1:=by omega
       rw[hd,Nat.add_mul];omega
     ·refine wp_region_quiet_lit (by kernel_rfl) (by kernel_rfl) ?_
      repeat(go_big_quiet_step (fail))
      refine wpQuiet_nil ?_;intro Wq hwq;obtain⟨nq,hwq⟩:=hwq;subst hwq;go_wp2_with fail;refine still_tailq 11 (by kernel_rfl) (by kernel_rfl) ?_;simp only[List.take_succ_cons,List.take_zero,List.drop_succ_cons,List.drop_zero]
      repeat(go_big_quiet_step (fail))
      refine wpQuiet_nil ?_;go_wp2_with fail;go_roundw
      case rel=>
       refine⟨gas',kk,own',{st with steps:=st.steps+1},tp,rfl,by rw[HKK.out];exact HKL.out,(HHB6.out.below (below_drewN (Below.refl _ _) nq)).below (Below.refl _ _).drew,by show(fuel-(st.steps+1)).toNat<gas';omega,?_⟩;have h2:=goI_branch (R:=R) (fuel:=fuel) (lo:=lo) (s:=st) (tp:=tp) HBK.out H16.out gas' HY.out;rw[HS6.out,HMA.out,Int.toNat_natCast,HGD.out,if_neg HV0.out]at h2;rw[←HEQ.out,HKK.out,h2]
      case measure=>
       rw[((HHB6.out.below (below_drewN (Below.refl _ _) nq)).below (Below.refl _ _).drew).mach.steps,HB.out.mach.steps];show(fuel-(st.steps+1)).toNat*(g.ins.length+1)+(g.ins.length-(kk:Int).toNat)<(fuel-st.steps).toNat*(g.ins.length+1)+(g.ins.length-(k:Int).toNat);have hd:(fuel-st.steps).toNat=(fuel-(st.steps+1)).toNat+1:=by omega
       rw[hd,Nat.add_mul];omega
   have t17:(x.op==17)=false:=by simp;omega
   have t15:(x.op==15)=false:=by simp;omega
   have t16:(x.op==16)=false:=by simp;omega
   go_wp2_with(go_at_call 38;refine HST.out.mono ?_;rintro e w5 ⟨rfl,hM5,hw5⟩;have q3:=(HB.out.grow.wr hw5 hgmc).cell (j:=3) rfl;have q4:=(HB.out.grow.wr hw5 hgmc).lt;have d0:=cell_wrR b0 hw5 hbbl hbmc;have d1:=cell_wrR b1 hw5 hbbl hbmc;have d2:=cell_wrR b2 hw5 hbbl hbmc;have d3:=cell_wrR b3 hw5 hbbl hbmc;have d4:=cell_wrR b4 hw5 hbbl hbmc;have d5:=cell_wrR b5 hw5 hbbl hbmc;have dl:bb<w5.heap.size:=Nat.lt_of_lt_of_le hbbl hw5.size;have HB6:=Lib.hid (HB5.out w5 hM5 hw5);have HW5:=Lib.hid hw5;have hz5:=hw5.size;clear hM5 hw5);have hBX:=HB6.out
   have hb6:Below base w (w5.alloc (.cells #[.int .i64 x.op,.int .i64 x.dst,.int .i64 x.a,.int .i64 x.b,.int .i64 x.n,.slice SA x.arg.length scap] 43)):=HBR.out.trans ((HW5.out.below (B:=base) (by have:=HBR.out.size;omega) (fun i hi=>by have:i=mc:=hi;omega)).trans ((below1 w5 (.cells #[.int .i64 x.op,.int .i64 x.dst,.int .i64 x.a,.int .i64 x.b,.int .i64 x.n,.slice SA x.arg.length scap] 43)).mono (by have:=HBR.out.size;omega)))
   have hD:=rdoes_any base mc fb tb own' P lvk fuel {st with steps:=st.steps+1} tp lo R p g x SA scap (w5.alloc (.cells #[.int .i64 x.op,.int .i64 x.dst,.int .i64 x.a,.int .i64 x.b,.int .i64 x.n,.slice SA x.arg.length scap] 43)) HIOK.out ⟨h15,h16,h17⟩ (by rw[HLEN.out];exact HNT.out) HLOL.out.symm HX3.out ((HST2.out.below ((HW5.out.below (B:=base) (by have:=HBR.out.size;omega) (fun i hi=>by have:i=mc:=hi;omega)).trans ((below1 w5 (.cells #[.int .i64 x.op,.int .i64 x.dst,.int .i64 x.a,.int .i64 x.b,.int .i64 x.n,.slice SA x.arg.length scap] 43)).mono (by have:=HBR.out.size;omega))) (Nat.le_refl _))) HPA.out hBX.mach hBX.fr hBX.off hBX.frok hBX.inv hf hng (HP.out.below hb6) (hBX.labs HL.out) (by show RCallOk p fuel st.calls R;rw[HCL.out];exact HC.out);have hkp:=HKP.out;rw[nextF_on HY.out ⟨h15,h16,h17⟩,HS6.out]at hkp
   have hnf:=nextF_on (R:=R) (lo:=lo) (l:=g.ins) (k:=k) (tp:=tp) HY.out ⟨h15,h16,h17⟩;rw[HS6.out]at hnf;obtain⟨ok,st',tp',haf⟩:∃ok st' tp',afterF R lo {st with steps:=st.steps+1} tp (stepI x)=(ok,st',tp'):=⟨_,_,_,rfl⟩
   rw[haf]at hD hkp hnf;simp only at hD hkp hnf;have HNF:=Lib.hid hnf;have HKP2:=Lib.hid hkp;clear hBX hb6 hkp hnf haf;refine hD.mono ?_;rintro e w7 hS;have he:=hS.1;simp only at he;subst he;have HS:=Lib.hid hS;clear hS;cases ok with
   |false=>
    obtain⟨own5,n1,n2,n3,n4,n5,n6⟩:=HB6.out.done HS.out;have r0:w7.cell? ⟨w.heap.size,0,none⟩=some (.int .i64 0):=n5.cell (j:=0) rfl;have r1:w7.cell? ⟨w.heap.size,1,none⟩=some (.int .i64 0):=n5.cell (j:=1) rfl;have r2:=n5.free 0;have r3:=n5.free 1;have r4:=n5.lt;have HN3:=Lib.hid n3;have HN4:=Lib.hid n4;have HN:=Lib.hid (And.intro n1 (And.intro n2 n6));clear n1 n2 n3 n4 n5 n6 HS hD;go_wp2_with fail;refine HQ.out _ _ ?_;refine bodyPost_ret (v:=ansV none) ?_ rfl ?_
    ·simp[results,Tryz.results24,go_sem,ansV,r0,r1,r4]
    ·have h2:=goI_false (R:=R) (fuel:=fuel) (lo:=lo) (s:=st) (tp:=tp) HBK.out gas' (by rw[HNF.out]);rw[HNF.out]at h2;rw[←HEQ.out,h2];exact rcall_pair none HN.out.1 HN.out.2.1 HN3.out HN4.out HN.out.2.2 hbs 0 0
   |true=>
    obtain⟨g',k',gt1,gt2,gt3,gt4,gt5⟩:=goI_true (R:=R) (fuel:=fuel) (lo:=lo) (s:=st) (tp:=tp) HBK.out (fun a b c=>last_more HLAST.out HBK.out a b c) (fun h=>lab_lt_of HIOK.out h) gas' h17 (by rw[HNF.out]);rw[HNF.out]at gt1 gt5;simp only at gt1 gt5;obtain⟨rfl,rfl⟩:=gt3 ⟨h15,h16,h17⟩;have hkp:=HKP2.out rfl;obtain⟨own3,hB7,_⟩:=HB6.out.does HS.out ⟨hkp.1.inv,hkp.2.1,hkp.1.calls,hkp.1.grow,hkp.2.2.1⟩ rfl;have HG7:=Lib.hid hkp.1;have HB7:=Lib.hid hB7;have HGT:=Lib.hid (And.intro gt2 gt5);clear hB7 gt1 gt2 gt3 gt4 gt5 hkp HS hD;go_wp2_with fail;go_roundw
    case rel=>
     refine⟨gas'+1,k+1,own3,st',tp',by go_num,HGT.out.1,HB7.out,?_,?_⟩
     ·have h1:=HG7.out.steps;omega
     ·rw[←HGT.out.2];exact HEQ.out
    case measure=>
     rw[HB7.out.mach.steps,HB.out.mach.steps];show(fuel-st'.steps).toNat*(g.ins.length+1)+(g.ins.length-((k:Int)+1).toNat)<(fuel-st.steps).toNat*(g.ins.length+1)+(g.ins.length-(k:Int).toNat);have h1:=HG7.out.steps;have h6:(fuel-st'.steps).toNat*(g.ins.length+1)≤(fuel-st.steps).toNat*(g.ins.length+1):=Nat.mul_le_mul_right _ (by omega);omega
  ·have hy3:(stepF fuel 1 st).1=false:=by simpa using hy
   have HST:=Lib.hid (hy3▸rstep_any base mc own' P fuel 1 st wr hB.mach hB.inv.lo hB.inv.hi (by omega) (by omega) (by omega):Calls Tryz.prog 38 #[.pointer (some ⟨mc,0,none⟩),.int .i64 1] wr fun e w'=>e= .returned (.bool false)∧RMach w' base mc own' P fuel (stepF fuel 1 st).2∧Wr (fun b=>b=mc) wr w');have HY3:=Lib.hid hy3;clear hB heq hBr hbk hst hx0 hx1 hx2 hx3 hx4 hxm hiok hbse hcl hlen hy hy3;go_wp2_with fail;refine HST.out.mono ?_;rintro e w5 ⟨rfl,hM5,hw5⟩;have n5:=HB.out.rrow.wr hw5 hrmc;have r0:w5.cell? ⟨w.heap.size,0,none⟩=some (.int .i64 0):=n5.cell (j:=0) rfl;have r1:w5.cell? ⟨w.heap.size,1,none⟩=some (.int .i64 0):=n5.cell (j:=1) rfl;have r2:=n5.free 0;have r3:=n5.free 1;have r4:=n5.lt;have HM5:=Lib.hid hM5;have HW5:=Lib.hid hw5;clear hM5 hw5 n5;go_wp2_with fail;refine HQ.out _ _ ?_
   refine bodyPost_ret (v:=ansV none) ?_ rfl ?_
   ·simp[results,Tryz.results24,go_sem,ansV,r0,r1,r4]
   ·have hnf:nextF R fuel lo g.ins st tp k x=(false,0,(stepF fuel 1 st).2,tp):=by unfold nextF;rw[if_pos HY3.out]
    have h2:=goI_false (R:=R) (fuel:=fuel) (lo:=lo) (s:=st) (tp:=tp) HBK.out gas' (by rw[hnf]);rw[hnf]at h2;rw[←HEQ.out,h2];exact rcall_pair none HB.out.up HB.out.down HM5.out (HB.out.wr.trans HW5.out (fun i hi=>(by rcases HB.out.down mc HB.out.mine with h|h;exact Or.inl (hi▸h);exact Or.inr (hi▸h)))) HB.out.rn.1 hbs 0 0
end Go.Proofs.YtlenilbkifofjaaGreatDoor
