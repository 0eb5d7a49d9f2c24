/- The graph's machine: a step: a number is put out; an exit; a store. Conditions: as stated. The graph's machine: a step: a store. Conditions: as stated. The graph's machine: a step: a call. Conditions: as stated. The graph's machine: a step, whole. Conditions: as stated. The graph's machine: the state between a block's steps. Conditions: as stated. 'copy' of a row of values into a row that is known whole. No program in sight but its name. No condition. -/
import Derived.Test.YtikbdplllopjlaaGreatQ07Zz
import Derived.Laws.CopyOwn
set_option linter.unusedVariables false
set_option linter.unusedSimpArgs false
set_option maxHeartbeats 8000000
set_option maxRecDepth 100000
open Go.Proofs.Tryz
namespace Go.Proofs.YtikbdplllopjlaaGreat
open Go.RowKit
theorem cD.keep{w w':World}{ai fb tb rb:Nat}{own:Nat->Prop}{tp:List V}{lv gv:Value}{lo:List Nat}(h:cD w fb tb tp lv lo)(hO:mQ ai own rb fb tb lv gv)(hw:Wr own w w'):cD w' fb tb tp lv lo:=
 h.wr hw hO.GD.1 hO.Dp.1 (λg hg=>(hO.E0 g hg).1)
theorem NN{w:World}{b o:Nat}{v:V}(h:w.cell? ⟨b,o,none⟩=some (.int .i64 v.obj))(hv:v.obj=0):w.cell? ⟨b,o,none⟩=some (.int .i64 0):=by
 rw[hv]at h;exact h
theorem Lv(ai cb hb rb fb tb:Nat)(own:Nat->Prop)(P:Value×Value×Value)(gv lv:Value)(ah:Int)(s:St)(tp:List V)(lo:List Nat)(ng:Nat)(R:cC)(dst size fn:Int)(ks:List T)(A:Option Addr)(n aA:Nat)(w:World)
  (h:gS w ai own cb hb ah s)(hR:jS w rb cb hb P gv ng)(hF:cD w fb tb tp lv lo)(hO:mQ ai own rb fb tb lv gv)(gD:dW (au s.mem) tp lo ng)(hI:GInv ah s)(hf:ah<=100000000)(fH:fY tp.length lo.length ng ks)(hk:bC w ai ks A n)(hn:n<=1000)
  (hy:(aW ah 1 s).1=true)(l:List V)(he:aD s.mem tp lo ks=some l)(hl:l.length=1)(hv:(l.getD 0 ⟨0,0⟩).obj=0):
  Calls prog 64 #[.pointer (some ⟨rb,0,none⟩),.pointer (some ⟨fb,0,none⟩),.agg #[.int .i64 4,.int .i64 dst,.int .i64 size,.int .i64 fn,.slice A n aA]] w λe w'=>mH ai cb hb ah fb tb lv lo own (bu R ah lo s tp ⟨4,dst,size,fn,ks⟩) w e w':=by
 obtain⟨e1,kz⟩:=hI.tick (by omega) hy;rw[cF hy e1 he];have hres:ik R {s with steps:=s.steps+1} tp ⟨4,dst,size,fn,ks⟩ l=(true,{s with steps:=s.steps+1,out:=s.out++[(l.getD 0 ⟨0,0⟩).n]},tp):=by
  unfold ik;rw[if_neg (show¬(4:Int)=1 by decide),if_neg (show¬(4:Int)=2 by decide),if_neg (show¬(4:Int)=3 by decide),if_neg (show¬(4:Int)=5 by decide),if_neg (by omega),if_neg (show¬(4:Int)=6 by decide)]
 rw[hres];have hout:s.out.length<=1000000000:=by have:=hI.outs;have:=hI.hi;omega
 have df:=h.blocks;have hcb:=df.2.2 cb df.1;have rK:=hR.row.lt;have r0:=hR.row.cell (j:=0) rfl;have mN:rb≠cb:=λe=>hO.BN.1 (e▸df.1);have qN:=ae (iN (w:=w.alloc (.cells #[.int .i64 4,.int .i64 dst,.int .i64 size,.int .i64 fn,.slice A n aA] 96)) 1 (h.below (aj _ _)) hI.kind hf hI.lo hI.hi (by omega) (by omega));have HR:=ae hR;have HF:=ae hF;have HO:=ae hO;have dR:=ae df;have zO:rb<w.heap.size+1:=by omega
 have iL:=ae (Row.new w #[.int .i64 4,.int .i64 dst,.int .i64 size,.int .i64 fn,.slice A n aA] 96);rw[hy,e1]at qN;have BS:=ae gD;have nZ:=ae (And.intro fH he);have HK:=ae hk;have kE:ai<=w.heap.size:=by omega
 clear h hR hF hO gD hI fH hk df hy he e1 kz hres;go_enter func64,ntmps64;refine ak λQ HQ=>?_;go_wp2_with fail;refine qN.mono ?_;rintro e w1 ⟨rfl,qG,bT⟩;have sA:=ae qG;have hW1:Wr (λb=>b=cb) w w1:=(Wr.of_below (F:=λb=>b=cb) (aj w (.cells #[.int .i64 4,.int .i64 dst,.int .i64 size,.int .i64 fn,.slice A n aA] 96))).trans bT (λ_ h=>aH h);have dG:=ae hW1;have Ca:=hW1.size;have hx1:=bT.size;simp only[World.size_alloc]at hx1;have mW:¬w.heap.size=cb:=by omega
 have jc:=HR.wr hW1 mN (λg hg e=>(HO.zq g hg).1 (e▸dR.1));have iK:=ae jc;have jB:=ae (HF.wr hW1 (λe=>HO.GD.1 (e▸dR.1)) (λe=>HO.Dp.1 (e▸dR.1)) (λg hg e=>(HO.E0 g hg).1 (e▸dR.1)));have kA:=ae (iL.wr bT mW);have hx:=kA.out;have b4:=hx.cell (j:=4) rfl;have sI:=hx.lt;have p0:=jc.row.cell (j:=0) rfl;have AY:=jc.row.lt;clear qG bT hW1 jc hx r0;go_wp2_with fail;refine(iA (s:={s with steps:=s.steps+1}) ks A n aA sA.out iK.out jB.out BS.out nZ.1 (HK.below (dG.below kE (λk hk=>by subst hk;omega)) (aN _)) hn).mono ?_;intro e w2 hT;simp only[nZ.2,fJ]at hT;obtain⟨pv,rfl,hown2,hb2⟩:=hT;have B9:=hb2.size;have xU:=ae (sA.below hb2);have bL:=ae hb2;have jr:=ae hown2
 have jq:=ae (kA.below hb2 sI);have jX:=ae (iK.below hb2);have iy:=ae (jB.below hb2);have x0:=jq.cell (j:=0) rfl;have x1:=jq.cell (j:=1) rfl;have x2:=jq.cell (j:=2) rfl;have x3:=jq.cell (j:=3) rfl;have zN:=jq.lt;have p2:=jX.row.cell (j:=0) rfl;have p3:=jX.row.cell (j:=4) rfl;have Cf:=jX.row.lt;have Ce:rb<w2.heap.size+1:=by omega
 have Dt:w.heap.size<w2.heap.size+1:=by omega
 have gU:=ae (dG.trans (di hb2) (λ_ h=>h.elim));clear hb2 hown2 b4 p0;obtain⟨v,rfl⟩:∃v,l=[v]:=nH hl;obtain⟨g,iE,rfl,hg0,hg1,Be⟩:=bQ jr.out rfl (by simp);obtain⟨v0,v1⟩:=Be 0 v rfl;simp only[Nat.zero_mul,Nat.zero_add,List.length_singleton]at v0 v1;have hg3:g<w2.heap.size+1:=by omega
 have Fu:¬g=w2.heap.size:=by omega
 clear Be;have v0':=NN v0 hv;clear v0;go_wp2_with fail;refine bJ 7 (by kernel_rfl) (by kernel_rfl) ?_;simp only[List.take_succ_cons,List.take_zero,List.drop_succ_cons,List.drop_zero]
 repeat(go_big_quiet_step (fail))
 refine wpQuiet_nil ?_;go_wp2_with fail;refine(Uk v.n (xU.below (aj w2 (.cells #[.int .i64 0,.int .i64 0] 72)).drew) hout).mono ?_;rintro e w3 ⟨rfl,own',h1,h2,h3,h4⟩;have yC:=h4.size;simp only[World.size_drew,World.size_alloc]at yC;have yY:=ae (And.intro h1 (And.intro h2 h3));have lZ:=ae h4;clear h1 h2 h3 h4;go_wp2_with fail;refine HQ _ _ _ ?_;refine aR (v:= .bool true) (by simp[results,results64,go_sem]) rfl ⟨rfl,own',yY.1,λk hk=>?_,yY.2.2,λ_=>(iy.below (aj w2 (.cells #[.int .i64 0,.int .i64 0] 72)).drew).keep HO.out lZ.out,?_⟩
 ·rcases yY.2.1 k hk with h'|h'
  ·exact aH h'
  ·simp only[World.size_drew,World.size_alloc]at h';exact aT (by omega)
 ·exact(((gU.mono (λi hi=>aH (aH (hi▸dR.1)))).trans (di (aj w2 (.cells #[.int .i64 0,.int .i64 0] 72)).drew) (λ_ h=>h.elim)).trans lZ (λi hi=>aH (aH hi)))
theorem zT(ai cb hb rb fb tb:Nat)(own:Nat->Prop)(P:Value×Value×Value)(gv lv:Value)(ah:Int)(s:St)(tp:List V)(lo:List Nat)(ng:Nat)(R:cC)(dst size fn:Int)(ks:List T)(A:Option Addr)(n aA:Nat)(w:World)
  (h:gS w ai own cb hb ah s)(hR:jS w rb cb hb P gv ng)(hF:cD w fb tb tp lv lo)(hO:mQ ai own rb fb tb lv gv)(gD:dW (au s.mem) tp lo ng)(hI:GInv ah s)(hf:ah<=100000000)(fH:fY tp.length lo.length ng ks)(hk:bC w ai ks A n)(hn:n<=1000)
  (hy:(aW ah 1 s).1=true)(l:List V)(he:aD s.mem tp lo ks=some l)(hl:l.length=1)(hv:(l.getD 0 ⟨0,0⟩).obj≠0):
  Calls prog 64 #[.pointer (some ⟨rb,0,none⟩),.pointer (some ⟨fb,0,none⟩),.agg #[.int .i64 4,.int .i64 dst,.int .i64 size,.int .i64 fn,.slice A n aA]] w λe w'=>mH ai cb hb ah fb tb lv lo own (bu R ah lo s tp ⟨4,dst,size,fn,ks⟩) w e w':=by
 obtain⟨e1,kz⟩:=hI.tick (by omega) hy;rw[cF hy e1 he];have hres:ik R {s with steps:=s.steps+1} tp ⟨4,dst,size,fn,ks⟩ l=(false,{s with steps:=s.steps+1,kind:=3},tp):=by
  unfold ik;rw[if_neg (show¬(4:Int)=1 by decide),if_neg (show¬(4:Int)=2 by decide),if_neg (show¬(4:Int)=3 by decide),if_neg (show¬(4:Int)=5 by decide),if_pos (by omega)]
 rw[hres];have df:=h.blocks;have hcb:=df.2.2 cb df.1;have rK:=hR.row.lt;have r0:=hR.row.cell (j:=0) rfl;have mN:rb≠cb:=λe=>hO.BN.1 (e▸df.1);have qN:=ae (iN (w:=w.alloc (.cells #[.int .i64 4,.int .i64 dst,.int .i64 size,.int .i64 fn,.slice A n aA] 96)) 1 (h.below (aj _ _)) hI.kind hf hI.lo hI.hi (by omega) (by omega));have HR:=ae hR;have HF:=ae hF;have HO:=ae hO;have dR:=ae df;have zO:rb<w.heap.size+1:=by omega
 have iL:=ae (Row.new w #[.int .i64 4,.int .i64 dst,.int .i64 size,.int .i64 fn,.slice A n aA] 96);rw[hy,e1]at qN;have BS:=ae gD;have nZ:=ae (And.intro fH he);have HK:=ae hk;have kE:ai<=w.heap.size:=by omega
 clear h hR hF hO gD hI fH hk df hy he e1 kz hres;go_enter func64,ntmps64;refine ak λQ HQ=>?_;go_wp2_with fail;refine qN.mono ?_;rintro e w1 ⟨rfl,qG,bT⟩;have sA:=ae qG;have hW1:Wr (λb=>b=cb) w w1:=(Wr.of_below (F:=λb=>b=cb) (aj w (.cells #[.int .i64 4,.int .i64 dst,.int .i64 size,.int .i64 fn,.slice A n aA] 96))).trans bT (λ_ h=>aH h);have dG:=ae hW1;have Ca:=hW1.size;have hx1:=bT.size;simp only[World.size_alloc]at hx1;have mW:¬w.heap.size=cb:=by omega
 have jc:=HR.wr hW1 mN (λg hg e=>(HO.zq g hg).1 (e▸dR.1));have iK:=ae jc;have jB:=ae (HF.wr hW1 (λe=>HO.GD.1 (e▸dR.1)) (λe=>HO.Dp.1 (e▸dR.1)) (λg hg e=>(HO.E0 g hg).1 (e▸dR.1)));have kA:=ae (iL.wr bT mW);have hx:=kA.out;have b4:=hx.cell (j:=4) rfl;have sI:=hx.lt;have p0:=jc.row.cell (j:=0) rfl;have AY:=jc.row.lt;clear qG bT hW1 jc hx r0;go_wp2_with fail;refine(iA (s:={s with steps:=s.steps+1}) ks A n aA sA.out iK.out jB.out BS.out nZ.1 (HK.below (dG.below kE (λk hk=>by subst hk;omega)) (aN _)) hn).mono ?_;intro e w2 hT;simp only[nZ.2,fJ]at hT;obtain⟨pv,rfl,hown2,hb2⟩:=hT;have B9:=hb2.size;have xU:=ae (sA.below hb2);have bL:=ae hb2;have jr:=ae hown2
 have jq:=ae (kA.below hb2 sI);have jX:=ae (iK.below hb2);have iy:=ae (jB.below hb2);have x0:=jq.cell (j:=0) rfl;have x1:=jq.cell (j:=1) rfl;have x2:=jq.cell (j:=2) rfl;have x3:=jq.cell (j:=3) rfl;have zN:=jq.lt;have p2:=jX.row.cell (j:=0) rfl;have p3:=jX.row.cell (j:=4) rfl;have Cf:=jX.row.lt;have Ce:rb<w2.heap.size+1:=by omega
 have Dt:w.heap.size<w2.heap.size+1:=by omega
 have gU:=ae (dG.trans (di hb2) (λ_ h=>h.elim));clear hb2 hown2 b4 p0;obtain⟨v,rfl⟩:∃v,l=[v]:=nH hl;obtain⟨g,iE,rfl,hg0,hg1,Be⟩:=bQ jr.out rfl (by simp);obtain⟨v0,v1⟩:=Be 0 v rfl;simp only[Nat.zero_mul,Nat.zero_add,List.length_singleton]at v0 v1;have hg3:g<w2.heap.size+1:=by omega
 have Fu:¬g=w2.heap.size:=by omega
 clear Be;go_wp2_with fail;refine bJ 7 (by kernel_rfl) (by kernel_rfl) ?_;simp only[List.take_succ_cons,List.take_zero,List.drop_succ_cons,List.drop_zero]
 repeat(go_big_quiet_step (fail))
 refine wpQuiet_nil ?_;go_wp2_with fail;refine(EU v (xU.below (aj w2 (.cells #[.int .i64 0,.int .i64 0] 72)).drew) hv).mono ?_;rintro e w3 ⟨rfl,DI,hw3⟩;have yY:=ae DI;have lZ:=ae hw3;clear DI hw3;go_wp2_with fail;refine HQ _ _ _ ?_;exact aR (v:= .bool false) (by simp[results,results64,go_sem]) rfl ⟨rfl,own,λ_ h=>h,λ_ h=>aH h,yY.out,λh=>(by cases h),(((gU.mono (λi hi=>aH (aH (hi▸dR.1)))).trans (di (aj w2 (.cells #[.int .i64 0,.int .i64 0] 72)).drew) (λ_ h=>h.elim)).trans lZ (λi hi=>aH (aH (hi▸dR.1))))⟩
theorem IU(ai cb hb rb fb tb:Nat)(own:Nat->Prop)(P:Value×Value×Value)(gv lv:Value)(ah:Int)(s:St)(tp:List V)(lo:List Nat)(ng:Nat)(R:cC)(dst size fn:Int)(ks:List T)(A:Option Addr)(n aA:Nat)(w:World)
  (h:gS w ai own cb hb ah s)(hR:jS w rb cb hb P gv ng)(hF:cD w fb tb tp lv lo)(hO:mQ ai own rb fb tb lv gv)(gD:dW (au s.mem) tp lo ng)(hI:GInv ah s)(hf:ah<=100000000)(fH:fY tp.length lo.length ng ks)(hk:bC w ai ks A n)(hn:n<=1000)
  (hy:(aW ah 1 s).1=true)(l:List V)(he:aD s.mem tp lo ks=some l)(hl:l.length=1):
  Calls prog 64 #[.pointer (some ⟨rb,0,none⟩),.pointer (some ⟨fb,0,none⟩),.agg #[.int .i64 6,.int .i64 dst,.int .i64 size,.int .i64 fn,.slice A n aA]] w λe w'=>mH ai cb hb ah fb tb lv lo own (bu R ah lo s tp ⟨6,dst,size,fn,ks⟩) w e w':=by
 obtain⟨e1,kz⟩:=hI.tick (by omega) hy;rw[cF hy e1 he];have hres:ik R {s with steps:=s.steps+1} tp ⟨6,dst,size,fn,ks⟩ l=(false,(if(l.getD 0 ⟨0,0⟩).obj>0 then {s with steps:=s.steps+1,kind:=3}else {s with steps:=s.steps+1,code:=(l.getD 0 ⟨0,0⟩).n,kind:=1}),tp):=by
  unfold ik;rw[if_neg (show¬(6:Int)=1 by decide),if_neg (show¬(6:Int)=2 by decide),if_neg (show¬(6:Int)=3 by decide),if_neg (show¬(6:Int)=5 by decide)];split
  ·rfl
  ·rw[if_pos rfl]
 rw[hres];have df:=h.blocks;have hcb:=df.2.2 cb df.1;have rK:=hR.row.lt;have r0:=hR.row.cell (j:=0) rfl;have mN:rb≠cb:=λe=>hO.BN.1 (e▸df.1);have qN:=ae (iN (w:=w.alloc (.cells #[.int .i64 6,.int .i64 dst,.int .i64 size,.int .i64 fn,.slice A n aA] 96)) 1 (h.below (aj _ _)) hI.kind hf hI.lo hI.hi (by omega) (by omega));have HR:=ae hR;have HF:=ae hF;have HO:=ae hO;have dR:=ae df;have zO:rb<w.heap.size+1:=by omega
 have iL:=ae (Row.new w #[.int .i64 6,.int .i64 dst,.int .i64 size,.int .i64 fn,.slice A n aA] 96);rw[hy,e1]at qN;have BS:=ae gD;have nZ:=ae (And.intro fH he);have HK:=ae hk;have kE:ai<=w.heap.size:=by omega
 clear h hR hF hO gD hI fH hk df hy he e1 kz hres;go_enter func64,ntmps64;refine ak λQ HQ=>?_;go_wp2_with fail;refine qN.mono ?_;rintro e w1 ⟨rfl,qG,bT⟩;have sA:=ae qG;have hW1:Wr (λb=>b=cb) w w1:=(Wr.of_below (F:=λb=>b=cb) (aj w (.cells #[.int .i64 6,.int .i64 dst,.int .i64 size,.int .i64 fn,.slice A n aA] 96))).trans bT (λ_ h=>aH h);have dG:=ae hW1;have Ca:=hW1.size;have hx1:=bT.size;simp only[World.size_alloc]at hx1;have mW:¬w.heap.size=cb:=by omega
 have jc:=HR.wr hW1 mN (λg hg e=>(HO.zq g hg).1 (e▸dR.1));have iK:=ae jc;have jB:=ae (HF.wr hW1 (λe=>HO.GD.1 (e▸dR.1)) (λe=>HO.Dp.1 (e▸dR.1)) (λg hg e=>(HO.E0 g hg).1 (e▸dR.1)));have kA:=ae (iL.wr bT mW);have hx:=kA.out;have b4:=hx.cell (j:=4) rfl;have sI:=hx.lt;have p0:=jc.row.cell (j:=0) rfl;have AY:=jc.row.lt;clear qG bT hW1 jc hx r0;go_wp2_with fail;refine(iA (s:={s with steps:=s.steps+1}) ks A n aA sA.out iK.out jB.out BS.out nZ.1 (HK.below (dG.below kE (λk hk=>by subst hk;omega)) (aN _)) hn).mono ?_;intro e w2 hT;simp only[nZ.2,fJ]at hT;obtain⟨pv,rfl,hown2,hb2⟩:=hT;have B9:=hb2.size;have xU:=ae (sA.below hb2);have bL:=ae hb2;have jr:=ae hown2
 have jq:=ae (kA.below hb2 sI);have jX:=ae (iK.below hb2);have iy:=ae (jB.below hb2);have x0:=jq.cell (j:=0) rfl;have x1:=jq.cell (j:=1) rfl;have x2:=jq.cell (j:=2) rfl;have x3:=jq.cell (j:=3) rfl;have zN:=jq.lt;have p2:=jX.row.cell (j:=0) rfl;have p3:=jX.row.cell (j:=4) rfl;have Cf:=jX.row.lt;have Ce:rb<w2.heap.size+1:=by omega
 have Dt:w.heap.size<w2.heap.size+1:=by omega
 have gU:=ae (dG.trans (di hb2) (λ_ h=>h.elim));clear hb2 hown2 b4 p0;obtain⟨v,rfl⟩:∃v,l=[v]:=nH hl;obtain⟨g,iE,rfl,hg0,hg1,Be⟩:=bQ jr.out rfl (by simp);obtain⟨v0,v1⟩:=Be 0 v rfl;simp only[Nat.zero_mul,Nat.zero_add,List.length_singleton]at v0 v1;have hg3:g<w2.heap.size+1:=by omega
 have Fu:¬g=w2.heap.size:=by omega
 clear Be;go_wp2_with fail;refine bJ 7 (by kernel_rfl) (by kernel_rfl) ?_;simp only[List.take_succ_cons,List.take_zero,List.drop_succ_cons,List.drop_zero]
 repeat(go_big_quiet_step (fail))
 refine wpQuiet_nil ?_;go_wp2_with fail;refine(J8 v (xU.below (aj w2 (.cells #[.int .i64 0,.int .i64 0] 72)).drew)).mono ?_;rintro e w3 ⟨rfl,DI,hw3⟩;have yY:=ae DI;have lZ:=ae hw3;clear DI hw3;go_wp2_with fail;refine HQ _ _ _ ?_;exact aR (v:= .bool false) (by simp[results,results64,go_sem]) rfl ⟨rfl,own,λ_ h=>h,λ_ h=>aH h,yY.out,λh=>(by cases h),(((gU.mono (λi hi=>aH (aH (hi▸dR.1)))).trans (di (aj w2 (.cells #[.int .i64 0,.int .i64 0] 72)).drew) (λ_ h=>h.elim)).trans lZ (λi hi=>aH (aH (hi▸dR.1))))⟩
theorem FE(ai cb hb rb fb tb:Nat)(own:Nat->Prop)(P:Value×Value×Value)(gv lv:Value)(ah:Int)(s:St)(tp:List V)(lo:List Nat)(ng:Nat)(R:cC)(dst fn:Int)(sz:Nat)(ks:List T)(A:Option Addr)(n aA:Nat)(w:World)
  (h:gS w ai own cb hb ah s)(hR:jS w rb cb hb P gv ng)(hF:cD w fb tb tp lv lo)(hO:mQ ai own rb fb tb lv gv)(gD:dW (au s.mem) tp lo ng)(hI:GInv ah s)(hf:ah<=100000000)(fH:fY tp.length lo.length ng ks)(hk:bC w ai ks A n)(hn:n<=1000)
  (hy:(aW ah 1 s).1=true)(l:List V)(he:aD s.mem tp lo ks=some l)(qf:e9 ks)(hl:l.length=2)(hsz:sz=1\/sz=2\/sz=4\/sz=8)(M:List MO)(hst:cS s.mem (sz:Int) (l.getD 0 ⟨0,0⟩) (l.getD 1 ⟨0,0⟩)=some M):
  Calls prog 64 #[.pointer (some ⟨rb,0,none⟩),.pointer (some ⟨fb,0,none⟩),.agg #[.int .i64 2,.int .i64 dst,.int .i64 (sz:Int),.int .i64 fn,.slice A n aA]] w λe w'=>mH ai cb hb ah fb tb lv lo own (bu R ah lo s tp ⟨2,dst,(sz:Int),fn,ks⟩) w e w':=by
 obtain⟨e1,kz⟩:=hI.tick (by omega) hy;rw[cF hy e1 he];have hres:ik R {s with steps:=s.steps+1} tp ⟨2,dst,(sz:Int),fn,ks⟩ l=(match cS s.mem (sz:Int) (l.getD 0 ⟨0,0⟩) (l.getD 1 ⟨0,0⟩)with|some M=>(true,{s with steps:=s.steps+1,mem:=M},tp)|none=>(false,{s with steps:=s.steps+1,kind:=3},tp)):=by
  unfold ik;rw[if_neg (show¬(2:Int)=1 by decide),if_pos rfl];rfl
 rw[hres,hst];have df:=h.blocks;have hcb:=df.2.2 cb df.1;have rK:=hR.row.lt;have r0:=hR.row.cell (j:=0) rfl;have mN:rb≠cb:=λe=>hO.BN.1 (e▸df.1);have qN:=ae (iN (w:=w.alloc (.cells #[.int .i64 2,.int .i64 dst,.int .i64 (sz:Int),.int .i64 fn,.slice A n aA] 96)) 1 (h.below (aj _ _)) hI.kind hf hI.lo hI.hi (by omega) (by omega));have HR:=ae hR;have HF:=ae hF;have HO:=ae hO;have dR:=ae df;have zO:rb<w.heap.size+1:=by omega
 have iL:=ae (Row.new w #[.int .i64 2,.int .i64 dst,.int .i64 (sz:Int),.int .i64 fn,.slice A n aA] 96);rw[hy,e1]at qN;have BS:=ae gD;have nZ:=ae (And.intro fH he);have HK:=ae hk;have kE:ai<=w.heap.size:=by omega
 have gu:=iF hI.mem gD ks qf fH (by rw[eN];exact he);have yc:=ae gu;clear h hR hF hO gD hI fH hk df hy he e1 kz hres gu qf;go_enter func64,ntmps64;refine ak λQ HQ=>?_;go_wp2_with fail;refine qN.mono ?_;rintro e w1 ⟨rfl,qG,bT⟩;have sA:=ae qG;have hW1:Wr (λb=>b=cb) w w1:=(Wr.of_below (F:=λb=>b=cb) (aj w (.cells #[.int .i64 2,.int .i64 dst,.int .i64 (sz:Int),.int .i64 fn,.slice A n aA] 96))).trans bT (λ_ h=>aH h);have dG:=ae hW1;have Ca:=hW1.size;have hx1:=bT.size;simp only[World.size_alloc]at hx1;have mW:¬w.heap.size=cb:=by omega
 have jc:=HR.wr hW1 mN (λg hg e=>(HO.zq g hg).1 (e▸dR.1));have iK:=ae jc;have jB:=ae (HF.wr hW1 (λe=>HO.GD.1 (e▸dR.1)) (λe=>HO.Dp.1 (e▸dR.1)) (λg hg e=>(HO.E0 g hg).1 (e▸dR.1)));have kA:=ae (iL.wr bT mW);have hx:=kA.out;have b4:=hx.cell (j:=4) rfl;have sI:=hx.lt;have p0:=jc.row.cell (j:=0) rfl;have AY:=jc.row.lt;clear qG bT hW1 jc hx r0;go_wp2_with fail;refine(iA (s:={s with steps:=s.steps+1}) ks A n aA sA.out iK.out jB.out BS.out nZ.1 (HK.below (dG.below kE (λk hk=>by subst hk;omega)) (aN _)) hn).mono ?_;intro e w2 hT;simp only[nZ.2,fJ]at hT;obtain⟨pv,rfl,hown2,hb2⟩:=hT;have B9:=hb2.size;have xU:=ae (sA.below hb2);have bL:=ae hb2;have jr:=ae hown2
 have jq:=ae (kA.below hb2 sI);have jX:=ae (iK.below hb2);have iy:=ae (jB.below hb2);have x0:=jq.cell (j:=0) rfl;have x1:=jq.cell (j:=1) rfl;have x2:=jq.cell (j:=2) rfl;have x3:=jq.cell (j:=3) rfl;have zN:=jq.lt;have p2:=jX.row.cell (j:=0) rfl;have p3:=jX.row.cell (j:=4) rfl;have Cf:=jX.row.lt;have Ce:rb<w2.heap.size+1:=by omega
 have Dt:w.heap.size<w2.heap.size+1:=by omega
 have gU:=ae (dG.trans (di hb2) (λ_ h=>h.elim));clear hb2 hown2 b4 p0;obtain⟨va,vb,rfl⟩:∃va vb,l=[va,vb]:=Dl hl;obtain⟨g,iE,rfl,hg0,hg1,Be⟩:=bQ jr.out rfl (by simp);obtain⟨v0,v1⟩:=Be 0 va rfl;obtain⟨v2,v3⟩:=Be 1 vb rfl;simp only[Nat.zero_mul,Nat.zero_add,Nat.one_mul,List.length_cons,List.length_nil]at v0 v1 v2 v3;have hg3:g<w2.heap.size+1:=by omega
 have Fu:¬g=w2.heap.size:=by omega
 clear Be;have HST:=ae hst;clear hst;go_wp2_with fail;refine bJ 12 (by kernel_rfl) (by kernel_rfl) ?_;simp only[List.take_succ_cons,List.take_zero,List.drop_succ_cons,List.drop_zero]
 repeat(go_big_quiet_step (fail))
 refine wpQuiet_nil ?_;go_wp2_with fail;refine(EK sz va vb (xU.below (aj w2 (.cells #[.int .i64 0,.int .i64 0] 72)).drew) (yc.out va (by simp)) (yc.out vb (by simp)) hsz).mono ?_;intro e w3 hS;have Fj:cS s.mem (sz:Int) va vb=some M:=HST.out;simp only[su,Fj]at hS;obtain⟨rfl,DI,hw3⟩:=hS;have yY:=ae DI;have lZ:=ae hw3;clear DI hw3 Fj;go_wp2_with fail;refine HQ _ _ _ ?_
 exact aR (v:= .bool true) (by simp[results,results64,go_sem]) rfl ⟨rfl,own,λ_ h=>h,λ_ h=>aH h,yY.out,λ_=>(iy.below (aj w2 (.cells #[.int .i64 0,.int .i64 0] 72)).drew).keep HO.out lZ.out,(((gU.mono (λi hi=>aH (aH (hi▸dR.1)))).trans (di (aj w2 (.cells #[.int .i64 0,.int .i64 0] 72)).drew) (λ_ h=>h.elim)).trans lZ (λi hi=>aH (aH hi)))⟩
theorem xC(ai cb hb rb fb tb:Nat)(own:Nat->Prop)(P:Value×Value×Value)(gv lv:Value)(ah:Int)(s:St)(tp:List V)(lo:List Nat)(ng:Nat)(R:cC)(dst fn:Int)(sz:Nat)(ks:List T)(A:Option Addr)(n aA:Nat)(w:World)
  (h:gS w ai own cb hb ah s)(hR:jS w rb cb hb P gv ng)(hF:cD w fb tb tp lv lo)(hO:mQ ai own rb fb tb lv gv)(gD:dW (au s.mem) tp lo ng)(hI:GInv ah s)(hf:ah<=100000000)(fH:fY tp.length lo.length ng ks)(hk:bC w ai ks A n)(hn:n<=1000)
  (hy:(aW ah 1 s).1=true)(l:List V)(he:aD s.mem tp lo ks=some l)(qf:e9 ks)(hl:l.length=2)(hsz:sz=1\/sz=2\/sz=4\/sz=8)(hst:cS s.mem (sz:Int) (l.getD 0 ⟨0,0⟩) (l.getD 1 ⟨0,0⟩)=none):
  Calls prog 64 #[.pointer (some ⟨rb,0,none⟩),.pointer (some ⟨fb,0,none⟩),.agg #[.int .i64 2,.int .i64 dst,.int .i64 (sz:Int),.int .i64 fn,.slice A n aA]] w λe w'=>mH ai cb hb ah fb tb lv lo own (bu R ah lo s tp ⟨2,dst,(sz:Int),fn,ks⟩) w e w':=by
 obtain⟨e1,kz⟩:=hI.tick (by omega) hy;rw[cF hy e1 he];have hres:ik R {s with steps:=s.steps+1} tp ⟨2,dst,(sz:Int),fn,ks⟩ l=(match cS s.mem (sz:Int) (l.getD 0 ⟨0,0⟩) (l.getD 1 ⟨0,0⟩)with|some M=>(true,{s with steps:=s.steps+1,mem:=M},tp)|none=>(false,{s with steps:=s.steps+1,kind:=3},tp)):=by
  unfold ik;rw[if_neg (show¬(2:Int)=1 by decide),if_pos rfl];rfl
 rw[hres,hst];have df:=h.blocks;have hcb:=df.2.2 cb df.1;have rK:=hR.row.lt;have r0:=hR.row.cell (j:=0) rfl;have mN:rb≠cb:=λe=>hO.BN.1 (e▸df.1);have qN:=ae (iN (w:=w.alloc (.cells #[.int .i64 2,.int .i64 dst,.int .i64 (sz:Int),.int .i64 fn,.slice A n aA] 96)) 1 (h.below (aj _ _)) hI.kind hf hI.lo hI.hi (by omega) (by omega));have HR:=ae hR;have HF:=ae hF;have HO:=ae hO;have dR:=ae df;have zO:rb<w.heap.size+1:=by omega
 have iL:=ae (Row.new w #[.int .i64 2,.int .i64 dst,.int .i64 (sz:Int),.int .i64 fn,.slice A n aA] 96);rw[hy,e1]at qN;have BS:=ae gD;have nZ:=ae (And.intro fH he);have HK:=ae hk;have kE:ai<=w.heap.size:=by omega
 have gu:=iF hI.mem gD ks qf fH (by rw[eN];exact he);have yc:=ae gu;clear h hR hF hO gD hI fH hk df hy he e1 kz hres gu qf;go_enter func64,ntmps64;refine ak λQ HQ=>?_;go_wp2_with fail;refine qN.mono ?_;rintro e w1 ⟨rfl,qG,bT⟩;have sA:=ae qG;have hW1:Wr (λb=>b=cb) w w1:=(Wr.of_below (F:=λb=>b=cb) (aj w (.cells #[.int .i64 2,.int .i64 dst,.int .i64 (sz:Int),.int .i64 fn,.slice A n aA] 96))).trans bT (λ_ h=>aH h);have dG:=ae hW1;have Ca:=hW1.size;have hx1:=bT.size;simp only[World.size_alloc]at hx1;have mW:¬w.heap.size=cb:=by omega
 have jc:=HR.wr hW1 mN (λg hg e=>(HO.zq g hg).1 (e▸dR.1));have iK:=ae jc;have jB:=ae (HF.wr hW1 (λe=>HO.GD.1 (e▸dR.1)) (λe=>HO.Dp.1 (e▸dR.1)) (λg hg e=>(HO.E0 g hg).1 (e▸dR.1)));have kA:=ae (iL.wr bT mW);have hx:=kA.out;have b4:=hx.cell (j:=4) rfl;have sI:=hx.lt;have p0:=jc.row.cell (j:=0) rfl;have AY:=jc.row.lt;clear qG bT hW1 jc hx r0;go_wp2_with fail;refine(iA (s:={s with steps:=s.steps+1}) ks A n aA sA.out iK.out jB.out BS.out nZ.1 (HK.below (dG.below kE (λk hk=>by subst hk;omega)) (aN _)) hn).mono ?_;intro e w2 hT;simp only[nZ.2,fJ]at hT;obtain⟨pv,rfl,hown2,hb2⟩:=hT;have B9:=hb2.size;have xU:=ae (sA.below hb2);have bL:=ae hb2;have jr:=ae hown2
 have jq:=ae (kA.below hb2 sI);have jX:=ae (iK.below hb2);have iy:=ae (jB.below hb2);have x0:=jq.cell (j:=0) rfl;have x1:=jq.cell (j:=1) rfl;have x2:=jq.cell (j:=2) rfl;have x3:=jq.cell (j:=3) rfl;have zN:=jq.lt;have p2:=jX.row.cell (j:=0) rfl;have p3:=jX.row.cell (j:=4) rfl;have Cf:=jX.row.lt;have Ce:rb<w2.heap.size+1:=by omega
 have Dt:w.heap.size<w2.heap.size+1:=by omega
 have gU:=ae (dG.trans (di hb2) (λ_ h=>h.elim));clear hb2 hown2 b4 p0;obtain⟨va,vb,rfl⟩:∃va vb,l=[va,vb]:=Dl hl;obtain⟨g,iE,rfl,hg0,hg1,Be⟩:=bQ jr.out rfl (by simp);obtain⟨v0,v1⟩:=Be 0 va rfl;obtain⟨v2,v3⟩:=Be 1 vb rfl;simp only[Nat.zero_mul,Nat.zero_add,Nat.one_mul,List.length_cons,List.length_nil]at v0 v1 v2 v3;have hg3:g<w2.heap.size+1:=by omega
 have Fu:¬g=w2.heap.size:=by omega
 clear Be;have HST:=ae hst;clear hst;go_wp2_with fail;refine bJ 12 (by kernel_rfl) (by kernel_rfl) ?_;simp only[List.take_succ_cons,List.take_zero,List.drop_succ_cons,List.drop_zero]
 repeat(go_big_quiet_step (fail))
 refine wpQuiet_nil ?_;go_wp2_with fail;refine(EK sz va vb (xU.below (aj w2 (.cells #[.int .i64 0,.int .i64 0] 72)).drew) (yc.out va (by simp)) (yc.out vb (by simp)) hsz).mono ?_;intro e w3 hS;have Fj:cS s.mem (sz:Int) va vb=none:=HST.out;simp only[su,Fj]at hS;obtain⟨rfl,DI,hw3⟩:=hS;have hz3:=hw3.size;simp only[World.size_drew,World.size_alloc]at hz3;have yY:=ae DI;have lZ:=ae hw3;have hR3:=(jX.below (aj w2 (.cells #[.int .i64 0,.int .i64 0] 72)).drew).wr hw3 HO.BN.1 (λg hg=>(HO.zq g hg).1);have k0:=hR3.row.cell (j:=0) rfl;have kl:=hR3.row.lt;clear DI hw3 Fj hR3;go_wp2_with fail;refine(Aq yY.out).mono ?_;rintro e w4 ⟨rfl,YI,hw4⟩;have HH4:=ae YI;have VK:=ae hw4;clear YI hw4;go_wp2_with fail;refine HQ _ _ _ ?_
 exact aR (v:= .bool false) (by simp[results,results64,go_sem]) rfl ⟨rfl,own,λ_ h=>h,λ_ h=>aH h,HH4.out,λh=>(by cases h),((((gU.mono (λi hi=>aH (aH (hi▸dR.1)))).trans (di (aj w2 (.cells #[.int .i64 0,.int .i64 0] 72)).drew) (λ_ h=>h.elim)).trans lZ (λi hi=>aH (aH hi)))).trans VK (λi hi=>aH (aH (hi▸dR.1)))⟩
theorem mQ.up{w:World}{ai cb hb rb fb tb ng:Nat}{own own':Nat->Prop}{P:Value×Value×Value}{lv gv:Value}{tp:List V}{lo:List Nat}(h:mQ ai own rb fb tb lv gv)(hu:∀k,own' k->own k\/w.heap.size<=k)(hF:cD w fb tb tp lv lo)(hR:jS w rb cb hb P gv ng):mQ ai own' rb fb tb lv gv:=by
 have hl:=hF.lt;have hr:=hR.row.lt;have hn:∀k,¬own k->k<w.heap.size->¬own' k:=λk h1 h2 h3=>(hu k h3).elim h1 (λh=>by omega);refine⟨⟨hn _ h.BN.1 hr,h.BN.2⟩,⟨hn _ h.GD.1 hl.1,h.GD.2⟩,⟨hn _ h.Dp.1 hl.2,h.Dp.2⟩,λg hg=>?_,λg hg=>?_,h.ort⟩
 ·obtain⟨_,cs,eu⟩:=aC hF.az hg;exact⟨hn _ (h.E0 g hg).1 eu.lt,(h.E0 g hg).2⟩
 ·obtain⟨_,cs,eu⟩:=aC hR.ax hg;exact⟨hn _ (h.zq g hg).1 eu.lt,(h.zq g hg).2⟩
def nC(ai cb hb:Nat)(ah:Int)(own:Nat->Prop)(r:Option V×St)(w:World)(e:Ending)(w':World):Prop:=
 cH r.1 e/\∃own':Nat->Prop,(∀k,own k->own' k)/\(∀k,own' k->own k\/w.heap.size<=k)/\gS w' ai own' cb hb ah r.2/\Wr own w w'
def ru(p:aM)(ah c:Int)(R:cC):Prop:=
 ∀(f:Nat)(g:aP)(args:List V)(s:St)(ai cb hb rb:Nat)(own:Nat->Prop)(P:Value×Value×Value)(gv:Value)(AA:Option Addr)(an fX:Nat)(w:World),
  p.funcs[f]? =some g->(args.length:Int)=g.params->gS w ai own cb hb ah s->jS w rb cb hb P gv p.ax.length->bH w ai P p->(¬own rb/\ai<=rb)->(∀k,gv.ownBlock=some k->¬own k/\ai<=k)->GInv ah s->s.calls=c->p.ax.length<(au s.mem).length->(∀v,v∈args->lY (au s.mem).length v)->args.length=an->
  (∀j v,args[j]? =some v->∃b off,AA=some ⟨b,off,none⟩/\b<w.heap.size/\¬own b/\bg w b (off+j*2) v)->
  Calls prog 26 #[.pointer (some ⟨rb,0,none⟩),.int .i64 f,.slice AA an fX] w λe w'=>nC ai cb hb ah own (R f args s) w e w'
theorem zU(ai cb hb rb fb tb:Nat)(own:Nat->Prop)(P:Value×Value×Value)(gv lv:Value)(ah:Int)(s:St)(tp:List V)(lo:List Nat)(ng:Nat)(R:cC)(dst size:Int)(f:Nat)(ks:List T)(A:Option Addr)(n aA:Nat)(w:World)
  (h:gS w ai own cb hb ah s)(hR:jS w rb cb hb P gv ng)(hF:cD w fb tb tp lv lo)(hO:mQ ai own rb fb tb lv gv)(gD:dW (au s.mem) tp lo ng)(hI:GInv ah s)(hf:ah<=100000000)(fH:fY tp.length lo.length ng ks)(hk:bC w ai ks A n)(hn:n<=1000)
  (hy:(aW ah 1 s).1=true)(l:List V)(he:aD s.mem tp lo ks=some l)(p:aM)(g:aP)(hp:ng=p.ax.length)(qf:e9 ks)(hg:p.funcs[f]? =some g)(yF:(l.length:Int)=g.params)(hP:bH w ai P p)(dF:ru p ah s.calls R)(s2:St)(DD:R f l {s with steps:=s.steps+1}=(none,s2)):
  Calls prog 64 #[.pointer (some ⟨rb,0,none⟩),.pointer (some ⟨fb,0,none⟩),.agg #[.int .i64 3,.int .i64 dst,.int .i64 size,.int .i64 (f:Int),.slice A n aA]] w λe w'=>mH ai cb hb ah fb tb lv lo own (bu R ah lo s tp ⟨3,dst,size,(f:Int),ks⟩) w e w':=by
 obtain⟨e1,kz⟩:=hI.tick (by omega) hy;rw[cF hy e1 he];have hres:ik R {s with steps:=s.steps+1} tp ⟨3,dst,size,(f:Int),ks⟩ l=(match R f l {s with steps:=s.steps+1}with|(some v,s')=>(true,s',pN tp dst v)|(none,s')=>(false,s',tp)):=by
  unfold ik;rw[if_neg (show¬(3:Int)=1 by decide),if_neg (show¬(3:Int)=2 by decide),if_pos rfl];cases R (f:Int) l {s with steps:=s.steps+1}with
  |mk v s'=>cases v<;>rfl
 rw[hres,DD];subst hp;have df:=h.blocks;have hcb:=df.2.2 cb df.1;have rK:=hR.row.lt;have r0:=hR.row.cell (j:=0) rfl;have mN:rb≠cb:=λe=>hO.BN.1 (e▸df.1);have qN:=ae (iN (w:=w.alloc (.cells #[.int .i64 3,.int .i64 dst,.int .i64 size,.int .i64 (f:Int),.slice A n aA] 96)) 1 (h.below (aj _ _)) hI.kind hf hI.lo hI.hi (by omega) (by omega));have HR:=ae hR;have HF:=ae hF;have HO:=ae hO;have dR:=ae df;have zO:rb<w.heap.size+1:=by omega
 have iL:=ae (Row.new w #[.int .i64 3,.int .i64 dst,.int .i64 size,.int .i64 (f:Int),.slice A n aA] 96);rw[hy,e1]at qN;have BS:=ae gD;have nZ:=ae (And.intro fH he);have HK:=ae hk;have kE:ai<=w.heap.size:=by omega
 have gu:=iF hI.mem gD ks qf fH (by rw[eN];exact he);have yc:=ae gu;have Qo:=ae gD.ax;have JD:=ae kz;have HP:=ae hP;have HC:=ae dF;have HG:=ae (And.intro hg yF);have HTI:=ae qf;clear h hR hF hO gD hI fH hk df hy he e1 kz hres gu qf hg hP dF;go_enter func64,ntmps64;refine ak λQ HQ=>?_;go_wp2_with fail;refine qN.mono ?_;rintro e w1 ⟨rfl,qG,bT⟩;have sA:=ae qG;have hW1:Wr (λb=>b=cb) w w1:=(Wr.of_below (F:=λb=>b=cb) (aj w (.cells #[.int .i64 3,.int .i64 dst,.int .i64 size,.int .i64 (f:Int),.slice A n aA] 96))).trans bT (λ_ h=>aH h);have dG:=ae hW1;have Ca:=hW1.size;have hx1:=bT.size;simp only[World.size_alloc]at hx1;have mW:¬w.heap.size=cb:=by omega
 have jc:=HR.wr hW1 mN (λg hg e=>(HO.zq g hg).1 (e▸dR.1));have iK:=ae jc;have jB:=ae (HF.wr hW1 (λe=>HO.GD.1 (e▸dR.1)) (λe=>HO.Dp.1 (e▸dR.1)) (λg hg e=>(HO.E0 g hg).1 (e▸dR.1)));have kA:=ae (iL.wr bT mW);have hx:=kA.out;have b4:=hx.cell (j:=4) rfl;have sI:=hx.lt;have p0:=jc.row.cell (j:=0) rfl;have AY:=jc.row.lt;clear qG bT hW1 jc hx r0;go_wp2_with fail;refine(iA (s:={s with steps:=s.steps+1}) ks A n aA sA.out iK.out jB.out BS.out nZ.1 (HK.below (dG.below kE (λk hk=>by subst hk;omega)) (aN _)) hn).mono ?_;intro e w2 hT;simp only[nZ.2,fJ]at hT;obtain⟨pv,rfl,hown2,hb2⟩:=hT;have B9:=hb2.size;have xU:=ae (sA.below hb2);have bL:=ae hb2;have jr:=ae hown2
 have jq:=ae (kA.below hb2 sI);have jX:=ae (iK.below hb2);have iy:=ae (jB.below hb2);have x0:=jq.cell (j:=0) rfl;have x1:=jq.cell (j:=1) rfl;have x2:=jq.cell (j:=2) rfl;have x3:=jq.cell (j:=3) rfl;have zN:=jq.lt;have p2:=jX.row.cell (j:=0) rfl;have p3:=jX.row.cell (j:=4) rfl;have Cf:=jX.row.lt;have Ce:rb<w2.heap.size+1:=by omega
 have Dt:w.heap.size<w2.heap.size+1:=by omega
 have gU:=ae (dG.trans (di hb2) (λ_ h=>h.elim));clear hb2 hown2 b4 p0;obtain⟨PA,Nt,P5,XQ,Tx⟩:=qp jr.out rfl;subst P5;have eF:∀W,Below w2.heap.size w2 W->∀j v,l[j]? =some v->∃b off,PA=some ⟨b,off,none⟩/\b<W.heap.size/\¬own b/\bg W b (off+j*2) v:=by
  intro W hW j v hj;obtain⟨b,off,h1,h2,h3,h4⟩:=Tx j v hj;have Qd:=(jr.lt b h3).1;exact⟨b,off,h1,by have:=hW.size;omega,λho=>by have:=(dR.2.2 b ho).2;omega,h4.below hW h2⟩
 have ED:=ae (λW(hW:Below w2.heap.size w2 W)=>HC.out f g l {s with steps:=s.steps+1} ai cb hb rb own P gv PA l.length Nt W HG.1 HG.2 (xU.below hW) (jX.below hW) (HP.below ((gU.below kE (λk hk=>by subst hk;omega)).trans (hW.mono (by omega)))) HO.BN (λk hk=>⟨(HO.zq k hk).1,(HO.zq k hk).2.1⟩) JD.out rfl Qo.out yc.out rfl (eF W hW));have ZB:=ae DD;clear XQ Tx eF DD;go_wp2_with fail;refine(ED _ (aj w2 (.cells #[.int .i64 0,.int .i64 0] 72))).mono ?_;intro e w3 hS;rw[ZB.out]at hS;obtain⟨⟨y0,y1,rfl⟩,own',h1,h2,h3,h4⟩:=hS;have yC:=h4.size;simp only[World.size_alloc]at yC;have sL:¬own w2.heap.size:=λho=>by have:=(dR.2.2 _ ho).2;omega
 have gY:=(Row.new w2 #[.int .i64 0,.int .i64 0] 72).wr h4 sL;have z0:=gY.cell (j:=0) rfl;have z1:=gY.cell (j:=1) rfl;have z2:=gY.free 0;have z3:=gY.free 1;have zl:=gY.lt;have yY:=ae (And.intro h1 (And.intro h2 h3));have lZ:=ae h4;have Ch:¬own' w2.heap.size:=λho=>(by
  rcases h2 _ ho with h'|h'
  ·exact sL h'
  ·simp only[World.size_alloc]at h';omega)
 have Kl:=ae Ch;clear h1 h2 h3 h4 gY sL Ch;go_wp2_with fail;refine HQ _ _ _ ?_;have Lg:=eB w3 w2.heap.size 0 1 (.int .i64 y0) (.int .i64 y1);refine aR (v:= .bool false) (by simp[results,results64,go_sem]) rfl ⟨rfl,own',yY.1,λk hk=>?_,yY.2.2.wr Lg (λk hk=>(by subst hk;exact⟨by omega,Kl.out⟩)),λh=>(by cases h),?_⟩
 ·rcases yY.2.1 k hk with h'|h'
  ·exact aH h'
  ·simp only[World.size_alloc]at h';exact aT (by omega)
 ·exact((((gU.mono (λi hi=>aH (aH (hi▸dR.1)))).trans (di (aj w2 (.cells #[.int .i64 0,.int .i64 0] 72))) (λ_ h=>h.elim)).trans lZ (λi hi=>aH (aH hi)))).trans Lg (λi hi=>aT (by omega))
theorem zV(ai cb hb rb fb tb:Nat)(own:Nat->Prop)(P:Value×Value×Value)(gv lv:Value)(ah:Int)(s:St)(tp:List V)(lo:List Nat)(ng:Nat)(R:cC)(size:Int)(f:Nat)(ks:List T)(A:Option Addr)(n aA:Nat)(w:World)
  (h:gS w ai own cb hb ah s)(hR:jS w rb cb hb P gv ng)(hF:cD w fb tb tp lv lo)(hO:mQ ai own rb fb tb lv gv)(gD:dW (au s.mem) tp lo ng)(hI:GInv ah s)(hf:ah<=100000000)(fH:fY tp.length lo.length ng ks)(hk:bC w ai ks A n)(hn:n<=1000)
  (hy:(aW ah 1 s).1=true)(l:List V)(he:aD s.mem tp lo ks=some l)(p:aM)(g:aP)(hp:ng=p.ax.length)(qf:e9 ks)(hg:p.funcs[f]? =some g)(yF:(l.length:Int)=g.params)(hP:bH w ai P p)(dF:ru p ah s.calls R)(s2:St)(v:V)(DD:R f l {s with steps:=s.steps+1}=(some v,s2)):
  Calls prog 64 #[.pointer (some ⟨rb,0,none⟩),.pointer (some ⟨fb,0,none⟩),.agg #[.int .i64 3,.int .i64 (-1),.int .i64 size,.int .i64 (f:Int),.slice A n aA]] w λe w'=>mH ai cb hb ah fb tb lv lo own (bu R ah lo s tp ⟨3,(-1),size,(f:Int),ks⟩) w e w':=by
 obtain⟨e1,kz⟩:=hI.tick (by omega) hy;rw[cF hy e1 he];have hres:ik R {s with steps:=s.steps+1} tp ⟨3,(-1),size,(f:Int),ks⟩ l=(match R f l {s with steps:=s.steps+1}with|(some v,s')=>(true,s',pN tp (-1) v)|(none,s')=>(false,s',tp)):=by
  unfold ik;rw[if_neg (show¬(3:Int)=1 by decide),if_neg (show¬(3:Int)=2 by decide),if_pos rfl];cases R (f:Int) l {s with steps:=s.steps+1}with
  |mk v s'=>cases v<;>rfl
 rw[hres,DD];have qU:pN tp (-1) v=tp:=by unfold pN;rw[if_neg (by omega)]
 simp only[qU];subst hp;have df:=h.blocks;have hcb:=df.2.2 cb df.1;have rK:=hR.row.lt;have r0:=hR.row.cell (j:=0) rfl;have mN:rb≠cb:=λe=>hO.BN.1 (e▸df.1);have qN:=ae (iN (w:=w.alloc (.cells #[.int .i64 3,.int .i64 (-1),.int .i64 size,.int .i64 (f:Int),.slice A n aA] 96)) 1 (h.below (aj _ _)) hI.kind hf hI.lo hI.hi (by omega) (by omega));have HR:=ae hR;have HF:=ae hF;have HO:=ae hO;have dR:=ae df;have zO:rb<w.heap.size+1:=by omega
 have iL:=ae (Row.new w #[.int .i64 3,.int .i64 (-1),.int .i64 size,.int .i64 (f:Int),.slice A n aA] 96);rw[hy,e1]at qN;have BS:=ae gD;have nZ:=ae (And.intro fH he);have HK:=ae hk;have kE:ai<=w.heap.size:=by omega
 have gu:=iF hI.mem gD ks qf fH (by rw[eN];exact he);have yc:=ae gu;have Qo:=ae gD.ax;have JD:=ae kz;have HP:=ae hP;have HC:=ae dF;have HG:=ae (And.intro hg yF);have HTI:=ae qf;clear h hR hF hO gD hI fH hk df hy he e1 kz hres gu qf hg hP dF qU;go_enter func64,ntmps64;refine ak λQ HQ=>?_;go_wp2_with fail;refine qN.mono ?_;rintro e w1 ⟨rfl,qG,bT⟩;have sA:=ae qG;have hW1:Wr (λb=>b=cb) w w1:=(Wr.of_below (F:=λb=>b=cb) (aj w (.cells #[.int .i64 3,.int .i64 (-1),.int .i64 size,.int .i64 (f:Int),.slice A n aA] 96))).trans bT (λ_ h=>aH h);have dG:=ae hW1;have Ca:=hW1.size;have hx1:=bT.size;simp only[World.size_alloc]at hx1;have mW:¬w.heap.size=cb:=by omega
 have jc:=HR.wr hW1 mN (λg hg e=>(HO.zq g hg).1 (e▸dR.1));have iK:=ae jc;have jB:=ae (HF.wr hW1 (λe=>HO.GD.1 (e▸dR.1)) (λe=>HO.Dp.1 (e▸dR.1)) (λg hg e=>(HO.E0 g hg).1 (e▸dR.1)));have kA:=ae (iL.wr bT mW);have hx:=kA.out;have b4:=hx.cell (j:=4) rfl;have sI:=hx.lt;have p0:=jc.row.cell (j:=0) rfl;have AY:=jc.row.lt;clear qG bT hW1 jc hx r0;go_wp2_with fail;refine(iA (s:={s with steps:=s.steps+1}) ks A n aA sA.out iK.out jB.out BS.out nZ.1 (HK.below (dG.below kE (λk hk=>by subst hk;omega)) (aN _)) hn).mono ?_;intro e w2 hT;simp only[nZ.2,fJ]at hT;obtain⟨pv,rfl,hown2,hb2⟩:=hT;have B9:=hb2.size;have xU:=ae (sA.below hb2);have bL:=ae hb2;have jr:=ae hown2
 have jq:=ae (kA.below hb2 sI);have jX:=ae (iK.below hb2);have iy:=ae (jB.below hb2);have x0:=jq.cell (j:=0) rfl;have x1:=jq.cell (j:=1) rfl;have x2:=jq.cell (j:=2) rfl;have x3:=jq.cell (j:=3) rfl;have zN:=jq.lt;have p2:=jX.row.cell (j:=0) rfl;have p3:=jX.row.cell (j:=4) rfl;have Cf:=jX.row.lt;have Ce:rb<w2.heap.size+1:=by omega
 have Dt:w.heap.size<w2.heap.size+1:=by omega
 have gU:=ae (dG.trans (di hb2) (λ_ h=>h.elim));clear hb2 hown2 b4 p0;obtain⟨PA,Nt,P5,XQ,Tx⟩:=qp jr.out rfl;subst P5;have eF:∀W,Below w2.heap.size w2 W->∀j v,l[j]? =some v->∃b off,PA=some ⟨b,off,none⟩/\b<W.heap.size/\¬own b/\bg W b (off+j*2) v:=by
  intro W hW j v hj;obtain⟨b,off,h1,h2,h3,h4⟩:=Tx j v hj;have Qd:=(jr.lt b h3).1;exact⟨b,off,h1,by have:=hW.size;omega,λho=>by have:=(dR.2.2 b ho).2;omega,h4.below hW h2⟩
 have ED:=ae (λW(hW:Below w2.heap.size w2 W)=>HC.out f g l {s with steps:=s.steps+1} ai cb hb rb own P gv PA l.length Nt W HG.1 HG.2 (xU.below hW) (jX.below hW) (HP.below ((gU.below kE (λk hk=>by subst hk;omega)).trans (hW.mono (by omega)))) HO.BN (λk hk=>⟨(HO.zq k hk).1,(HO.zq k hk).2.1⟩) JD.out rfl Qo.out yc.out rfl (eF W hW));have ZB:=ae DD;clear XQ Tx eF DD;go_wp2_with fail;refine(ED _ (aj w2 (.cells #[.int .i64 0,.int .i64 0] 72))).mono ?_;intro e w3 hS;rw[ZB.out]at hS;simp only[nC,cH,aI]at hS;obtain⟨rfl,own',h1,h2,h3,h4⟩:=hS;have yC:=h4.size;simp only[World.size_alloc]at yC;have sL:¬own w2.heap.size:=λho=>by have:=(dR.2.2 _ ho).2;omega
 have gY:=(Row.new w2 #[.int .i64 0,.int .i64 0] 72).wr h4 sL;have z0:=gY.cell (j:=0) rfl;have z1:=gY.cell (j:=1) rfl;have z2:=gY.free 0;have z3:=gY.free 1;have zl:=gY.lt;have bR:¬own w.heap.size:=λho=>by have:=(dR.2.2 _ ho).2;omega
 have hx3:=(jq.below (aj w2 (.cells #[.int .i64 0,.int .i64 0] 72)) zN).wr h4 bR;have y1:=hx3.cell (j:=1) rfl;have hyl:=hx3.lt;have yY:=ae (And.intro h1 (And.intro h2 h3));have lZ:=ae h4;have Ch:¬own' w2.heap.size:=λho=>(by
  rcases h2 _ ho with h'|h'
  ·exact sL h'
  ·simp only[World.size_alloc]at h';omega)
 have Kl:=ae Ch;have nQ:=ae ((iy.below (aj w2 (.cells #[.int .i64 0,.int .i64 0] 72))).keep HO.out h4);have p9:=ae (λk(hk:own' k)=>(by
  rcases h2 k hk with h'|h'
  ·exact aH h'
  ·simp only[World.size_alloc]at h';exact aT (by omega):own k\/w.heap.size<=k))
 have WQ:¬w2.heap.size=w.heap.size:=by omega
 clear h1 h2 h3 h4 gY sL Ch hx3 bR x0 x1 x2 x3 p2 p3;go_wp2_with fail;refine HQ _ _ _ ?_;have Lg:=eB w3 w2.heap.size 0 1 (.int .i64 v.obj) (.int .i64 v.n);have hl:=HF.lt;refine aR (v:= .bool true) (by simp[results,results64,go_sem]) rfl ⟨rfl,own',yY.1,p9.out,yY.2.2.wr Lg (λk hk=>(by subst hk;exact⟨by omega,Kl.out⟩)),λ_=>nQ.wr Lg (by omega) (by omega) (λg hg=>?_),?_⟩
 ·obtain⟨_,cs,hr⟩:=aC HF.az hg;have:=hr.lt;omega
 ·exact((((gU.mono (λi hi=>aH (aH (hi▸dR.1)))).trans (di (aj w2 (.cells #[.int .i64 0,.int .i64 0] 72))) (λ_ h=>h.elim)).trans lZ (λi hi=>aH (aH hi)))).trans Lg (λi hi=>aT (by omega))
theorem Bk(ai cb hb rb fb tb:Nat)(own:Nat->Prop)(P:Value×Value×Value)(gv lv:Value)(ah:Int)(s:St)(tp:List V)(lo:List Nat)(ng:Nat)(R:cC)(size:Int)(m f:Nat)(ks:List T)(A:Option Addr)(n aA:Nat)(w:World)
  (h:gS w ai own cb hb ah s)(hR:jS w rb cb hb P gv ng)(hF:cD w fb tb tp lv lo)(hO:mQ ai own rb fb tb lv gv)(gD:dW (au s.mem) tp lo ng)(hI:GInv ah s)(hf:ah<=100000000)(fH:fY tp.length lo.length ng ks)(hk:bC w ai ks A n)(hn:n<=1000)
  (hy:(aW ah 1 s).1=true)(l:List V)(he:aD s.mem tp lo ks=some l)(Re:m<tp.length)(p:aM)(g:aP)(hp:ng=p.ax.length)(qf:e9 ks)(hg:p.funcs[f]? =some g)(yF:(l.length:Int)=g.params)(hP:bH w ai P p)(dF:ru p ah s.calls R)(s2:St)(v:V)(DD:R f l {s with steps:=s.steps+1}=(some v,s2)):
  Calls prog 64 #[.pointer (some ⟨rb,0,none⟩),.pointer (some ⟨fb,0,none⟩),.agg #[.int .i64 3,.int .i64 (m:Int),.int .i64 size,.int .i64 (f:Int),.slice A n aA]] w λe w'=>mH ai cb hb ah fb tb lv lo own (bu R ah lo s tp ⟨3,(m:Int),size,(f:Int),ks⟩) w e w':=by
 obtain⟨e1,kz⟩:=hI.tick (by omega) hy;rw[cF hy e1 he];have hres:ik R {s with steps:=s.steps+1} tp ⟨3,(m:Int),size,(f:Int),ks⟩ l=(match R f l {s with steps:=s.steps+1}with|(some v,s')=>(true,s',pN tp (m:Int) v)|(none,s')=>(false,s',tp)):=by
  unfold ik;rw[if_neg (show¬(3:Int)=1 by decide),if_neg (show¬(3:Int)=2 by decide),if_pos rfl];cases R (f:Int) l {s with steps:=s.steps+1}with
  |mk v s'=>cases v<;>rfl
 rw[hres,DD];simp only[Aw];subst hp;have df:=h.blocks;have hcb:=df.2.2 cb df.1;have rK:=hR.row.lt;have r0:=hR.row.cell (j:=0) rfl;have mN:rb≠cb:=λe=>hO.BN.1 (e▸df.1);have qN:=ae (iN (w:=w.alloc (.cells #[.int .i64 3,.int .i64 (m:Int),.int .i64 size,.int .i64 (f:Int),.slice A n aA] 96)) 1 (h.below (aj _ _)) hI.kind hf hI.lo hI.hi (by omega) (by omega));have HR:=ae hR;have HF:=ae hF;have HO:=ae hO;have dR:=ae df;have zO:rb<w.heap.size+1:=by omega
 have iL:=ae (Row.new w #[.int .i64 3,.int .i64 (m:Int),.int .i64 size,.int .i64 (f:Int),.slice A n aA] 96);rw[hy,e1]at qN;have BS:=ae gD;have nZ:=ae (And.intro fH he);have HK:=ae hk;have kE:ai<=w.heap.size:=by omega
 have gu:=iF hI.mem gD ks qf fH (by rw[eN];exact he);have yc:=ae gu;have Qo:=ae gD.ax;have JD:=ae kz;have HP:=ae hP;have HC:=ae dF;have HG:=ae (And.intro hg yF);have HTI:=ae qf;clear h hR hF hO gD hI fH hk df hy he e1 kz hres gu qf hg hP dF;go_enter func64,ntmps64;refine ak λQ HQ=>?_;go_wp2_with fail;refine qN.mono ?_;rintro e w1 ⟨rfl,qG,bT⟩;have sA:=ae qG;have hW1:Wr (λb=>b=cb) w w1:=(Wr.of_below (F:=λb=>b=cb) (aj w (.cells #[.int .i64 3,.int .i64 (m:Int),.int .i64 size,.int .i64 (f:Int),.slice A n aA] 96))).trans bT (λ_ h=>aH h);have dG:=ae hW1;have Ca:=hW1.size;have hx1:=bT.size;simp only[World.size_alloc]at hx1;have mW:¬w.heap.size=cb:=by omega
 have jc:=HR.wr hW1 mN (λg hg e=>(HO.zq g hg).1 (e▸dR.1));have iK:=ae jc;have jB:=ae (HF.wr hW1 (λe=>HO.GD.1 (e▸dR.1)) (λe=>HO.Dp.1 (e▸dR.1)) (λg hg e=>(HO.E0 g hg).1 (e▸dR.1)));have kA:=ae (iL.wr bT mW);have hx:=kA.out;have b4:=hx.cell (j:=4) rfl;have sI:=hx.lt;have p0:=jc.row.cell (j:=0) rfl;have AY:=jc.row.lt;clear qG bT hW1 jc hx r0;go_wp2_with fail;refine(iA (s:={s with steps:=s.steps+1}) ks A n aA sA.out iK.out jB.out BS.out nZ.1 (HK.below (dG.below kE (λk hk=>by subst hk;omega)) (aN _)) hn).mono ?_;intro e w2 hT;simp only[nZ.2,fJ]at hT;obtain⟨pv,rfl,hown2,hb2⟩:=hT;have B9:=hb2.size;have xU:=ae (sA.below hb2);have bL:=ae hb2;have jr:=ae hown2
 have jq:=ae (kA.below hb2 sI);have jX:=ae (iK.below hb2);have iy:=ae (jB.below hb2);have x0:=jq.cell (j:=0) rfl;have x1:=jq.cell (j:=1) rfl;have x2:=jq.cell (j:=2) rfl;have x3:=jq.cell (j:=3) rfl;have zN:=jq.lt;have p2:=jX.row.cell (j:=0) rfl;have p3:=jX.row.cell (j:=4) rfl;have Cf:=jX.row.lt;have Ce:rb<w2.heap.size+1:=by omega
 have Dt:w.heap.size<w2.heap.size+1:=by omega
 have gU:=ae (dG.trans (di hb2) (λ_ h=>h.elim));clear hb2 hown2 b4 p0;obtain⟨PA,Nt,P5,XQ,Tx⟩:=qp jr.out rfl;subst P5;have eF:∀W,Below w2.heap.size w2 W->∀j v,l[j]? =some v->∃b off,PA=some ⟨b,off,none⟩/\b<W.heap.size/\¬own b/\bg W b (off+j*2) v:=by
  intro W hW j v hj;obtain⟨b,off,h1,h2,h3,h4⟩:=Tx j v hj;have Qd:=(jr.lt b h3).1;exact⟨b,off,h1,by have:=hW.size;omega,λho=>by have:=(dR.2.2 b ho).2;omega,h4.below hW h2⟩
 have ED:=ae (λW(hW:Below w2.heap.size w2 W)=>HC.out f g l {s with steps:=s.steps+1} ai cb hb rb own P gv PA l.length Nt W HG.1 HG.2 (xU.below hW) (jX.below hW) (HP.below ((gU.below kE (λk hk=>by subst hk;omega)).trans (hW.mono (by omega)))) HO.BN (λk hk=>⟨(HO.zq k hk).1,(HO.zq k hk).2.1⟩) JD.out rfl Qo.out yc.out rfl (eF W hW));have ZB:=ae DD;clear XQ Tx eF DD;go_wp2_with fail;refine(ED _ (aj w2 (.cells #[.int .i64 0,.int .i64 0] 72))).mono ?_;intro e w3 hS;rw[ZB.out]at hS;simp only[nC,cH,aI]at hS;obtain⟨rfl,own',h1,h2,h3,h4⟩:=hS;have yC:=h4.size;simp only[World.size_alloc]at yC;have sL:¬own w2.heap.size:=λho=>by have:=(dR.2.2 _ ho).2;omega
 have gY:=(Row.new w2 #[.int .i64 0,.int .i64 0] 72).wr h4 sL;have z0:=gY.cell (j:=0) rfl;have z1:=gY.cell (j:=1) rfl;have z2:=gY.free 0;have z3:=gY.free 1;have zl:=gY.lt;have bR:¬own w.heap.size:=λho=>by have:=(dR.2.2 _ ho).2;omega
 have hx3:=(jq.below (aj w2 (.cells #[.int .i64 0,.int .i64 0] 72)) zN).wr h4 bR;have y1:=hx3.cell (j:=1) rfl;have hyl:=hx3.lt;have yY:=ae (And.intro h1 (And.intro h2 h3));have lZ:=ae h4;have Ch:¬own' w2.heap.size:=λho=>(by
  rcases h2 _ ho with h'|h'
  ·exact sL h'
  ·simp only[World.size_alloc]at h';omega)
 have Kl:=ae Ch;have nQ:=ae ((iy.below (aj w2 (.cells #[.int .i64 0,.int .i64 0] 72))).keep HO.out h4);have p9:=ae (λk(hk:own' k)=>(by
  rcases h2 k hk with h'|h'
  ·exact aH h'
  ·simp only[World.size_alloc]at h';exact aT (by omega):own k\/w.heap.size<=k))
 have WQ:¬w2.heap.size=w.heap.size:=by omega
 clear h1 h2 h3 h4 gY sL Ch hx3 bR x0 x1 x2 x3 p2 p3;have u0:=nQ.row.cell (j:=0) rfl;have ul:=nQ.row.lt;have ul2:=nQ.lt.2;obtain⟨cs,iR,jh⟩:=id nQ.ay;obtain⟨Nc,Nb⟩:=jh.2 m _ (List.getElem?_eq_getElem Re);have u1:=iR.cell Nc;have u2:=iR.cell Nb;have u3:=iR.free (m*2);have u4:=iR.free (m*2+1);have hl:=HF.lt;have une:¬tb=w2.heap.size:=by omega
 have une2:¬w2.heap.size=tb:=by omega
 have une3:¬w2.heap.size=fb:=by omega
 have mX:(0:Int)<=(m:Int):=by omega
 have mr:(m:Int)<(tp.length:Int):=by omega
 have XF:(tp.length:Int)<=1000000:=by have:=nQ.few;omega
 clear jh iR Nc Nb;go_wp2_with fail;refine bJ 8 (by kernel_rfl) (by kernel_rfl) ?_;simp only[List.take_succ_cons,List.take_zero,List.drop_succ_cons,List.drop_zero]
 repeat(go_big_quiet_step (fail))
 refine wpQuiet_nil ?_;go_wp2_with fail;refine HQ _ _ _ ?_;have Lg:=eB w3 w2.heap.size 0 1 (.int .i64 v.obj) (.int .i64 v.n);have hO':mQ ai own' rb fb tb lv gv:=mQ.up HO.out p9.out HF.out HR.out;have q1:=yY.2.2.wr Lg (λk hk=>(by subst hk;exact⟨by omega,Kl.out⟩));have q2:=nQ.wr Lg (by omega) (by omega) (λg hg=>(by
  obtain⟨_,cs,hr⟩:=aC HF.az hg;have:=hr.lt;omega))
 obtain⟨q3,q4,q5⟩:=Bo (w:=(w3.setCell ⟨w2.heap.size,0,none⟩ (.int .i64 v.obj)).setCell ⟨w2.heap.size,1,none⟩ (.int .i64 v.n)) q1 q2 hO' (Wr.refl _ _) (yY.1 _ dR.1) (bI _ _) m v;have q6:=((((gU.mono (G:=λb=>own b\/b=tb) (λi hi=>aH (aH (hi▸dR.1)))).trans (di (aj w2 (.cells #[.int .i64 0,.int .i64 0] 72))) (λ_ h=>h.elim)).trans lZ (λi hi=>aH (aH hi)))).trans Lg (λi hi=>aT (by omega));have q7:=q6.trans q5 (λi hi=>(by
  rcases hi with hi|hi
  ·rcases p9.out i hi with h'|h'
   ·exact aH (aH h')
   ·exact aT h'
  ·exact aH (aT hi)))
 exact aR (v:= .bool true) (by simp[results,results64,go_sem]) rfl ⟨rfl,own',yY.1,p9.out,q3.below (bI _ _).drew,λ_=>q4.below (bI _ _).drew,q7.gz⟩
theorem LB(ai cb hb rb fb tb:Nat)(own:Nat->Prop)(P:Value×Value×Value)(gv lv:Value)(ah:Int)(s:St)(tp:List V)(lo:List Nat)(R:cC)(p:aM)(x:cM)(A:Option Addr)(n aA:Nat)(w:World)
  (h:gS w ai own cb hb ah s)(hR:jS w rb cb hb P gv p.ax.length)(hF:cD w fb tb tp lv lo)(hO:mQ ai own rb fb tb lv gv)(gD:dW (au s.mem) tp lo p.ax.length)(hI:GInv ah s)(hf:ah<=100000000)
  (hx:sO p tp.length lo.length x)(hk:bC w ai x.args A n)(hP:bH w ai P p)(dF:ru p ah s.calls R):
  Calls prog 64 #[.pointer (some ⟨rb,0,none⟩),.pointer (some ⟨fb,0,none⟩),.agg #[.int .i64 x.op,.int .i64 x.to,.int .i64 x.size,.int .i64 x.fn,.slice A n aA]] w λe w'=>mH ai cb hb ah fb tb lv lo own (bu R ah lo s tp x) w e w':=by
 obtain⟨op,dst,size,fn,ks⟩:=x;obtain⟨fH,qf,hlen,hop⟩:=hx;simp only at fH qf hlen hop hk ⊢;have hn:n<=1000:=by have:=hk.1;omega
 by_cases hy:(aW ah 1 s).1=true
 ·cases he:aD s.mem tp lo ks with
  |none=>exact IQ ai cb hb rb fb tb own P gv lv ah s tp lo _ R op dst size fn ks A n aA w h hR hF hO gD hI hf fH hk hn hy he
  |some l=>
   have jb:=aK he;rcases hop with⟨rfl,h2,h3,h4⟩|⟨rfl,h2,rfl,h4⟩|⟨rfl,⟨f,g,rfl,h3,h4⟩,h5⟩|⟨rfl,h2,rfl⟩|⟨rfl,h2,h3,h4⟩|⟨rfl,h2,rfl⟩
   ·obtain⟨m,rfl⟩:=Int.eq_ofNat_of_zero_le h3;exact Lu ai cb hb rb fb tb own P gv lv ah s tp lo _ R size fn m ks A n aA w h hR hF hO gD hI hf fH hk hn hy l he (by omega) (by omega)
   ·obtain⟨sz,rfl⟩:∃sz:Nat,size=sz:=Int.eq_ofNat_of_zero_le (by omega);cases hst:cS s.mem (sz:Int) (l.getD 0 ⟨0,0⟩) (l.getD 1 ⟨0,0⟩)with
    |none=>exact xC ai cb hb rb fb tb own P gv lv ah s tp lo _ R (-1) fn sz ks A n aA w h hR hF hO gD hI hf fH hk hn hy l he qf (by omega) (by omega) hst
    |some M=>exact FE ai cb hb rb fb tb own P gv lv ah s tp lo _ R (-1) fn sz ks A n aA w h hR hF hO gD hI hf fH hk hn hy l he qf (by omega) (by omega) M hst
   ·rcases DD:R f l {s with steps:=s.steps+1}with⟨_|v,s2⟩
    ·exact zU ai cb hb rb fb tb own P gv lv ah s tp lo _ R dst size f ks A n aA w h hR hF hO gD hI hf fH hk hn hy l he p g rfl qf h3 (by rw[jb];exact h4) hP dF s2 DD
    ·rcases h5 with rfl|⟨h5,h6⟩
     ·exact zV ai cb hb rb fb tb own P gv lv ah s tp lo _ R size f ks A n aA w h hR hF hO gD hI hf fH hk hn hy l he p g rfl qf h3 (by rw[jb];exact h4) hP dF s2 v DD
     ·obtain⟨m,rfl⟩:=Int.eq_ofNat_of_zero_le h5;exact Bk ai cb hb rb fb tb own P gv lv ah s tp lo _ R size m f ks A n aA w h hR hF hO gD hI hf fH hk hn hy l he (by omega) p g rfl qf h3 (by rw[jb];exact h4) hP dF s2 v DD
   ·by_cases hv:(l.getD 0 ⟨0,0⟩).obj=0
    ·exact Lv ai cb hb rb fb tb own P gv lv ah s tp lo _ R (-1) size fn ks A n aA w h hR hF hO gD hI hf fH hk hn hy l he (by omega) hv
    ·exact zT ai cb hb rb fb tb own P gv lv ah s tp lo _ R (-1) size fn ks A n aA w h hR hF hO gD hI hf fH hk hn hy l he (by omega) hv
   ·obtain⟨m,rfl⟩:=Int.eq_ofNat_of_zero_le h3;exact Lx ai cb hb rb fb tb own P gv lv ah s tp lo _ R size fn m ks A n aA w h hR hF hO gD hI hf fH hk hn hy l he (by omega)
   ·exact IU ai cb hb rb fb tb own P gv lv ah s tp lo _ R (-1) size fn ks A n aA w h hR hF hO gD hI hf fH hk hn hy l he (by omega)
 ·exact Lz ai cb hb rb fb tb own P gv lv ah s tp lo _ R op dst size fn ks A n aA w h hR hF hO gD hI hf fH hk hn (by simpa using hy)
end Go.Proofs.YtikbdplllopjlaaGreat
namespace Go.Proofs.YtikbdplllopjlaaGreat
open Go.RowKit
def BJ:Goes->Int->Int->Int->Bool->Prop
 | .over,_,_,_,ok=>ok=false
 | .next j,k,_,_,ok=>ok=true/\k=j
 | .ret v,k,y0,y1,ok=>ok=true/\k= -1/\y0=v.obj/\y1=v.n
def vI(ai cb hb:Nat)(ah:Int)(fb tb:Nat)(lv:Value)(lo:List Nat)(own:Nat->Prop)(r:Goes×St×List V)(w:World)(e:Ending)(w':World):Prop:=
 ∃(k y0 y1:Int)(ok:Bool),e= .returned (.tuple #[.int .i64 k,.agg #[.int .i64 y0,.int .i64 y1],.bool ok])/\BJ r.1 k y0 y1 ok/\∃own':Nat->Prop,(∀k,own k->own' k)/\(∀k,own' k->own k\/w.heap.size<=k)/\gS w' ai own' cb hb ah r.2.1/\(ok=true->cD w' fb tb r.2.2 lv lo)/\Wr (λb=>own b\/b=tb) w w'
structure Eu (ai cb hb rb fb tb:Nat) (own:Nat->Prop) (ah:Int) (P:Value×Value×Value) (gv lv:Value) (lo:List Nat) (ng nt:Nat) (s:St) (bc:Array Value) (w:World) (bF:Nat->Prop) (st:St) (tp:List V) (wr:World):Prop where
 up:∀k,own k->bF k
 dn:∀k,bF k->own k\/w.heap.size+2<=k
 hc:gS wr ai bF cb hb ah st
 run:jS wr rb cb hb P gv ng
 fr:cD wr fb tb tp lv lo
 off:mQ ai bF rb fb tb lv gv
 nW:dW (au st.mem) tp lo ng
 kept:lF ah s st
 len:tp.length=nt
 box:Row wr w.heap.size bc 93
 val:Row wr (w.heap.size+1) #[.int .i64 0,.int .i64 0] 72
 yz:own cb
 KU:∀k,own k->k<w.heap.size
 Wi:tb<w.heap.size
 pos:ai<=w.heap.size
 wr:Wr (λb=>own b\/b=tb) w wr
section
variable {ai cb hb rb fb tb:Nat} {own:Nat->Prop} {ah:Int} {P:Value×Value×Value} {gv lv:Value} {lo:List Nat} {ng nt:Nat} {s:St} {bc:Array Value} {w:World} {bF:Nat->Prop} {st:St} {tp:List V} {wr wr':World}
theorem Eu.B5(h:Eu ai cb hb rb fb tb own ah P gv lv lo ng nt s bc w bF st tp wr):¬bF w.heap.size/\¬bF (w.heap.size+1):=
 ⟨λe=>by rcases h.dn _ e with h'|h';have:=h.KU _ h';omega;omega,λe=>by rcases h.dn _ e with h'|h';have:=h.KU _ h';omega;omega⟩
theorem Eu.below(h:Eu ai cb hb rb fb tb own ah P gv lv lo ng nt s bc w bF st tp wr)(aG:Below wr.heap.size wr wr'):Eu ai cb hb rb fb tb own ah P gv lv lo ng nt s bc w bF st tp wr':=
 ⟨h.up,h.dn,h.hc.below aG,h.run.below aG,h.fr.below aG,h.off,h.nW,h.kept,h.len,h.box.below aG h.box.lt,h.val.below aG h.val.lt,h.yz,h.KU,h.Wi,h.pos,h.wr.trans (di aG) (λ_ h=>h.elim)⟩
theorem Eu.YT(h:Eu ai cb hb rb fb tb own ah P gv lv lo ng nt s bc w bF st tp wr):Below ai w wr:=
 h.wr.below h.pos (λk hk=>by
  rcases hk with hk|rfl
  ·exact(h.hc.blocks.2.2 k (h.up k hk)).1
  ·exact h.off.Dp.2)
theorem Eu.step(h:Eu ai cb hb rb fb tb own ah P gv lv lo ng nt s bc w bF st tp wr){r:Bool×St×List V}{e:Ending}(hs:mH ai cb hb ah fb tb lv lo bF r wr e wr')(hr:r.1=true)(hk:lF ah st r.2.1/\dW (au r.2.1.mem) r.2.2 lo ng/\r.2.2.length=tp.length):
  ∃fS,Eu ai cb hb rb fb tb own ah P gv lv lo ng nt s bc w fS r.2.1 r.2.2 wr':=by
 obtain⟨_,fS,h1,h2,h3,h4,h5⟩:=hs;obtain⟨k1,k2,k3⟩:=hk;have hz:=h.val.lt;have hn:=h.B5;have uY:=h.Wi;refine⟨fS,λk hk=>h1 k (h.up k hk),λk hk=>?_,h3,h.run.wr h5 ?_ ?_,h4 hr,mQ.up h.off h2 h.fr h.run,k2,h.kept.trans k1,k3.trans h.len,h.box.wr h5 ?_,h.val.wr h5 ?_,h.yz,h.KU,h.Wi,h.pos,h.wr.trans h5 ?_⟩
 ·rcases h2 k hk with h'|h'
  ·exact h.dn k h'
  ·exact aT (by omega)
 ·rintro(h'|h')
  ·exact h.off.BN.1 h'
  ·exact h.off.ort h'
 ·rintro g hg (h'|h')
  ·exact(h.off.zq g hg).1 h'
  ·exact(h.off.zq g hg).2.2 h'
 ·rintro(h'|h')
  ·exact hn.1 h'
  ·omega
 ·rintro(h'|h')
  ·exact hn.2 h'
  ·omega
 ·rintro k (h'|h')
  ·rcases h.dn k h' with OP|OP
   ·exact aH (aH OP)
   ·exact aT (by omega)
  ·exact aH (aT h')
theorem Eu.stop(h:Eu ai cb hb rb fb tb own ah P gv lv lo ng nt s bc w bF st tp wr){r:Bool×St×List V}{e:Ending}(hs:mH ai cb hb ah fb tb lv lo bF r wr e wr'):
  (∃own':Nat->Prop,(∀k,own k->own' k)/\(∀k,own' k->own k\/w.heap.size<=k)/\(∀k,own' k->k≠w.heap.size+1)/\gS wr' ai own' cb hb ah r.2.1)/\Row wr' (w.heap.size+1) #[.int .i64 0,.int .i64 0] 72/\Wr (λb=>own b\/b=tb) w wr':=by
 obtain⟨_,fS,h1,h2,h3,h4,h5⟩:=hs;have hz:=h.val.lt;have hn:=h.B5;have uY:=h.Wi;refine⟨⟨fS,λk hk=>h1 k (h.up k hk),λk hk=>?_,λk hk=>?_,h3⟩,h.val.wr h5 ?_,h.wr.trans h5 ?_⟩
 ·rcases h2 k hk with h'|h'
  ·rcases h.dn k h' with OP|OP
   ·exact aH OP
   ·exact aT (by omega)
  ·exact aT (by omega)
 ·rcases h2 k hk with h'|h'
  ·rcases h.dn k h' with OP|OP
   ·have:=h.KU k OP;omega
   ·omega
  ·omega
 ·rintro(h'|h')
  ·exact hn.2 h'
  ·omega
 ·rintro k (h'|h')
  ·rcases h.dn k h' with OP|OP
   ·exact aH (aH OP)
   ·exact aT (by omega)
  ·exact aH (aT h')
theorem Eu.tick(h:Eu ai cb hb rb fb tb own ah P gv lv lo ng nt s bc w bF st tp wr){st':St}(hc:gS wr' ai bF cb hb ah st')(hw:Wr (λb=>b=cb) wr wr')(hm:st'.mem=st.mem)(hk:lF ah st st'):
  Eu ai cb hb rb fb tb own ah P gv lv lo ng nt s bc w bF st' tp wr':=by
 have df:=h.hc.blocks;have hz:=h.val.lt;have hcb:=h.KU cb h.yz;have hn:=h.B5;refine⟨h.up,h.dn,hc,h.run.wr hw (λe=>h.off.BN.1 (e▸df.1)) (λg hg e=>(h.off.zq g hg).1 (e▸df.1)),h.fr.wr hw (λe=>h.off.GD.1 (e▸df.1)) (λe=>h.off.Dp.1 (e▸df.1)) (λg hg e=>(h.off.E0 g hg).1 (e▸df.1)),h.off,by rw[hm];exact h.nW,h.kept.trans hk,h.len,h.box.wr hw (by omega),h.val.wr hw (by omega),h.yz,h.KU,h.Wi,h.pos,h.wr.trans hw (λk hk=>(by subst hk;exact aH (aH h.yz)))⟩
end
theorem CO{K:Act->World->Prop}{X Y:Exit->Act->World->Prop}{e:Exit}{a:Act}{w:World}(h:∀e a w,X e a w->Y e a w)(hx:Exit.then K X e a w):Exit.then K Y e a w:=by
 cases e<;>first|exact hx|exact h _ _ _ hx
theorem bU(w:World)(r:Nat)(a b:Value):Wr (λi=>i=r) w ((w.setCell ⟨r,0,none⟩ a).setCell ⟨r,1,none⟩ b):=eB w r 0 1 a b
theorem jD(w:World)(r:Nat)(a b:Value):Wr (λi=>i=r) w ((w.drew.setCell ⟨r,0,none⟩ a).setCell ⟨r,1,none⟩ b):=((Wr.refl _ w).gz).trans (bU w.drew r a b) (λ_ h=>aH h)
theorem rY{ai cb hb fb tb:Nat}{own:Nat->Prop}{ah:Int}{lv:Value}{lo:List Nat}{w W W':World}{st:St}{tp:List V}(fS:Nat->Prop)(m1:∀k,own k->fS k)(m2:∀k,fS k->own k\/w.heap.size<=k)(m3:∀k,fS k->k≠w.heap.size+1)(m4:gS W ai fS cb hb ah st)(hw:Wr (λb=>own b\/b=tb) w W)(kE:ai<=w.heap.size)(h2:Wr (λi=>i=w.heap.size+1) W W')(y0 y1:Int):
  vI ai cb hb ah fb tb lv lo own (.over,st,tp) w (.returned (.tuple #[.int .i64 0,.agg #[.int .i64 y0,.int .i64 y1],.bool false])) W':=by
 refine⟨0,y0,y1,false,rfl,rfl,fS,m1,m2,?_,λh=>(by cases h),hw.trans h2 (λk hk=>aT (by omega))⟩;exact m4.wr h2 (λk hk=>(by subst hk;exact⟨by omega,λh=>m3 _ h rfl⟩))
theorem Eu.fin{ai cb hb rb fb tb:Nat}{own:Nat->Prop}{ah:Int}{P:Value×Value×Value}{gv lv:Value}{lo:List Nat}{ng nt:Nat}{s:St}{bc:Array Value}{w:World}{bF:Nat->Prop}{st:St}{tp:List V}{W W':World}(h:Eu ai cb hb rb fb tb own ah P gv lv lo ng nt s bc w bF st tp W)(hw:Wr (λi=>i=w.heap.size+1) W W'){go:Goes}{k y0 y1:Int}(ha:BJ go k y0 y1 true)(hF:fb<w.heap.size)(hL:∀g,lv.ownBlock=some g->g<w.heap.size):
  vI ai cb hb ah fb tb lv lo own (go,st,tp) w (.returned (.tuple #[.int .i64 k,.agg #[.int .i64 y0,.int .i64 y1],.bool true])) W':=by
 have hn:=h.B5;have uY:=h.Wi;refine⟨k,y0,y1,true,rfl,ha,bF,h.up,λk hk=>?_,h.hc.wr hw ?_,λ_=>h.fr.wr hw (by omega) (by omega) (λg hg=>by have:=hL g hg;omega),h.wr.trans hw (λk hk=>aT (by omega))⟩
 ·rcases h.dn k hk with h'|h'
  ·exact aH h'
  ·exact aT (by omega)
 ·intro k hk;subst hk;exact⟨by have:=h.pos;omega,hn.2⟩
theorem Gb{R:cC}{ah:Int}{lo:List Nat}{s st:St}{tp iM:List V}{b:bW}(h:eL R ah lo s tp b.steps=(true,st,iM))(hy:(aW ah 1 st).1=false):dN R ah lo s tp b=(.over,(aW ah 1 st).2,iM):=by
 simp only[dN,h,hy,if_true]
theorem F9{R:cC}{ah:Int}{lo:List Nat}{s st:St}{tp iM:List V}{b:bW}(h:eL R ah lo s tp b.steps=(true,st,iM))(hy:(aW ah 1 st).1=true)(hf:b.fin=1):dN R ah lo s tp b=(.next b.next,(aW ah 1 st).2,iM):=by
 simp only[dN,h,hy,hf,if_true];rfl
theorem Ga{R:cC}{ah:Int}{lo:List Nat}{s st:St}{tp iM:List V}{b:bW}(h:eL R ah lo s tp b.steps=(true,st,iM))(hy:(aW ah 1 st).1=true)(hf:b.fin≠1)(hv:bZ (aW ah 1 st).2.mem iM lo b.cond=none):dN R ah lo s tp b=(.over,{(aW ah 1 st).2 with kind:=3},iM):=by
 simp only[dN,h,hy,hf,if_false,hv];rfl
theorem Jk{R:cC}{ah:Int}{lo:List Nat}{s st:St}{tp iM:List V}{b:bW}{v:V}(h:eL R ah lo s tp b.steps=(true,st,iM))(hy:(aW ah 1 st).1=true)(hf:b.fin=3)(hv:bZ (aW ah 1 st).2.mem iM lo b.cond=some v):dN R ah lo s tp b=(.ret v,(aW ah 1 st).2,iM):=by
 simp only[dN,h,hy,hf,hv];rfl
theorem p8{R:cC}{ah:Int}{lo:List Nat}{s st:St}{tp iM:List V}{b:bW}{v:V}(h:eL R ah lo s tp b.steps=(true,st,iM))(hy:(aW ah 1 st).1=true)(hf:b.fin=2)(hv:bZ (aW ah 1 st).2.mem iM lo b.cond=some v):dN R ah lo s tp b=(.next (if v=⟨0,0⟩then b.els else b.next),(aW ah 1 st).2,iM):=by
 simp only[dN,h,hy,hf,hv];rfl
end Go.Proofs.YtikbdplllopjlaaGreat
namespace Go.Proofs.YtikbdplllopjlaaGreat
open Go.RowKit
theorem FP(l:List V):∀(i:Nat)(u:Value),(bV l)[i]? =some u->∃v,l[i/2]? =some v/\((i%2=0/\u= .int .i64 v.obj)\/(i%2=1/\u= .int .i64 v.n)):=by
 induction l with
 |nil=>intro i u h;simp[bV]at h
 |cons v l ih=>
  intro i u h
  match i,h with
  |0,h=>simp[bV]at h;exact⟨v,by simp,aH ⟨rfl,h.symm⟩⟩
  |1,h=>simp[bV]at h;exact⟨v,by simp,aT ⟨rfl,h.symm⟩⟩
  |i+2,h=>
   simp only[bV,List.getElem?_cons_succ]at h;obtain⟨x,h1,h2⟩:=ih i u h;exact⟨x,by rw[show(i+2)/2=i/2+1 by omega,List.getElem?_cons_succ];exact h1,by rw[show(i+2)%2=i%2 by omega];exact h2⟩
theorem FO(l:List V):∀v∈bV l,v.oneCell'=true:=by
 intro u hu;obtain⟨i,hi⟩:=List.mem_iff_getElem?.1 hu;obtain⟨v,_,h⟩:=FP l i u hi;rcases h with⟨_,rfl⟩|⟨_,rfl⟩<;>rfl
theorem FN{w:World}{b off:Nat}{l:List V}(h:∀j v,l[j]? =some v->bg w b (off+j*2) v)(i:Nat)(u:Value)(hi:(bV l)[i]? =some u):w.cell? ((⟨b,off,none⟩:Addr).add i)=some u:=by
 have hadd:(⟨b,off,none⟩:Addr).add i=⟨b,off+i,none⟩:=by unfold Addr.add;split<;>simp_all
 rw[hadd];obtain⟨v,h1,h2⟩:=FP l i u hi;obtain⟨c0,c1⟩:=h _ _ h1;rcases h2 with⟨e,rfl⟩|⟨e,rfl⟩
 ·rw[show off+i=off+i/2*2 by omega];exact c0
 ·rw[show off+i=off+i/2*2+1 by omega];exact c1
theorem B4{P:Program}(w:World)(dT sT ty elem:TypeId)(g dLen dCap:Nat)(sp:Option Addr)(sLen sCap:Nat)(cur:Array Value)(t:TypeId)(l:List V)
  (hu:P.underlying dT=some (.slice elem))(hs:(P.info? elem).map (·.size)=some 2)(hg:w.heap[g]? =some (.cells cur t (0,0)))(hn:l.length=Nat.min sLen dLen)
  (Il:∀j v,l[j]? =some v->∃b off,sp=some ⟨b,off,none⟩/\bg w b (off+j*2) v)(Rj:l.length*2<=cur.size):
  ∃w',(Builtin.copy_ #[dT,sT] ty #[.slice (some ⟨g,0,none⟩) dLen dCap,.slice sp sLen sCap]).run P w= .ok (goInt l.length) w'/\Row w' g (bV l++cur.toList.drop (l.length*2)).toArray t/\Wr (λi=>i=g) w w':=by
 cases hq:P.info? elem with
 |none=>simp[hq]at hs
 |some i=>
  have hi:i.size=2:=by simpa [hq]using hs
  by_cases h0:l=[]
  ·subst h0;have hz:∀(x:Addr),(loadCells x 0).run P w= .ok #[] w:=λx=>by simpa using run_loadCells_list (P:=P) w x [] (by simp)
   refine⟨w,?_,(by have:=hg;simp only[bV,List.length_nil,Nat.zero_mul,List.drop_zero,List.nil_append,Array.toArray_toList];exact this),Wr.refl _ _⟩;cases sp<;>simp[Builtin.copy_,run_underlying hu,Builtin.lenOf,Builtin.firstCells,sizeOf,typeInfo,hq,hi,<-hn,storeCells,hz]
  ·obtain⟨b,off,rfl⟩:∃b off,sp=some ⟨b,off,none⟩:=by
    cases l with
    |nil=>exact absurd rfl h0
    |cons v l=>obtain⟨b,off,h,_⟩:=Il 0 v rfl;exact⟨b,off,h⟩
   have hc:=FN (w:=w) (b:=b) (off:=off) (l:=l) (λj v hj=>by obtain⟨b',off',h,h'⟩:=Il j v hj;injection h with h;injection h with e1 e2;subst e1 e2;exact h');have hl:=run_loadCells_list (P:=P) w ⟨b,off,none⟩ (bV l) hc;rw[eZ]at hl;have hst:=run_storeCells_at P g 0 t (bV l) 0 cur w hg (by rw[eZ];omega) (FO l);refine⟨w.setRow g (bV l++cur.toList.drop (l.length*2)).toArray,?_,setRow_heap w g _ _ t _ hg,⟨rfl,rfl,rfl,by simp[World.setRow],λk hk hne=>setRow_other w g k _ hne⟩⟩;simp only[Nat.add_zero,List.take_zero,List.nil_append,Nat.zero_add,eZ]at hst;simp[Builtin.copy_,run_underlying hu,Builtin.lenOf,Builtin.firstCells,sizeOf,typeInfo,hq,hi,<-hn,hl,hst]
theorem yf{P:Program}{w:World}{ops:Array Oper}{rest:List Oper}{o:Oper}{a:Act}{Q:Exit->Act->World->Prop}(hgd:o.guard=none)(d s:Operand)(dT sT:TypeId)
  (ho:o.op= .call {callee:= .builtin .copy,args:=#[d,s],argTypes:=#[dT,sT]})(elem:TypeId)(hu:P.underlying dT=some (.slice elem))(hs:(P.info? elem).map (·.size)=some 2)
  (g dLen dCap:Nat)(sp:Option Addr)(sLen sCap:Nat)(hd:a.eval d= .slice (some ⟨g,0,none⟩) dLen dCap)(rR:a.eval s= .slice sp sLen sCap)
  (cur:Array Value)(t:TypeId)(l:List V)(hg:Row w g cur t)(hn:l.length=Nat.min sLen dLen)
  (Il:∀j v,l[j]? =some v->∃b off,sp=some ⟨b,off,none⟩/\bg w b (off+j*2) v)(Rj:l.length*2<=cur.size)
  (h:∀w',Row w' g (bV l++cur.toList.drop (l.length*2)).toArray t->Wr (λi=>i=g) w w'->wpList P ops Q rest (a.put o.dst (goInt l.length)) w'):wpList P ops Q (o::rest) a w:=by
 obtain⟨w',hrun,hr,hw⟩:=B4 (P:=P) w dT sT o.type elem g dLen dCap sp sLen sCap cur t l hu hs hg hn Il Rj;refine wpList_plain hgd λK hK=>?_;unfold Oper.wp;simp[execOp,ho,resolve,invoke,builtin,hd,rR,hrun,Result.andThen];exact hK _ _ (h w' hr hw)
theorem Hb{cur:Array Value}{nt:Nat}{l:List V}(hc:r8 cur (List.replicate nt ⟨0,0⟩))(hl:l.length<=nt):r8 (bV l++cur.toList.drop (l.length*2)).toArray (gm nt l):=by
 obtain⟨h1,h2⟩:=hc;simp only[List.length_replicate]at h1;refine⟨by simp[gm,eZ,h1];omega,λj v hj=>?_⟩;unfold gm at hj;simp only[List.getElem?_toArray];rcases Nat.lt_or_ge j l.length with hlt|hge
 ·rw[List.getElem?_append_left hlt]at hj;have hf:∀(l:List V)(j:Nat)(v:V),l[j]? =some v->(bV l)[j*2]? =some (.int .i64 v.obj)/\(bV l)[j*2+1]? =some (.int .i64 v.n):=by
   intro l
   induction l with
   |nil=>intro j v h;simp at h
   |cons x l ih=>
    intro j v h;cases j with
    |zero=>simp at h;subst h;simp[bV]
    |succ j=>
     simp only[List.getElem?_cons_succ]at h;obtain⟨a,b⟩:=ih j v h;rw[show(j+1)*2=j*2+1+1 by omega,show j*2+1+1+1=j*2+1+1+1 from rfl];simp only[bV,List.getElem?_cons_succ];exact⟨a,b⟩
  obtain⟨a,b⟩:=hf l j v hj;rw[List.getElem?_append_left (by rw[eZ];omega),List.getElem?_append_left (by rw[eZ];omega)];exact⟨a,b⟩
 ·rw[List.getElem?_append_right hge]at hj;have hj':(List.replicate nt (⟨0,0⟩:V))[j]? =some v:=by
   rw[List.getElem?_replicate]at hj ⊢;split at hj
   ·rw[if_pos (by omega)];exact hj
   ·cases hj
  obtain⟨a,b⟩:=h2 j v hj';rw[List.getElem?_append_right (by rw[eZ];omega),List.getElem?_append_right (by rw[eZ];omega),List.getElem?_drop,List.getElem?_drop,eZ];rw[show l.length*2+(j*2-l.length*2)=j*2 by omega,show l.length*2+(j*2+1-l.length*2)=j*2+1 by omega];simp only[Array.getElem?_toList];exact⟨a,b⟩
end Go.Proofs.YtikbdplllopjlaaGreat
