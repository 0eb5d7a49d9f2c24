/- gantletref14: what is put out. Conditions: as stated. gantletref14: what a call answers; a call that is too deep. Conditions: as stated. gantletref14: a call's locals, made one by one. No condition. gantletref14: the state between a call's instructions. No condition. The page's machine: a call's locals are no more, one by one. Conditions: as stated. gantletref14: a call's locals are no more, one by one. Conditions: as stated. gantletref14: an instruction that reckons a value by one call. Conditions: as stated. gantletref14's machine: Store on its memory. Conditions: as stated. gantletref14: put. Conditions: as stated. gantletref14: the labels' rows; an instruction that calls. Conditions: as stated. The page's Code and virt's: may a function be? (plain). No program in sight. -/
import Derived.Test.YtinmgbodgecoeaaGreatRDoesDZz
import Derived.Test.YtinmgbodgecoeaaGreatRCodeZz
set_option linter.unusedSimpArgs false
set_option linter.unusedVariables false
set_option maxHeartbeats 8000000
set_option maxRecDepth 100000
open Go.Proofs.Tryz
namespace Go.Proofs.YtinmgbodgecoeaaGreat
open Go.RowKit
theorem bK.UD{w w1:World}{ai mc:Nat}{own:Nat->Prop}{P:Value×Value×Value×Value}{ah:Int}{s:St}{inv outv aU:Value}{rb:Nat->Nat}(h:bK w ai mc own P ah s inv outv aU rb)(hw:Wr (λk=>outv.ownBlock=some k) w w1)(v:Value)(l:List Int)
  (hv:w1.ownsRow ai 2 1 v l.length (l.map (Value.int .i64))):bK (w1.setCell ⟨mc,8,none⟩ v) ai mc (λk=>own k\/v.ownBlock=some k) P ah {s with out:=l} inv v aU rb:=by
 obtain⟨hr,hm,hs⟩:=h;have hb:=hs.own mc hm;have hne:∀g cs t,Row w g cs t->t≠2->¬outv.ownBlock=some g:=λg cs t hr' ht hg=>by
  obtain⟨_,cs',hr2⟩:=aC hs.out hg;exact hr'.ne hr2 ht rfl
 have hr1:=hr.wr hw (hne mc _ _ hr (by decide));have hws:Wr (λk=>k=mc) w1 (w1.setCell ⟨mc,8,none⟩ v):=Wr.setCell w1 ⟨mc,8,none⟩ v rfl;have hmx:∀g cs t,Row w g cs t->t≠86->¬g=mc:=λg cs t hr' ht hg=>by subst hg;exact hr'.ne hr ht rfl
 have hmy:∀g cs t,Row w1 g cs t->t≠86->¬g=mc:=λg cs t hr' ht hg=>by subst hg;exact hr'.ne hr1 ht rfl
 refine⟨hr1.set 8 v,aK hm,⟨hs.inp.below (λb o hb'=>?_),aF hv hws (λg hg=>?_),λg hg=>bu hg,?_,λg hg=>aK (hs.memo g hg),λk hk=>?_⟩⟩
 ·exact(World.cell?_of_block (a:=⟨b,o,none⟩) (hws.block b (by have:=hw.size;omega) (by omega))).trans (World.cell?_of_block (a:=⟨b,o,none⟩) (hw.block b (by omega) (λhf=>by have:=(aC hs.out hf).1;omega)))
 ·obtain⟨_,cs,hr'⟩:=aC hv hg;exact hmy g cs _ hr' (by decide)
 ·obtain⟨⟨xs,hx,qO⟩,hmm,hi,hk⟩:=hs.mem;refine⟨⟨xs,aF (aF hx hw (λg hg=>?_)) hws (λg hg=>?_),qO⟩,λk o h1 ho=>?_,hi,hk⟩
  ·obtain⟨_,cs,hr'⟩:=aC hx hg;exact hne g cs _ hr' (by decide)
  ·obtain⟨_,cs,hr'⟩:=aC hx hg;exact hmx g cs _ hr' (by decide)
  ·obtain⟨ho',cs,hr',hvv⟩:=hmm k o h1 ho;exact⟨aK ho',cs,(hr'.wr hw (hne _ cs _ hr' (by decide))).wr hws (hmx _ cs _ hr' (by decide)),hvv⟩
 ·have h1:=hw.size;rcases hk with hk|hk
  ·have:=hs.own k hk;simp only[World.size_setCell];omega
  ·have:=hv.lt k hk;simp only[World.size_setCell];exact this
theorem JW:(prog.info? 2).map (λi=>(i.zero,i.size,i.bytes))=some (some (.int .i64 0),1,8):=by kernel_rfl
theorem bK.below{w w':World}{ai mc:Nat}{own:Nat->Prop}{P:Value×Value×Value×Value}{ah:Int}{s:St}{inv outv aU:Value}{rb:Nat->Nat}(h:bK w ai mc own P ah s inv outv aU rb)(hw:Below w.heap.size w w'):bK w' ai mc own P ah s inv outv aU rb:=by
 obtain⟨hr,hm,hs⟩:=h;have hb:=(hs.own mc hm)
 exact⟨hr.below hw hr.lt,hm,hs.TX (F:=λ_=>False) (Wr.of_below hw) (λk hk=>hk.elim) (by omega)⟩
theorem Ej{w:World}{ai mc fb tb:Nat}{own:Nat->Prop}{P:Value×Value×Value×Value}{ah:Int}{s:St}{tp:List V}{lv:Value}{lo:List Nat}(h:bG w ai mc own P ah s)(hF:bZ w fb tb tp lv lo)(q:Nat)(hq:ai<=q/\¬own q)(hf:¬fb=q)(ht:¬tb=q)(hl:∀g,lv.ownBlock=some g->¬g=q)(a b:Value):
  bG ((w.setCell ⟨q,0,none⟩ a).setCell ⟨q,1,none⟩ b) ai mc own P ah s/\bZ ((w.setCell ⟨q,0,none⟩ a).setCell ⟨q,1,none⟩ b) fb tb tp lv lo/\Wr (λk=>k=q) w ((w.setCell ⟨q,0,none⟩ a).setCell ⟨q,1,none⟩ b):=by
 have hw:=gI w q 0 1 a b;exact⟨h.wr hw (λk hk=>(by subst hk;exact hq)),hF.wr hw hf ht hl,hw⟩
def jf(ai mc:Nat)(own:Nat->Prop)(P:Value×Value×Value×Value)(ah:Int)(r:Option V×St)(w:World)(e:Ending)(w':World):Prop:=
 e= .returned (aO r.1)/\∃own':Nat->Prop,(∀k,own k->own' k)/\(∀k,own' k->own k\/w.heap.size<=k)/\bG w' ai mc own' P ah r.2/\Wr own w w'
theorem JD(ai mc:Nat)(own:Nat->Prop)(P:Value×Value×Value×Value)(ah:Int)(p:bB)(s:St)(f:Nat)(g:aR)(args:List V)(AA:Option Addr)(an oD:Nat)(w:World)
  (hM:bG w ai mc own P ah s)(hP:bP w ai (P.1,P.2.1,P.2.2.1) p)(hI:GInv ah s)(hf:ah<=100000000)(hg:p.funcs[f]? =some g)(Z0:0<=s.calls)(hd:s.calls=64):
  Calls prog 32 #[.pointer (some ⟨mc,0,none⟩),.int .i64 f,.slice AA an oD] w λe w'=>jf ai mc own P ah ((none,iJ 4 s)) w e w':=by
 have hmc:=(by obtain⟨_,_,_,_,h⟩:=hM;exact⟨h.mine,h.rest.own mc h.mine⟩:own mc/\ai<=mc/\mc<w.heap.size)
 obtain⟨hm0,Zt,Zr⟩:=hmc;have c11:w.cell? ⟨mc,12,none⟩=some (.int .i64 64):=(by obtain⟨_,_,_,_,h⟩:=hM;exact hd▸h.row.cell (j:=12) rfl)
 have HS:=ae (λW(hb:Below w.heap.size w W)=>iy ai mc own P ah 4 s W (hM.below hb));have Xb:=ae hm0;have HOW:=ae (show∀k,own k->ai<=k/\k<w.heap.size from by obtain⟨_,_,_,_,h⟩:=hM;exact h.rest.own);clear hM hP hI hg hd hm0;go_enter func32,ntmps32;go_wp2_with(go_at_call 52;refine(HS _ (ax _ _)).mono ?_;rintro e w1 ⟨rfl,EC,hw1⟩;have LL:=ae EC;have uo:=ae hw1;have hz1:=hw1.size;have hr0:=(Row.new w #[.int .i64 0,.int .i64 0] 75).wr hw1 (show¬w.heap.size=mc by omega);have r0:w1.cell? ⟨w.heap.size,0,none⟩=some (.int .i64 0):=hr0.cell (j:=0) rfl;have r1:w1.cell? ⟨w.heap.size,1,none⟩=some (.int .i64 0):=hr0.cell (j:=1) rfl;have r2:=hr0.free 0;have r3:=hr0.free 1;clear EC hw1 hr0)
 refine aS (v:=aO none) ?_ rfl ⟨rfl,own,λ_ h=>h,λ_ h=>aK h,LL.wr (xy _ _ _ _) (λk hk=>⟨by omega,λho=>by have:=(HOW _ ho).2;omega⟩),?_⟩
 ·simp[results,results32,go_sem,aO, *]
 ·exact((Wr.of_below (ax _ _)).trans uo (λi hi=>aK (hi▸Xb.out))).trans (xy _ _ _ _) (λi hi=>bu (by omega))
structure zZ (ai mc:Nat) (own:Nat->Prop) (P:Value×Value×Value×Value) (ah:Int) (s:St) (fb tb nt:Nat) (g:aR) (LA:Option Addr) (bn:Nat) (BA:Option Addr) (cI:Nat) (M:List MO) (w:World) (gr:Nat) (w1 wr:World) (k:Nat) (df:Nat->Prop) (r9:Value):Prop where
 pH:bG wr ai mc df P ah {s with mem:=bf M (g.az.take k)}
 Nb:Row wr fb #[.slice (some ⟨tb,0,none⟩) nt nt,r9] 120
 YD:iG wr tb (List.replicate nt ⟨0,0⟩)
 grow:Row wr gr #[.int .i64 g.params,.int .i64 nt,.slice LA g.az.length bn,.slice BA g.ins.length cI] 54
 zg:Row wr w.heap.size #[.int .i64 0,.int .i64 0] 75
 az:wr.ownsRow w1.heap.size 3 1 r9 k ((cX M k).map λx=> .int .i64 (x:Nat))
 up:∀i,own i->df i
 down:∀i,df i->own i\/w1.heap.size<=i
 YR:∀i,r9.ownBlock=some i->¬df i
 wr:Wr (λb=>own b\/b=fb) w1 wr
theorem Jq{ai mc fb tb nt bn cI gr k gg fJ:Nat}{own df cP:Nat->Prop}{P:Value×Value×Value×Value}{ah:Int}{s:St}{g:aR}{LA BA:Option Addr}{M:List MO}{w w1 wr w2 w3:World}{r9:Value}{o:kH}
  (hL:zZ ai mc own P ah s fb tb nt g LA bn BA cI M w gr w1 wr k df r9)(ho:g.az[k]? =some o)
  (hu2:∀i,df i->cP i)(hd2:∀i,cP i->df i\/wr.drew.heap.size<=i)(Q6:bG w2 ai mc cP P ah {s with mem:=gP (bf M (g.az.take k)) o})(hw2:Wr df wr.drew w2)
  (aJ:ai<=w1.heap.size)(hbf:ai<=fb)(hfb:¬own fb/\fb<w1.heap.size)(NY:¬own tb/\tb<w1.heap.size)(hgr:¬own gr/\gr<w1.heap.size)(jv:¬own w.heap.size/\w.heap.size<w1.heap.size)
  (iM:w3.ownsRow w1.heap.size 3 1 (.slice (some ⟨gg,0,none⟩) (k+1) fJ) (k+1) ((cX M k).map (λx=>Value.int .i64 (x:Nat))++[.int .i64 ((au (bf M (g.az.take k))).length:Nat)]))
  (hgrow:(w2.alloc (.cells #[.int .i64 ((au (bf M (g.az.take k))).length:Nat)] 3)).grownBy w3 r9.ownBlock)(hat:r9.ownBlock=some gg\/gg=w2.heap.size+1):
  zZ ai mc own P ah s fb tb nt g LA bn BA cI M w gr w1 (w3.setCell ⟨fb,1,none⟩ (.slice (some ⟨gg,0,none⟩) (k+1) fJ)) (k+1) cP (.slice (some ⟨gg,0,none⟩) (k+1) fJ):=by
 obtain⟨l1,l2,l3,l4,l5,l6,l7,l8,l9,l10⟩:=hL;have hz:=l10.size;have hz2:=hw2.size;simp only[World.size_drew]at hz2 hd2;have hkl:k<g.az.length:=by
  rcases Nat.lt_or_ge k g.az.length with h|h
  ·exact h
  ·rw[List.getElem?_eq_none h]at ho;cases ho
 have htk:g.az.take (k+1)=g.az.take k++[o]:=by rw[List.take_add_one,ho];rfl
 have rT:∀i,¬own i->i<w1.heap.size->¬df i:=λi h1 h2 h=>by rcases l8 i h with h|h;exact h1 h;omega
 have GH:∀i,¬df i->i<wr.heap.size->¬cP i:=λi h1 h2 h=>by rcases hd2 i h with h|h;exact h1 h;omega
 have DD:Wr (λi=>r9.ownBlock=some i) w2 w3:=(Wr.of_below (F:=λi=>r9.ownBlock=some i) (ax w2 (.cells #[.int .i64 ((au (bf M (g.az.take k))).length:Nat)] 3))).trans (Wr.grown (F:=λi=>r9.ownBlock=some i) hgrow (λi hi=>hi)) (λi hi=>aK hi);have hlr:∀i,r9.ownBlock=some i->w1.heap.size<=i/\∃cs,Row wr i cs 3:=λi hi=>aC l6 hi;have hws:=Wr.cell1 w3 fb 1 (.slice (some ⟨gg,0,none⟩) (k+1) fJ);have hall:∀i,¬own i->i<w1.heap.size->∀cs t,Row wr i cs t->Row w3 i cs t:=λi h1 h2 cs t hr=>
  (hr.drew.wr hw2 (rT i h1 h2)).wr DD (λh=>by have:=(hlr i h).1;omega)
 have ZG:∀i,(Value.slice (some ⟨gg,0,none⟩) (k+1) fJ).ownBlock=some i->i=gg:=λi hi=>by simp only[Value.ownBlock,Option.some.injEq]at hi;exact hi.symm
 have zW:¬gg=fb:=by
  intro e;obtain⟨_,cs',hr⟩:=aC iM (g:=gg) rfl;subst e;exact hr.ne (hall _ hfb.1 hfb.2 _ _ l2) (by decide) rfl
 have hb2:ai<=w2.heap.size:=by obtain⟨_,_,_,_,h⟩:=Q6;have:=h.rest.own mc h.mine;omega
 have ZP:∀i,cP i->ai<=i:=by obtain⟨_,_,_,_,h⟩:=Q6;exact λi hi=>(h.rest.own i hi).1
 have pJ:∀i,r9.ownBlock=some i->i<wr.heap.size:=λi hi=>by obtain⟨cs,hr⟩:=(hlr i hi).2;exact hr.lt
 have hne:∀i,¬own i->i<w1.heap.size->∀cs t,Row wr i cs t->t≠120->Row (w3.setCell ⟨fb,1,none⟩ (.slice (some ⟨gg,0,none⟩) (k+1) fJ)) i cs t:=λi h1 h2 cs t hr ht=>
  (hall i h1 h2 cs t hr).wr hws (λh=>(hall i h1 h2 cs t hr).ne (hall _ hfb.1 hfb.2 _ _ l2) ht h)
 refine⟨?_,(hall _ hfb.1 hfb.2 _ _ l2).set 1 _,?_,hne _ hgr.1 hgr.2 _ _ l4 (by decide),hne _ jv.1 jv.2 _ _ l5 (by decide),?_,λi hi=>hu2 i (l7 i hi),λi hi=>?_,λi hi=>?_,?_⟩
 ·have e:bf M (g.az.take (k+1))=gP (bf M (g.az.take k)) o:=by rw[htk,qN];rfl
  rw[e];refine Q6.wr (F:=λi=>r9.ownBlock=some i\/i=fb) ((DD.mono (λi hi=>aK (aK hi))).trans hws (λi hi=>aK (bu hi))) (λi hi=>?_);rcases hi with hi|rfl
  ·exact⟨by have:=(hlr i hi).1;omega,GH i (l9 i hi) (pJ i hi)⟩
  ·exact⟨hbf,GH i (rT i hfb.1 hfb.2) (by omega)⟩
 ·obtain⟨cv,h1,h2⟩:=l3;exact⟨cv,hne _ NY.1 NY.2 _ _ h1 (by decide),h2⟩
 ·rw[AP,List.map_append,<-pG M g.az k (by omega)];exact aF iM hws (λi hi h=>zW ((ZG i hi).symm.trans h))
 ·rcases hd2 i hi with h|h
  ·exact l8 i h
  ·exact bu (by omega)
 ·rw[ZG i hi];rcases hat with h|h
  ·exact GH gg (l9 gg h) (pJ gg h)
  ·intro h';obtain⟨_,_,_,_,hq⟩:=Q6;have:=(hq.rest.own gg h').2;omega
 ·refine(((l10.trans (eW (aV _ _).drew) (λi hi=>hi.elim)).trans hw2 (λi hi=>?_)).trans DD (λi hi=>bu (hlr i hi).1)).trans hws (λi hi=>aK (bu hi));rcases l8 i hi with h|h
  ·exact aK (aK h)
  ·exact bu h
end Go.Proofs.YtinmgbodgecoeaaGreat
namespace Go.Proofs.YtinmgbodgecoeaaGreat
open Go.RowKit
structure gz (ai mc:Nat) (own:Nat->Prop) (P:Value×Value×Value×Value) (ah:Int) (d:Int) (ng fb tb nt:Nat) (lv:Value) (lo:List Nat) (gr:Nat) (gc:Array Value) (w:World) (wr:World) (own':Nat->Prop) (st:St) (tp:List V):Prop where
 pH:bG wr ai mc own' P ah st
 fr:bZ wr fb tb tp lv lo
 off:iD ai own' fb tb lv
 inv:GInv ah st
 Bp:fV (au st.mem) tp lo ng
 many:lo≠[]->2<=(au st.mem).length
 calls:st.calls=d
 len:tp.length=nt
 grow:Row wr gr gc 54
 gn:¬own' gr
 zg:Row wr w.heap.size #[.int .i64 0,.int .i64 0] 75
 rn:¬own' w.heap.size/\¬w.heap.size=tb
 up:∀i,own i->own' i
 down:∀i,own' i->own i\/w.heap.size<=i
 YE:w.heap.size<=tb
 wr:Wr own w wr
section
variable {ai mc:Nat} {own:Nat->Prop} {P:Value×Value×Value×Value} {ah d:Int} {ng fb tb nt:Nat} {lv:Value} {lo:List Nat} {gr:Nat} {gc:Array Value} {w wr:World} {own':Nat->Prop} {st:St} {tp:List V}
theorem gz.below(h:gz ai mc own P ah d ng fb tb nt lv lo gr gc w wr own' st tp){w':World}(hb:Below wr.heap.size wr w'):gz ai mc own P ah d ng fb tb nt lv lo gr gc w w' own' st tp:=
 ⟨h.pH.below hb,h.fr.below hb,h.off,h.inv,h.Bp,h.many,h.calls,h.len,h.grow.below hb h.grow.lt,h.gn,h.zg.below hb h.zg.lt,h.rn,h.up,h.down,h.YE,h.wr.trans (eW hb) (λi hi=>hi.elim)⟩
theorem gz.mine(h:gz ai mc own P ah d ng fb tb nt lv lo gr gc w wr own' st tp):own' mc:=by obtain⟨_,_,_,_,h⟩:=h.pH;exact h.mine
theorem gz.YT(h:gz ai mc own P ah d ng fb tb nt lv lo gr gc w wr own' st tp){w':World}{st':St}(hw:Wr (λb=>b=mc) wr w')(hm:bG w' ai mc own' P ah st')(hi:GInv ah st')(hf:fV (au st'.mem) tp lo ng)(hgr:(au st.mem).length<=(au st'.mem).length)(hc:st'.calls=d):
  gz ai mc own P ah d ng fb tb nt lv lo gr gc w w' own' st' tp:=by
 have hmm:=h.mine;refine⟨hm,h.fr.wr hw (λe=>h.off.fb.1 (by rw[e];exact hmm)) (λe=>h.off.tb.1 (by rw[e];exact hmm)) (λg hg e=>(h.off.lv g hg).1 (by rw[e];exact hmm)),h.off,hi,hf,(λhn=>Nat.le_trans (h.many hn) hgr),hc,h.len,h.grow.wr hw (λe=>h.gn (by rw[e];exact hmm)),h.gn,h.zg.wr hw (λe=>h.rn.1 (by rw[e];exact hmm)),h.rn,h.up,h.down,h.YE,h.wr.trans hw (λi hi=>?_)⟩;rcases h.down mc hmm with h'|h'
 ·exact aK (hi▸h')
 ·exact bu (hi▸h')
theorem gz.does(h:gz ai mc own P ah d ng fb tb nt lv lo gr gc w wr own' st tp){r:Bool×St×List V}{e:Ending}{w':World}(hd:lR ai mc P ah fb tb lv lo own' r wr e w')(hk:GInv ah r.2.1/\fV (au r.2.1.mem) r.2.2 lo ng/\r.2.1.calls=st.calls/\(au st.mem).length<=(au r.2.1.mem).length/\r.2.2.length=tp.length)(ht:r.1=true):
  ∃Tp,gz ai mc own P ah d ng fb tb nt lv lo gr gc w w' Tp r.2.1 r.2.2/\(∀i,Tp i->own' i\/wr.heap.size<=i):=by
 obtain⟨_,cP,h1,h2,h3,h4,h5⟩:=hd;have hl:∀i,i<wr.heap.size->¬own' i->¬cP i:=λi hi hn ho=>by rcases h2 i ho with h|h;exact hn h;omega
 have hfl:=h.fr.row.lt;have htl:=(by obtain⟨_,hr,_⟩:=h.fr.bN;exact hr.lt:tb<wr.heap.size)
 have hll:∀g,lv.ownBlock=some g->g<wr.heap.size:=λg hg=>by obtain⟨_,cs,hr⟩:=aC h.fr.az hg;exact hr.lt
 have htr:∃cs,Row wr tb cs 75:=by obtain⟨cs,hr,_⟩:=h.fr.bN;exact⟨cs,hr⟩
 have XE:¬(own' gr\/gr=tb):=λe=>by
  rcases e with e|e
  ·exact h.gn e
  ·obtain⟨cs,hr⟩:=htr;exact h.grow.ne hr (by decide) e
 have Ls:¬(own' w.heap.size\/w.heap.size=tb):=λe=>by
  rcases e with e|e
  ·exact h.rn.1 e
  ·exact h.rn.2 e
 refine⟨cP,⟨h3,h4 ht,⟨⟨hl _ hfl h.off.fb.1,h.off.fb.2⟩,⟨hl _ htl h.off.tb.1,h.off.tb.2⟩,λg hg=>⟨hl g (hll g hg) (h.off.lv g hg).1,(h.off.lv g hg).2⟩⟩,hk.1,hk.2.1,(λhn=>Nat.le_trans (h.many hn) hk.2.2.2.1),hk.2.2.1.trans h.calls,hk.2.2.2.2.trans h.len,
  h.grow.wr h5 XE,hl _ h.grow.lt h.gn,h.zg.wr h5 Ls,⟨hl _ h.zg.lt h.rn.1,h.rn.2⟩,λi hi=>h1 i (h.up i hi),λi hi=>?_,h.YE,h.wr.trans h5 (λi hi=>?_)⟩,h2⟩
 ·rcases h2 i hi with h'|h'
  ·exact h.down i h'
  ·exact bu (by have:=h.wr.size;omega)
 ·rcases hi with hi|hi
  ·exact h.down i hi
  ·exact bu (hi▸h.YE)
theorem gz.done(h:gz ai mc own P ah d ng fb tb nt lv lo gr gc w wr own' st tp){r:Bool×St×List V}{e:Ending}{w':World}(hd:lR ai mc P ah fb tb lv lo own' r wr e w'):
  ∃cP:Nat->Prop,(∀k,own k->cP k)/\(∀k,cP k->own k\/w.heap.size<=k)/\bG w' ai mc cP P ah r.2.1/\Wr own w w'/\Row w' w.heap.size #[.int .i64 0,.int .i64 0] 75/\¬cP w.heap.size:=by
 obtain⟨_,cP,h1,h2,h3,h4,h5⟩:=hd;have Ls:¬(own' w.heap.size\/w.heap.size=tb):=λe=>by
  rcases e with e|e
  ·exact h.rn.1 e
  ·exact h.rn.2 e
 refine⟨cP,λk hk=>h1 k (h.up k hk),λk hk=>?_,h3,h.wr.trans h5 (λi hi=>?_),h.zg.wr h5 Ls,λho=>?_⟩
 ·rcases h2 k hk with h'|h'
  ·exact h.down k h'
  ·exact bu (by have:=h.wr.size;omega)
 ·rcases hi with hi|hi
  ·exact h.down i hi
  ·exact bu (hi▸h.YE)
 ·rcases h2 _ ho with h'|h'
  ·exact h.rn.1 h'
  ·have:=h.zg.lt;omega
end
theorem jf.below{ai mc:Nat}{own:Nat->Prop}{P:Value×Value×Value×Value}{ah:Int}{r:Option V×St}{w w' w'':World}{e:Ending}(h:jf ai mc own P ah r w e w')(hb:Below w'.heap.size w' w''):jf ai mc own P ah r w e w'':=by
 obtain⟨h0,cP,h1,h2,h3,h4⟩:=h;exact⟨h0,cP,h1,h2,h3.below hb,h4.trans (eW hb) (λi hi=>hi.elim)⟩
theorem bG.steps{w:World}{ai mc:Nat}{own:Nat->Prop}{P:Value×Value×Value×Value}{ah:Int}{s:St}(h:bG w ai mc own P ah s):w.cell? ⟨mc,9,none⟩=some (.int .i64 s.steps):=by
 obtain⟨_,_,_,_,h⟩:=h;exact h.row.cell (j:=9) rfl
theorem uI{ai mc:Nat}{own cP:Nat->Prop}{P:Value×Value×Value×Value}{ah:Int}{s:St}{w w5:World}(v:Option V)(h1:∀k,own k->cP k)(h2:∀k,cP k->own k\/w.heap.size<=k)(h3:bG w5 ai mc cP P ah s)(h4:Wr own w w5)(h5:¬cP w.heap.size)(hb:ai<=w.heap.size)(a b:Int):
  jf ai mc own P ah (v,s) w (.returned (aO v)) ((w5.setCell ⟨w.heap.size,0,none⟩ (.int .i64 a)).setCell ⟨w.heap.size,1,none⟩ (.int .i64 b)):=
 ⟨rfl,cP,h1,h2,h3.wr (xy _ _ _ _) (λk hk=>(by subst hk;exact⟨hb,h5⟩)),h4.trans (xy _ _ _ _) (λi hi=>bu (by omega))⟩
theorem FW{ai mc fb tb nt bn cI:Nat}{own df:Nat->Prop}{P:Value×Value×Value×Value}{ah:Int}{s:St}{g:aR}{LA BA:Option Addr}{p:bB}{args:List V}{w wb w1 w2 w3:World}{r9:Value}
  (hL:zZ ai mc own P ah {s with calls:=s.calls+1,deep:=max s.deep (s.calls+1),steps:=s.steps+aQ g.az} fb tb nt g LA bn BA cI s.mem w wb.heap.size w1 w2 g.az.length df r9)
  (hwr:Wr (λb=>b=tb) w2 w3)(hv:iG w3 tb (gJ nt args))(hl:(gJ nt args).length=nt)(hnt:nt<=8000)(hnl:g.az.length<=1000000)(how:∀k,own k->ai<=k/\k<w.heap.size)(hwa:Wr own w w1)(aJ:Below ai w wb)(hfb:wb.heap.size<fb)(NY:wb.heap.size<tb)(hwb:ai<=w.heap.size/\w.heap.size<wb.heap.size/\fb<w1.heap.size/\tb<w1.heap.size/\wb.heap.size<w1.heap.size)(hS:GInv ah {s with calls:=s.calls+1,deep:=max s.deep (s.calls+1),steps:=s.steps+aQ g.az,mem:=bf s.mem g.az}/\fV (au (bf s.mem g.az)) (gJ nt args) (cX s.mem g.az.length) p.ay.length/\(au (bf s.mem g.az)).length=(au s.mem).length+g.az.length):
  gz ai mc own P ah (s.calls+1) p.ay.length fb tb nt r9 (cX s.mem g.az.length) wb.heap.size #[.int .i64 g.params,.int .i64 nt,.slice LA g.az.length bn,.slice BA g.ins.length cI] w w3 df
   {s with calls:=s.calls+1,deep:=max s.deep (s.calls+1),steps:=s.steps+aQ g.az,mem:=bf s.mem g.az} (gJ nt args):=by
 obtain⟨l1,l2,l3,l4,l5,l6,l7,l8,l9,l10⟩:=hL;rw[List.take_length]at l1;have rT:∀i,w.heap.size<=i->i<w1.heap.size->¬df i:=λi h1 h2 h=>by
  rcases l8 i h with h|h
  ·have:=(how i h).2;omega
  ·omega
 have hno:∀i,r9.ownBlock=some i->w1.heap.size<=i:=λi hi=>(aC l6 hi).1;have hft:¬fb=tb:=λe=>by obtain⟨cs,hr,_⟩:=l3;exact l2.ne hr (by decide) e
 obtain⟨hb0,hb1,hb2,hb3,hb4⟩:=hwb;refine⟨l1.wr hwr (λk hk=>⟨by omega,hk▸rT tb (by omega) hb3⟩),⟨?_,hv,?_,λg' hg'=>by have:=hno g' hg';omega,by rw[hl];omega,by rw[gm];exact hnl⟩,⟨⟨rT fb (by omega) hb2,by omega⟩,⟨rT tb (by omega) hb3,by omega⟩,λg' hg'=>⟨l9 g' hg',by have:=hno g' hg';omega⟩⟩,
  hS.1,hS.2.1,(λhn=>?_),rfl,hl,
  l4.wr hwr (λh=>by omega),rT _ (by omega) hb4,l5.wr hwr (λh=>by omega),⟨rT _ (by omega) (by omega),by omega⟩,l7,λi hi=>?_,by omega,?_⟩
 ·rw[hl];exact l2.wr hwr hft
 ·rw[gm];exact ownsRow_base (aF l6 hwr (λi hi h=>by have:=hno i hi;omega)) (Nat.zero_le _)
 ·show 2<=(au (bf s.mem g.az)).length;rw[hS.2.2];have h1:=cZ s.mem;have h2:0<g.az.length:=by
   rcases Nat.eq_zero_or_pos g.az.length with h|h
   ·exact absurd (by rw[h];rfl) hn
   ·exact h
  omega
 ·rcases l8 i hi with h|h
  ·exact aK h
  ·exact bu (by omega)
 ·refine(hwa.trans l10 (λi hi=>?_)).trans hwr (λi hi=>bu (by omega));rcases hi with hi|hi
  ·exact aK hi
  ·exact bu (by omega)
end Go.Proofs.YtinmgbodgecoeaaGreat
namespace Go.Proofs.YtinmgbodgecoeaaGreat
open Go.RowKit
def qm:Code->List Code
 | .loop c=>[.loop c]
 | .seq a b=>qm a++qm b
 | .block _ c=>qm c
 | .scope c=>qm c
 | .cond _ a b=>qm a++qm b
 |_=>[]
def WA:Code->Code
 | .loop c=>c
 |c=>c
end Go.Proofs.YtinmgbodgecoeaaGreat
namespace Go.Proofs.YtinmgbodgecoeaaGreat
open Go.RowKit
theorem bK.kill{w:World}{ai mc:Nat}{own:Nat->Prop}{P:Value×Value×Value×Value}{ah:Int}{s:St}{inv outv:Value}{rb:Nat->Nat}{mg aA:Nat}(h:bK w ai mc own P ah s inv outv (.slice (some ⟨mg,0,none⟩) s.mem.length aA) rb)(j:Nat)(hj:j<s.mem.length):
  bK (w.setCell ⟨mg,j*3+2,none⟩ (.bool false)) ai mc own P ah {s with mem:=s.mem.modify j dead} inv outv (.slice (some ⟨mg,0,none⟩) s.mem.length aA) rb/\Wr own w (w.setCell ⟨mg,j*3+2,none⟩ (.bool false)):=by
 obtain⟨hr,hm,hs⟩:=h;have XF:=hs.memo mg rfl;have hw:Wr (λk=>k=mg) w (w.setCell ⟨mg,j*3+2,none⟩ (.bool false)):=Wr.cell1 w mg _ _;obtain⟨⟨xs,hx,qO⟩,PD,hinj,hok⟩:=hs.mem;obtain⟨hgb,cs,hgr⟩:=aC hx (g:=mg) rfl;have hne:∀g cs' t,Row w g cs' t->t≠116->¬g=mg:=λg cs' t hr' ht e=>by subst e;exact hr'.ne hgr ht rfl
 have hb:=hs.own mc hm;have Vg:=hs.own mg XF;refine⟨⟨hr.wr hw (hne _ _ _ hr (by decide)),hm,⟨?_,?_,hs.sI,?_,hs.memo,λk hk=>⟨(hs.own k hk).1,fQ (hs.own k hk).2 hw.size⟩⟩⟩,hw.mono (λk hk=>aK (hk▸XF))⟩
 ·exact hs.inp.below (λb o hb'=>World.cell?_of_block (a:=⟨b,o,none⟩) (hw.block b (by omega) (λhf=>by omega)))
 ·refine aF hs.out hw (λg hg=>?_);obtain⟨_,cs',hr'⟩:=aC hs.out hg;exact hne g cs' _ hr' (by decide)
 ·refine⟨⟨xs.set (j*3+2) (.bool false),by rw[List.length_modify];exact(hx.stored (j*3+2) _).1,λk o ho=>?_⟩,λk o hk ho=>?_,λi k=>by rw[List.length_modify];exact hinj i k,hok.kill j⟩
  ·obtain⟨o0,h0,rfl⟩:=cR ho;refine(qO k o0 h0).kill ?_;have hkl:k<s.mem.length:=by
    rcases Nat.lt_or_ge k s.mem.length with h|h
    ·exact h
    ·rw[List.getElem?_eq_none h]at h0;cases h0
   rw[hx.1];omega
  ·obtain⟨o0,h0,rfl⟩:=cR ho;obtain⟨h1,cv,h2,h3⟩:=PD k o0 hk h0;refine⟨h1,cv,h2.wr hw (hne _ _ _ h2 (by decide)),?_⟩;split
   ·exact h3
   ·exact h3
theorem bK.calls{w:World}{ai mc:Nat}{own:Nat->Prop}{P:Value×Value×Value×Value}{ah:Int}{s:St}{inv outv aU:Value}{rb:Nat->Nat}(h:bK w ai mc own P ah s inv outv aU rb)(c:Int):
  bK (w.setCell ⟨mc,12,none⟩ (.int .i64 c)) ai mc own P ah {s with calls:=c} inv outv aU rb:=bK.num (s':={s with calls:=c}) h 12 _ rfl rfl rfl rfl
noncomputable def yz:Code:=(qm (Tryz.f32.body.getD .skip)).getD 3 .skip
noncomputable def JE:Code:=(qm (WA yz)).getD 0 .skip
theorem FX(ai mc:Nat)(cP:Nat->Prop)(P:Value×Value×Value×Value)(ah:Int)(s:St)(fb tb:Nat)(tp:List V)(r9:Value)(lo:List Nat)(w7:World)
  (hM:bG w7 ai mc cP P ah s)(hF:bZ w7 fb tb tp r9 lo)(hO:iD ai cP fb tb r9)(hlo:∀x,x∈lo->x<s.mem.length)(jk:s.mem.length<=4294967296)
  {c1 c2 c3 c4 c5 c6 c7 c8 c10 c11 c12 c13 c14 c15 c17 c18 c19 c20 c21 iU iT iX iW jM jL jK jJ jI jH jG jF jE jD jC jB jA jo jm jy kG kF kE kD kC kB jw c49 kA c51 jY jX jW jV jU jT jS jR jQ jP jO jN kV kU kT kS kR kQ kP kO kN lN kM kL lM lL lK lJ lI lH mY mD mC lG lF lD lC lB lA mX nA nz ny ni m9 m6 mW mV eH eG eF eD ed dZ dY dX dW dV dU dS dR dQ dP dO dN dH dG c119 dD dC eV eU eT eQ eP fC fB fA eZ eY mi lZ lY lX lW zN c138 zM zL Cr Cq Co Cn Cm Ck Cj Ci Ch Cg Cf Ce Cc Cb Ca B6 BZ BX BW BU BS BR BQ zK zJ zI c167 zH zG zF zE zD zC zB BP BO BN BM BL BK BJ BI BH BG BF BD BC BB Bz Hz Hy Hx c193 c194 Hw c196 Hv c198 Hu Ht Hs Hr Hq Ho Hn c206 Hm c208 Hl Hk Hj Hi Hh Hg:Value}(Q:Exit->Act->World->Prop)
  (cL:∀(u16 YC YB YA Yz Yy Yx Yw Yv Yu Yt Yr Yq Yp Yo Yn Ym Yl Yk Yj Yi Yh Yg Yf:Value)(w':World),bG w' ai mc cP P ah {s with mem:=dL s.mem lo}->Wr cP w7 w'->Q (.exit 9) ⟨List.toArray ((Value.pointer (some ⟨mc,0,none⟩))::c1::c2::c3::c4::c5::c6::c7::c8::(Value.pointer (some ⟨fb,0,none⟩))::c10::c11::c12::c13::c14::c15::u16::c17::c18::c19::c20::c21::iU::iT::iX::iW::jM::jL::jK::jJ::jI::jH::jG::jF::jE::jD::jC::jB::jA::jo::jm::jy::kG::kF::kE::kD::kC::kB::jw::c49::kA::c51::jY::jX::jW::jV::jU::jT::jS::jR::jQ::jP::jO::jN::kV::kU::kT::kS::kR::kQ::kP::kO::kN::lN::kM::kL::lM::lL::lK::lJ::lI::lH::mY::mD::mC::lG::lF::lD::lC::lB::lA::mX::nA::nz::ny::ni::m9::m6::mW::mV::eH::eG::eF::eD::ed::dZ::dY::dX::dW::dV::dU::dS::dR::dQ::dP::dO::dN::dH::dG::c119::dD::dC::eV::eU::eT::eQ::eP::fC::fB::fA::eZ::eY::mi::lZ::lY::lX::lW::zN::c138::zM::zL::YC::YB::YA::Yz::Yy::Yx::Yw::Yv::Yu::Yt::Yr::Yq::Yp::Yo::Yn::Ym::Yl::Yk::Yj::Yi::Yh::Yg::Yf::zK::zJ::zI::c167::zH::zG::zF::zE::zD::zC::zB::BP::BO::BN::BM::BL::BK::BJ::BI::BH::BG::BF::BD::BC::BB::Bz::Hz::Hy::Hx::c193::c194::Hw::c196::Hv::c198::Hu::Ht::Hs::Hr::Hq::Ho::Hn::c206::Hm::c208::Hl::Hk::Hj::Hi::Hh::Hg::[]),[]⟩ w'):
  Code.wp prog JE Q ⟨List.toArray ((Value.pointer (some ⟨mc,0,none⟩))::c1::c2::c3::c4::c5::c6::c7::c8::(Value.pointer (some ⟨fb,0,none⟩))::c10::c11::c12::c13::c14::c15::(Value.int .i64 0)::c17::c18::c19::c20::c21::iU::iT::iX::iW::jM::jL::jK::jJ::jI::jH::jG::jF::jE::jD::jC::jB::jA::jo::jm::jy::kG::kF::kE::kD::kC::kB::jw::c49::kA::c51::jY::jX::jW::jV::jU::jT::jS::jR::jQ::jP::jO::jN::kV::kU::kT::kS::kR::kQ::kP::kO::kN::lN::kM::kL::lM::lL::lK::lJ::lI::lH::mY::mD::mC::lG::lF::lD::lC::lB::lA::mX::nA::nz::ny::ni::m9::m6::mW::mV::eH::eG::eF::eD::ed::dZ::dY::dX::dW::dV::dU::dS::dR::dQ::dP::dO::dN::dH::dG::c119::dD::dC::eV::eU::eT::eQ::eP::fC::fB::fA::eZ::eY::mi::lZ::lY::lX::lW::zN::c138::zM::zL::Cr::Cq::Co::Cn::Cm::Ck::Cj::Ci::Ch::Cg::Cf::Ce::Cc::Cb::Ca::B6::BZ::BX::BW::BU::BS::BR::BQ::zK::zJ::zI::c167::zH::zG::zF::zE::zD::zC::zB::BP::BO::BN::BM::BL::BK::BJ::BI::BH::BG::BF::BD::BC::BB::Bz::Hz::Hy::Hx::c193::c194::Hw::c196::Hv::c198::Hu::Ht::Hs::Hr::Hq::Ho::Hn::c206::Hm::c208::Hl::Hk::Hj::Hi::Hh::Hg::[]),[]⟩ w7:=by
 obtain⟨LV,lvc,hlvk⟩:∃A c,r9= .slice A lo.length c:=(by obtain⟨_,h|⟨g,c,cur,h,_⟩⟩:=hF.az;exact⟨none,0,by rw[h.1,h.2]⟩;exact⟨_,_,h⟩)
 subst hlvk;have hlvm:lo.length<=9223372036854775807:=by
  obtain⟨_,h|⟨g,c,cur,_,_,_,h1,h2,_⟩⟩:=hF.az
  ·omega
  ·unfold maxLen at h2;omega
 have HF:=ae hF;have HM:=ae hM;have HO:=ae hO;have Rc:=ae hlo;have uu:=ae cL;clear hM hF hO hlo cL
 conv=>arg 2;whnf
 go_loopw [16] (λi wr=>∃k:Nat,k<=lo.length/\i= .int .i64 k/\bG wr ai mc cP P ah {s with mem:=dL s.mem (lo.take k)}/\Wr cP w7 wr) (λi _=>lo.length-(intOf i).toNat)
 case atStart=>exact⟨0,by omega,rfl,HM.out,Wr.refl _ _⟩
 case round=>
  obtain⟨k2,hk2,rfl,XL,hwk⟩:=hrel;have P6:=HF.wr hwk HO.fb.1 HO.tb.1 (λg hg=>(HO.lv g hg).1);have e5:wr.cell? ⟨fb,1,none⟩=some (.slice LV lo.length lvc):=P6.row.cell (j:=1) rfl;have HMk:=ae XL;have HWK:=ae hwk;by_cases Zv:k2<lo.length
  ·obtain⟨x,hx⟩:∃x,lo[k2]? =some x:=⟨_,List.getElem?_eq_getElem Zv⟩
   obtain⟨lg,rfl,hlgl⟩:∃lg,LV=some ⟨lg,0,none⟩/\lg<wr.heap.size:=(by
    obtain⟨_,h|⟨g,c,cur,h,_,hh,_⟩⟩:=P6.az
    ·omega
    ·injection h with h;exact⟨g,h,Row.lt hh⟩)
   have e6:wr.cell? ⟨lg,k2,none⟩=some (.int .i64 (x:Nat)):=(by
    have:=P6.az.cells (g:=lg) rfl k2 (.int .i64 (x:Nat)) (by rw[List.getElem?_map,hx];rfl);rw[wY]at this;exact this)
   have hxl:x<s.mem.length:=Rc.out x (List.mem_of_getElem? hx);obtain⟨inv,outv,aU,rb,xw⟩:=XL;have hkl:(dL s.mem (lo.take k2)).length=s.mem.length:=mH _ _;obtain⟨⟨xs,hxs,_⟩,_⟩:=xw.rest.mem;obtain⟨mg,UG,hmv⟩:∃mg UG,aU= .slice (some ⟨mg,0,none⟩) (dL s.mem (lo.take k2)).length UG:=(by
    obtain⟨_,h|⟨g,c,cur,h,_⟩⟩:=id hxs
    ·have:=h.2;simp only at this;omega
    ·exact⟨g,c,h⟩)
   subst hmv;have e10:wr.cell? ⟨mc,11,none⟩=some (.slice (some ⟨mg,0,none⟩) s.mem.length UG):=(by rw[<-hkl];exact xw.row.cell (j:=11) rfl)
   obtain⟨u11,e11⟩:∃u,wr.cell? ⟨mg,x*3+2,none⟩=some u:=⟨_,by rw[hxs.cellAt (x*3+2) (by rw[hkl];omega)];exact List.getElem?_eq_getElem (by rw[hxs.1];show _<(dL s.mem (lo.take k2)).length*3;omega)⟩
   have e12:=hxs.frozenAt (x*3+2);have hk1:(k2:Int)<(lo.length:Int):=by omega
   obtain⟨_,csm,Sl⟩:=aC hxs (g:=mg) rfl;have hmn1:¬fb=mg:=λe=>P6.row.ne Sl (by decide) e;have hmn2:¬mg=fb:=λe=>hmn1 e.symm;have hmn3:¬mc=mg:=λe=>xw.row.ne Sl (by decide) e;have hmn4:¬mg=mc:=λe=>hmn3 e.symm;have hmn5:¬lg=mg:=(by obtain⟨_,csl,hr⟩:=aC P6.az (g:=lg) rfl;exact λe=>hr.ne Sl (by decide) e)
   have hmn6:¬mg=lg:=λe=>hmn5 e.symm;clear Sl;have hk0:(0:Int)<=(k2:Int):=by omega
   have hx1:(x:Int)<(s.mem.length:Int):=by omega
   have hx0:(0:Int)<=(x:Int):=by omega
   have D5:=ae xw;have HX:=ae hx;clear xw hxs hx P6 hwk hkl hlgl hxl;go_wp2_with fail;refine aX 14 (by kernel_rfl) (by kernel_rfl) ?_;simp only[List.take_succ_cons,List.take_zero,List.drop_succ_cons,List.drop_zero]
   repeat(go_big_quiet_step (fail))
   refine wpQuiet_nil ?_;go_wp2_with fail;go_roundw
   case rel=>
    obtain⟨hA,hB⟩:=D5.kill x (by show x<(dL s.mem (lo.take k2)).length;rw[mH];omega);have hC:=(bG.below ⟨_,_,_,_,hA⟩ (aV _ _).drew:bG _ ai mc cP P ah _)
    have e:dL s.mem (lo.take (k2+1))=(dL s.mem (lo.take k2)).modify x dead:=by rw[bW HX.out,A9]
    refine⟨k2+1,Zv,by go_num,?_,(HWK.trans hB (λi hi=>aK hi)).trans (eW (aV _ _).drew) (λi hi=>hi.elim)⟩;rw[e];exact hC
   case measure=>simp[intOf];omega
  ·obtain rfl:k2=lo.length:=by omega
   rw[List.take_length]at XL;clear P6 HMk HWK;go_wp2_with fail;exact uu _ _ _ _ _ _ _ _ _ _ _ _ _ _ _ _ _ _ _ _ _ _ _ _ _ XL hwk
end Go.Proofs.YtinmgbodgecoeaaGreat
namespace Go.Proofs.YtinmgbodgecoeaaGreat
open Go.RowKit
theorem bG.JS{w:World}{ai mc:Nat}{own:Nat->Prop}{P:Value×Value×Value×Value}{ah:Int}{s:St}(h:bG w ai mc own P ah s):
  ∃A aA,w.cell? ⟨mc,11,none⟩=some (.slice A s.mem.length aA)/\cK w w.heap.size A s.mem.length s.mem/\mc<w.heap.size:=by
 obtain⟨inv,outv,aU,rb,hr,hm,hs⟩:=h;have c10:w.cell? ⟨mc,11,none⟩=some aU:=hr.cell (j:=11) rfl;obtain⟨⟨xs,hx,qO⟩,su,_,hok⟩:=hs.mem;obtain⟨hxl,hx2⟩:=id hx;rcases hx2 with⟨rfl,h0⟩|⟨g,aA,cur,rfl,_,hg,hcap,_,_,htake⟩
 ·refine⟨none,0,by rw[h0];exact c10,⟨rfl,by omega,λk o hk=>?_⟩,hr.lt⟩;rw[List.getElem?_eq_none (by omega)]at hk;cases hk
 ·refine⟨some ⟨g,0,none⟩,aA,c10,⟨rfl,hok.many,λk o hk=>⟨g,0,rfl,Row.lt hg,?_⟩⟩,hr.lt⟩;have hkl:k<s.mem.length:=by
   rcases Nat.lt_or_ge k s.mem.length with h|h
   ·exact h
   ·rw[List.getElem?_eq_none h]at hk;cases hk
  have hcell:∀j u,xs[j]? =some u->w.cell? ⟨g,0+j,none⟩=some u:=by
   intro j u hj;have:=hx.cells (g:=g) rfl j u hj;rw[wY]at this;simpa using this
  obtain⟨h0,h1,h2⟩:=qO k o hk;by_cases hz:k=0
  ·subst hz;have:=hok.zero o hk;subst this;rw[if_pos rfl]at h1;exact⟨none,0,0,hcell _ _ h0,hcell _ _ h1,hcell _ _ h2,rfl,by omega,by simp,by simp,λj v hj=>by simp at hj⟩
  ·rw[if_neg hz]at h1;obtain⟨hs1,hs2⟩:=hok.size k o (by omega) hk;obtain⟨_,cs,hrow,gT⟩:=su k o (by omega) hk;exact⟨_,_,_,hcell _ _ h0,hcell _ _ h1,hcell _ _ h2,rfl,hs2,by omega,by omega,λj v hj=>⟨rb k,0,rfl,hrow.lt,by rw[Nat.zero_add];exact⟨hrow.cell (gT.2 j v hj).1,hrow.cell (gT.2 j v hj).2⟩⟩⟩
theorem aZ{F:Nat->Prop}{w w':World}{b o:Nat}{u:Value}(h:w.cell? ⟨b,o,none⟩=some u)(hw:Wr F w w')(hlt:b<w.heap.size)(hn:¬F b):w'.cell? ⟨b,o,none⟩=some u:=(World.cell?_of_block (a:=⟨b,o,none⟩) (hw.block b hlt hn)).trans h
theorem tH{r:Option V}{e:Ending}(h:e= .returned (aO r)):cN r e:=by
 cases r with
 |none=>exact⟨0,0,h⟩
 |some v=>exact h
def FR(s:St)(tp:List V)(m:Nat):Option V->Bool×St×List V
 |none=>(false,{s with kind:=3},tp)
 |some v=>(true,s,tp.set m v)
theorem qB{c:aR}{ng nf:Nat}{par:Int->Int->Bool}{R:bT}{lo:List Nat}{s:St}{tp:List V}{op:Int}{m:Nat}{a b n:Int}{arg:List Int}(hi:pP c ng nf par ⟨op,(m:Int),a,b,n,arg⟩)(h8:op<=8):
  aW R lo s tp (aT ⟨op,(m:Int),a,b,n,arg⟩)=FR s tp m (vK (au s.mem) tp lo ⟨op,(m:Int),a,b,n,arg⟩):=by
 have hev:=Dt (M:=au s.mem) (tp:=tp) (lo:=lo) hi h8;rw[lu]at hev;have hop:=hi.ops;simp only at hop;have hst:(aT ⟨op,(m:Int),a,b,n,arg⟩).op=1/\(aT ⟨op,(m:Int),a,b,n,arg⟩).to=(m:Int):=by
  have hs:op=1\/op=2\/op=3\/op=4\/op=5\/op=6\/op=7\/op=8:=by omega
  rcases hs with rfl|rfl|rfl|rfl|rfl|rfl|rfl|rfl<;>exact⟨rfl,rfl⟩
 unfold aW;rw[hev];cases vK (au s.mem) tp lo ⟨op,(m:Int),a,b,n,arg⟩with
 |none=>rfl
 |some v=>
  show kX R s tp _ [v]=_;unfold kX;rw[if_pos hst.1,hst.2,iw];rfl
theorem Mm(ai mc fb tb:Nat)(own:Nat->Prop)(P:Value×Value×Value×Value)(lv:Value)(ah:Int)(s:St)(tp:List V)(lo:List Nat)(m ma mb:Nat)(va vb:V)(n:Int)(AV:Value)(r:Option V)(w:World)
  (h:bG w ai mc own P ah s)(hF:bZ w fb tb tp lv lo)(hO:iD ai own fb tb lv)(hk:s.kind=0)(xu:m<tp.length)(Ew:tp[ma]? =some va)(UK:tp[mb]? =some vb)(pW:rG s.mem.length va)(ug:rG s.mem.length vb)(hn:12<=n/\n<=30)(hr:r=dm bF s.mem n va vb):
  Calls prog 54 #[.pointer (some ⟨mc,0,none⟩),.pointer (some ⟨fb,0,none⟩),.agg #[.int .i64 5,.int .i64 (m:Int),.int .i64 (ma:Int),.int .i64 (mb:Int),.int .i64 n,AV]] w λe w'=>lR ai mc P ah fb tb lv lo own (FR s tp m r) w e w':=by
 have HC:=ae (λW(hW:Below w.heap.size w W)=>(by obtain⟨A',cap',c0,CG,Be⟩:=(h.below hW).JS;have hc:=wR mc 11 A' s.mem.length cap' W.heap.size n va vb s.mem W (aY _) Be c0 CG pW.1 ug.1 pW.2.1 ug.2.1 pW.2.2 ug.2.2 hn.1 hn.2;rw[<-hr]at hc;exact hc.mono (λe w' h=>⟨tH h.1,h.2⟩):Calls prog 67 #[.pointer (some ⟨mc,11,none⟩),.int .i64 n,.agg #[.int .i64 va.obj,.int .i64 va.n],.agg #[.int .i64 vb.obj,.int .i64 vb.n]] W λe w'=>cN r e/\Below W.heap.size W w'));have IK:=ae (show own mc from by obtain⟨_,_,_,_,h⟩:=h;exact h.mine);have QA:=ae (λW(hM:bG W ai mc own P ah s)=>(show iJ 3 s={s with kind:=3}from by unfold iJ;rw[if_pos hk])▸iy ai mc own P ah 3 s W hM)
 have HOW:=ae (show∀k,own k->ai<=k/\k<w.heap.size from by obtain⟨_,_,_,_,h⟩:=h;exact h.rest.own);have cB:=ae (show ai<=w.heap.size from by obtain⟨_,_,_,_,h⟩:=h;have:=h.rest.own mc h.mine;omega);have f0:=hF.row.cell (j:=0) rfl;have hfb:=hF.row.lt;obtain⟨cs,pJ,hcs,hvs⟩:=id hF.bN;have htl:=pJ.lt;have sO:=hF.few;have uQ:(m:Int)<(tp.length:Int):=by omega
 have hm0:(0:Int)<=(m:Int):=by omega
 have W8:=ae xu;have CB:=ae f0;have hA:=hvs ma va Ew;have Th:=ae (pJ.cell hA.1);have QU:=ae (pJ.cell hA.2);have zo:(0:Int)<=(ma:Int):=by omega
 have MV:(ma:Int)<(tp.length:Int):=by have:=(List.getElem?_eq_some_iff.1 Ew).1;omega
 have hB:=hvs mb vb UK;have yj:=ae (pJ.cell hB.1);have bQ:=ae (pJ.cell hB.2);have hmb0:(0:Int)<=(mb:Int):=by omega
 have hmbl:(mb:Int)<(tp.length:Int):=by have:=(List.getElem?_eq_some_iff.1 UK).1;omega
 have bC:=ae (aB w (.cells #[.int .i64 5,.int .i64 (m:Int),.int .i64 (ma:Int),.int .i64 (mb:Int),.int .i64 n,AV] 94) (.cells #[.int .i64 0,.int .i64 0] 75));have jh:=ae ((Row.new w #[.int .i64 5,.int .i64 (m:Int),.int .i64 (ma:Int),.int .i64 (mb:Int),.int .i64 n,AV] 94).alloc (.cells #[.int .i64 0,.int .i64 0] 75));have Aa:=ae (Row.new' (w:=w.alloc (.cells #[.int .i64 5,.int .i64 (m:Int),.int .i64 (ma:Int),.int .i64 (mb:Int),.int .i64 n,AV] 94)) (g:=w.heap.size+1) #[.int .i64 0,.int .i64 0] 75 (by simp))
 have KS:=ae (λ(W:World)(hW:Wr (λk=>k=w.heap.size+1) ((w.alloc (.cells #[.int .i64 5,.int .i64 (m:Int),.int .i64 (ma:Int),.int .i64 (mb:Int),.int .i64 n,AV] 94)).alloc (.cells #[.int .i64 0,.int .i64 0] 75)) W)=>(⟨aZ (ag CB.out bC.out hfb) hW (fQ hfb bC.size) (by omega),(jh.wr hW (by omega)).cell (j:=2) rfl,(jh.wr hW (by omega)).cell (j:=3) rfl,(jh.wr hW (by omega)).cell (j:=4) rfl,aZ (ag Th.out bC.out htl) hW (fQ htl bC.size) (by omega),aZ (ag QU.out bC.out htl) hW (fQ htl bC.size) (by omega),aZ (ag yj.out bC.out htl) hW (fQ htl bC.size) (by omega),aZ (ag bQ.out bC.out htl) hW (fQ htl bC.size) (by omega)⟩:W.cell? ⟨fb,0,none⟩=some (.slice (some ⟨tb,0,none⟩) tp.length tp.length)/\W.cell? ⟨w.heap.size,2,none⟩=some (.int .i64 (ma:Int))/\W.cell? ⟨w.heap.size,3,none⟩=some (.int .i64 (mb:Int))/\W.cell? ⟨w.heap.size,4,none⟩=some (.int .i64 n)/\W.cell? ⟨tb,ma*2,none⟩=some (.int .i64 va.obj)/\W.cell? ⟨tb,ma*2+1,none⟩=some (.int .i64 va.n)/\W.cell? ⟨tb,mb*2,none⟩=some (.int .i64 vb.obj)/\W.cell? ⟨tb,mb*2+1,none⟩=some (.int .i64 vb.n)))
 have HH:=ae h;have HF:=ae hF;have HO:=ae hO;clear h hF hO pJ hvs hcs hk f0 hA hB Ew UK pW ug hn hr;cases r with
 |none=>
  go_enter func54,ntmps54;refine aj λQ HQ=>?_;go_wp2_with fail
  go_region_held3 (λw'=>w'.cell? ⟨fb,0,none⟩=some (.slice (some ⟨tb,0,none⟩) tp.length tp.length)/\w'.cell? ⟨w.heap.size,2,none⟩=some (.int .i64 (ma:Int))/\w'.cell? ⟨w.heap.size,3,none⟩=some (.int .i64 (mb:Int))/\w'.cell? ⟨w.heap.size,4,none⟩=some (.int .i64 n)/\w'.cell? ⟨tb,ma*2,none⟩=some (.int .i64 va.obj)/\w'.cell? ⟨tb,ma*2+1,none⟩=some (.int .i64 va.n)/\w'.cell? ⟨tb,mb*2,none⟩=some (.int .i64 vb.obj)/\w'.cell? ⟨tb,mb*2+1,none⟩=some (.int .i64 vb.n)) ((refine KS.out _ ?_;repeat(first|exact Wr.refl _ _|refine Wr.bR ?_|refine Wr.bH ?_ _|refine Wr.trans (G:=λ_=>False) ?_ (Wr.of_below eO.out) (λi hi=>hi.elim)|refine Wr.cJ (F:=λk=>k=w.heap.size+1) ?_ _ _ _ (by first|exact aK rfl|(refine bu ?_;simp;omega))))) ((go_at_call 67;have sU:=ae (bC.drew);have CA:=ae (Aa.drew);have yV:=ae (jh.drew);refine(HC _ sU.out).mono ?_;rintro e w3 ⟨⟨y0,y1,rfl⟩,hb3⟩;have eO:=ae hb3;have hz3:=hb3.size;have fO:=ae (sU.trans (hb3.mono sU.size));have mr:=(CA.out).below hb3 CA.lt;have p0:=mr.cell (j:=0) rfl;have p1:=mr.cell (j:=1) rfl;have p2:=mr.free 0;have p3:=mr.free 1;have p4:=mr.lt;have E7:=ae (yV.below hb3 yV.lt);clear hb3 mr))
  have zu:=HH.below fO.out;have ig:=HF.below fO.out;have vT:=fO.size;have cS:=ae (Ej zu ig (w.heap.size+1) ⟨by have:=cB.out;omega,λho=>by have:=(HOW _ ho).2;omega⟩ (by omega) (by omega) (λg hg=>by obtain⟨_,cs',hr'⟩:=aC HF.az hg;have:=hr'.lt;omega) (.int .i64 y0) (.int .i64 y1));clear zu ig;go_wp2_with fail;refine(QA _ cS.1).mono ?_;rintro e w4 ⟨rfl,DK,hw4⟩;have NN:=ae DK;have zQ:=ae hw4;clear DK hw4;go_wp2_with fail;refine HQ _ _ _ ?_
  exact aS (v:= .bool false) (by simp[results,results54,go_sem]) rfl ⟨rfl,own,λ_ h=>h,λ_ h=>aK h,NN.out,(λh=>Bool.noConfusion h),(((Wr.of_below (F:=λb=>own b\/b=tb) fO.out).trans cS.2.2 (λi hi=>bu (by omega))).trans zQ (λi hi=>aK (aK (by have:i=mc:=hi;rw[this];exact IK.out))))⟩
 |some v=>
  go_enter func54,ntmps54;refine aj λQ HQ=>?_;go_wp2_with fail
  go_region_held3 (λw'=>w'.cell? ⟨fb,0,none⟩=some (.slice (some ⟨tb,0,none⟩) tp.length tp.length)/\w'.cell? ⟨w.heap.size,2,none⟩=some (.int .i64 (ma:Int))/\w'.cell? ⟨w.heap.size,3,none⟩=some (.int .i64 (mb:Int))/\w'.cell? ⟨w.heap.size,4,none⟩=some (.int .i64 n)/\w'.cell? ⟨tb,ma*2,none⟩=some (.int .i64 va.obj)/\w'.cell? ⟨tb,ma*2+1,none⟩=some (.int .i64 va.n)/\w'.cell? ⟨tb,mb*2,none⟩=some (.int .i64 vb.obj)/\w'.cell? ⟨tb,mb*2+1,none⟩=some (.int .i64 vb.n)) ((refine KS.out _ ?_;repeat(first|exact Wr.refl _ _|refine Wr.bR ?_|refine Wr.bH ?_ _|refine Wr.trans (G:=λ_=>False) ?_ (Wr.of_below eO.out) (λi hi=>hi.elim)|refine Wr.cJ (F:=λk=>k=w.heap.size+1) ?_ _ _ _ (by first|exact aK rfl|(refine bu ?_;simp;omega))))) ((go_at_call 67;have sU:=ae (bC.drew);have CA:=ae (Aa.drew);have yV:=ae (jh.drew);refine(HC _ sU.out).mono ?_;rintro e w3 ⟨he,hb3⟩;simp only[cN,aO]at he;subst he;have eO:=ae hb3;have hz3:=hb3.size;have fO:=ae (sU.trans (hb3.mono sU.size));have mr:=(CA.out).below hb3 CA.lt;have p0:=mr.cell (j:=0) rfl;have p1:=mr.cell (j:=1) rfl;have p2:=mr.free 0;have p3:=mr.free 1;have p4:=mr.lt;have E7:=ae (yV.below hb3 yV.lt);clear hb3 mr))
  have zu:=HH.below fO.out;have ig:=HF.below fO.out;have vT:=fO.size;have cS:=ae (Ej zu ig (w.heap.size+1) ⟨by have:=cB.out;omega,λho=>by have:=(HOW _ ho).2;omega⟩ (by omega) (by omega) (λg hg=>by obtain⟨_,cs',hr'⟩:=aC HF.az hg;have:=hr'.lt;omega) (.int .i64 v.obj) (.int .i64 v.n));have e1:=E7.cell (j:=1) rfl;have e1l:=E7.lt;have ft:=ig.row.cell (j:=0) rfl;have XN:=ig.row.lt;obtain⟨XO,i9,vV⟩:=id ig.bN;have ttl:=i9.lt;obtain⟨lT,lS⟩:=vV.2 m _ (List.getElem?_eq_getElem W8.out);have t0:=i9.cell lT;have t1:=i9.cell lS;have t2:=i9.free (m*2);have t3:=i9.free (m*2+1);have rT:¬fb=w.heap.size+1:=by omega
  have GH:¬tb=w.heap.size+1:=by omega
  clear zu ig i9 vV lT lS;go_wp2_with fail;refine aX 8 (by kernel_rfl) (by kernel_rfl) ?_;simp only[List.take_succ_cons,List.take_zero,List.drop_succ_cons,List.drop_zero]
  repeat(go_big_quiet_step (fail))
  refine wpQuiet_nil ?_;go_wp2_with fail;refine HQ _ _ _ ?_;have E:=rf cS.1 cS.2.1 HO (aV _ _) m v;have hbz:=(aV ((((w3.setCell ⟨w.heap.size+1,0,none⟩ (.int .i64 v.obj)).setCell ⟨w.heap.size+1,1,none⟩ (.int .i64 v.n)).setCell ⟨tb,m*2,none⟩ (.int .i64 v.obj)).setCell ⟨tb,m*2+1,none⟩ (.int .i64 v.n)).heap.size ((((w3.setCell ⟨w.heap.size+1,0,none⟩ (.int .i64 v.obj)).setCell ⟨w.heap.size+1,1,none⟩ (.int .i64 v.n)).setCell ⟨tb,m*2,none⟩ (.int .i64 v.obj)).setCell ⟨tb,m*2+1,none⟩ (.int .i64 v.n))).drew
  exact aS (v:= .bool true) (by simp[results,results54,go_sem]) rfl ⟨rfl,own,λ_ h=>h,λ_ h=>aK h,E.1.below hbz,λ_=>E.2.1.below hbz,((((Wr.of_below (F:=λb=>own b\/b=tb) fO.out).trans cS.2.2 (λi hi=>bu (by omega))).trans E.2.2 (λi hi=>aK hi)).trans (eW hbz) (λi hi=>hi.elim))⟩
theorem JC(ai mc fb tb:Nat)(own:Nat->Prop)(P:Value×Value×Value×Value)(lv:Value)(ah:Int)(s:St)(tp:List V)(lo:List Nat)(m ma ab qU ac:Nat)(va:V)(n b xv:Int)(r:Option V)(w:World)
  (h:bG w ai mc own P ah s)(hF:bZ w fb tb tp lv lo)(hO:iD ai own fb tb lv)(hk:s.kind=0)(xu:m<tp.length)(Ew:tp[ma]? =some va)(pW:rG s.mem.length va)(pI:In64 xv)(hn:12<=n/\n<=30)(hab:ab<w.heap.size)(Ks:w.cell? ⟨ab,qU,none⟩=some (.int .i64 xv))(hr:r=dm bF s.mem n va ⟨0,xv⟩):
  Calls prog 54 #[.pointer (some ⟨mc,0,none⟩),.pointer (some ⟨fb,0,none⟩),.agg #[.int .i64 6,.int .i64 (m:Int),.int .i64 (ma:Int),.int .i64 b,.int .i64 n,.slice (some ⟨ab,qU,none⟩) 1 ac]] w λe w'=>lR ai mc P ah fb tb lv lo own (FR s tp m r) w e w':=by
 have HC:=ae (λW(hW:Below w.heap.size w W)=>have ug:rG s.mem.length ⟨0,xv⟩:=⟨λh=>absurd rfl h,λh=>absurd rfl h,pI⟩;(by obtain⟨A',cap',c0,CG,Be⟩:=(h.below hW).JS;have hc:=wR mc 11 A' s.mem.length cap' W.heap.size n va ⟨0,xv⟩ s.mem W (aY _) Be c0 CG pW.1 ug.1 pW.2.1 ug.2.1 pW.2.2 ug.2.2 hn.1 hn.2;rw[<-hr]at hc;exact hc.mono (λe w' h=>⟨tH h.1,h.2⟩):Calls prog 67 #[.pointer (some ⟨mc,11,none⟩),.int .i64 n,.agg #[.int .i64 va.obj,.int .i64 va.n],.agg #[.int .i64 0,.int .i64 xv]] W λe w'=>cN r e/\Below W.heap.size W w'));have IK:=ae (show own mc from by obtain⟨_,_,_,_,h⟩:=h;exact h.mine)
 have QA:=ae (λW(hM:bG W ai mc own P ah s)=>(show iJ 3 s={s with kind:=3}from by unfold iJ;rw[if_pos hk])▸iy ai mc own P ah 3 s W hM);have HOW:=ae (show∀k,own k->ai<=k/\k<w.heap.size from by obtain⟨_,_,_,_,h⟩:=h;exact h.rest.own);have cB:=ae (show ai<=w.heap.size from by obtain⟨_,_,_,_,h⟩:=h;have:=h.rest.own mc h.mine;omega);have f0:=hF.row.cell (j:=0) rfl;have hfb:=hF.row.lt;obtain⟨cs,pJ,hcs,hvs⟩:=id hF.bN;have htl:=pJ.lt;have sO:=hF.few;have uQ:(m:Int)<(tp.length:Int):=by omega
 have hm0:(0:Int)<=(m:Int):=by omega
 have W8:=ae xu;have CB:=ae f0;have zP:=ae Ks;have hA:=hvs ma va Ew;have Th:=ae (pJ.cell hA.1);have QU:=ae (pJ.cell hA.2);have zo:(0:Int)<=(ma:Int):=by omega
 have MV:(ma:Int)<(tp.length:Int):=by have:=(List.getElem?_eq_some_iff.1 Ew).1;omega
 have bC:=ae (aB w (.cells #[.int .i64 6,.int .i64 (m:Int),.int .i64 (ma:Int),.int .i64 b,.int .i64 n,.slice (some ⟨ab,qU,none⟩) 1 ac] 94) (.cells #[.int .i64 0,.int .i64 0] 75));have jh:=ae ((Row.new w #[.int .i64 6,.int .i64 (m:Int),.int .i64 (ma:Int),.int .i64 b,.int .i64 n,.slice (some ⟨ab,qU,none⟩) 1 ac] 94).alloc (.cells #[.int .i64 0,.int .i64 0] 75));have Aa:=ae (Row.new' (w:=w.alloc (.cells #[.int .i64 6,.int .i64 (m:Int),.int .i64 (ma:Int),.int .i64 b,.int .i64 n,.slice (some ⟨ab,qU,none⟩) 1 ac] 94)) (g:=w.heap.size+1) #[.int .i64 0,.int .i64 0] 75 (by simp))
 have KS:=ae (λ(W:World)(hW:Wr (λk=>k=w.heap.size+1) ((w.alloc (.cells #[.int .i64 6,.int .i64 (m:Int),.int .i64 (ma:Int),.int .i64 b,.int .i64 n,.slice (some ⟨ab,qU,none⟩) 1 ac] 94)).alloc (.cells #[.int .i64 0,.int .i64 0] 75)) W)=>(⟨aZ (ag CB.out bC.out hfb) hW (fQ hfb bC.size) (by omega),(jh.wr hW (by omega)).cell (j:=2) rfl,(jh.wr hW (by omega)).cell (j:=4) rfl,(jh.wr hW (by omega)).cell (j:=5) rfl,aZ (ag zP.out bC.out hab) hW (fQ hab bC.size) (by omega),aZ (ag Th.out bC.out htl) hW (fQ htl bC.size) (by omega),aZ (ag QU.out bC.out htl) hW (fQ htl bC.size) (by omega)⟩:W.cell? ⟨fb,0,none⟩=some (.slice (some ⟨tb,0,none⟩) tp.length tp.length)/\W.cell? ⟨w.heap.size,2,none⟩=some (.int .i64 (ma:Int))/\W.cell? ⟨w.heap.size,4,none⟩=some (.int .i64 n)/\W.cell? ⟨w.heap.size,5,none⟩=some (.slice (some ⟨ab,qU,none⟩) 1 ac)/\W.cell? ⟨ab,qU,none⟩=some (.int .i64 xv)/\W.cell? ⟨tb,ma*2,none⟩=some (.int .i64 va.obj)/\W.cell? ⟨tb,ma*2+1,none⟩=some (.int .i64 va.n)))
 have HH:=ae h;have HF:=ae hF;have HO:=ae hO;clear h hF hO pJ hvs hcs hk f0 hA Ew pW pI hn hr Ks;cases r with
 |none=>
  go_enter func54,ntmps54;refine aj λQ HQ=>?_;go_wp2_with fail
  go_region_held3 (λw'=>w'.cell? ⟨fb,0,none⟩=some (.slice (some ⟨tb,0,none⟩) tp.length tp.length)/\w'.cell? ⟨w.heap.size,2,none⟩=some (.int .i64 (ma:Int))/\w'.cell? ⟨w.heap.size,4,none⟩=some (.int .i64 n)/\w'.cell? ⟨w.heap.size,5,none⟩=some (.slice (some ⟨ab,qU,none⟩) 1 ac)/\w'.cell? ⟨ab,qU,none⟩=some (.int .i64 xv)/\w'.cell? ⟨tb,ma*2,none⟩=some (.int .i64 va.obj)/\w'.cell? ⟨tb,ma*2+1,none⟩=some (.int .i64 va.n)) ((refine KS.out _ ?_;repeat(first|exact Wr.refl _ _|refine Wr.bR ?_|refine Wr.bH ?_ _|refine Wr.trans (G:=λ_=>False) ?_ (Wr.of_below eO.out) (λi hi=>hi.elim)|refine Wr.cJ (F:=λk=>k=w.heap.size+1) ?_ _ _ _ (by first|exact aK rfl|(refine bu ?_;simp;omega))))) ((go_at_call 67;have sU:=ae (bC.drew);have CA:=ae (Aa.drew);have yV:=ae (jh.drew);refine(HC _ sU.out).mono ?_;rintro e w3 ⟨⟨y0,y1,rfl⟩,hb3⟩;have eO:=ae hb3;have hz3:=hb3.size;have fO:=ae (sU.trans (hb3.mono sU.size));have mr:=(CA.out).below hb3 CA.lt;have p0:=mr.cell (j:=0) rfl;have p1:=mr.cell (j:=1) rfl;have p2:=mr.free 0;have p3:=mr.free 1;have p4:=mr.lt;have E7:=ae (yV.below hb3 yV.lt);clear hb3 mr))
  have zu:=HH.below fO.out;have ig:=HF.below fO.out;have vT:=fO.size;have cS:=ae (Ej zu ig (w.heap.size+1) ⟨by have:=cB.out;omega,λho=>by have:=(HOW _ ho).2;omega⟩ (by omega) (by omega) (λg hg=>by obtain⟨_,cs',hr'⟩:=aC HF.az hg;have:=hr'.lt;omega) (.int .i64 y0) (.int .i64 y1));clear zu ig;go_wp2_with fail;refine(QA _ cS.1).mono ?_;rintro e w4 ⟨rfl,DK,hw4⟩;have NN:=ae DK;have zQ:=ae hw4;clear DK hw4;go_wp2_with fail;refine HQ _ _ _ ?_
  exact aS (v:= .bool false) (by simp[results,results54,go_sem]) rfl ⟨rfl,own,λ_ h=>h,λ_ h=>aK h,NN.out,(λh=>Bool.noConfusion h),(((Wr.of_below (F:=λb=>own b\/b=tb) fO.out).trans cS.2.2 (λi hi=>bu (by omega))).trans zQ (λi hi=>aK (aK (by have:i=mc:=hi;rw[this];exact IK.out))))⟩
 |some v=>
  go_enter func54,ntmps54;refine aj λQ HQ=>?_;go_wp2_with fail
  go_region_held3 (λw'=>w'.cell? ⟨fb,0,none⟩=some (.slice (some ⟨tb,0,none⟩) tp.length tp.length)/\w'.cell? ⟨w.heap.size,2,none⟩=some (.int .i64 (ma:Int))/\w'.cell? ⟨w.heap.size,4,none⟩=some (.int .i64 n)/\w'.cell? ⟨w.heap.size,5,none⟩=some (.slice (some ⟨ab,qU,none⟩) 1 ac)/\w'.cell? ⟨ab,qU,none⟩=some (.int .i64 xv)/\w'.cell? ⟨tb,ma*2,none⟩=some (.int .i64 va.obj)/\w'.cell? ⟨tb,ma*2+1,none⟩=some (.int .i64 va.n)) ((refine KS.out _ ?_;repeat(first|exact Wr.refl _ _|refine Wr.bR ?_|refine Wr.bH ?_ _|refine Wr.trans (G:=λ_=>False) ?_ (Wr.of_below eO.out) (λi hi=>hi.elim)|refine Wr.cJ (F:=λk=>k=w.heap.size+1) ?_ _ _ _ (by first|exact aK rfl|(refine bu ?_;simp;omega))))) ((go_at_call 67;have sU:=ae (bC.drew);have CA:=ae (Aa.drew);have yV:=ae (jh.drew);refine(HC _ sU.out).mono ?_;rintro e w3 ⟨he,hb3⟩;simp only[cN,aO]at he;subst he;have eO:=ae hb3;have hz3:=hb3.size;have fO:=ae (sU.trans (hb3.mono sU.size));have mr:=(CA.out).below hb3 CA.lt;have p0:=mr.cell (j:=0) rfl;have p1:=mr.cell (j:=1) rfl;have p2:=mr.free 0;have p3:=mr.free 1;have p4:=mr.lt;have E7:=ae (yV.below hb3 yV.lt);clear hb3 mr))
  have zu:=HH.below fO.out;have ig:=HF.below fO.out;have vT:=fO.size;have cS:=ae (Ej zu ig (w.heap.size+1) ⟨by have:=cB.out;omega,λho=>by have:=(HOW _ ho).2;omega⟩ (by omega) (by omega) (λg hg=>by obtain⟨_,cs',hr'⟩:=aC HF.az hg;have:=hr'.lt;omega) (.int .i64 v.obj) (.int .i64 v.n));have e1:=E7.cell (j:=1) rfl;have e1l:=E7.lt;have ft:=ig.row.cell (j:=0) rfl;have XN:=ig.row.lt;obtain⟨XO,i9,vV⟩:=id ig.bN;have ttl:=i9.lt;obtain⟨lT,lS⟩:=vV.2 m _ (List.getElem?_eq_getElem W8.out);have t0:=i9.cell lT;have t1:=i9.cell lS;have t2:=i9.free (m*2);have t3:=i9.free (m*2+1);have rT:¬fb=w.heap.size+1:=by omega
  have GH:¬tb=w.heap.size+1:=by omega
  clear zu ig i9 vV lT lS;go_wp2_with fail;refine aX 8 (by kernel_rfl) (by kernel_rfl) ?_;simp only[List.take_succ_cons,List.take_zero,List.drop_succ_cons,List.drop_zero]
  repeat(go_big_quiet_step (fail))
  refine wpQuiet_nil ?_;go_wp2_with fail;refine HQ _ _ _ ?_;have E:=rf cS.1 cS.2.1 HO (aV _ _) m v;have hbz:=(aV ((((w3.setCell ⟨w.heap.size+1,0,none⟩ (.int .i64 v.obj)).setCell ⟨w.heap.size+1,1,none⟩ (.int .i64 v.n)).setCell ⟨tb,m*2,none⟩ (.int .i64 v.obj)).setCell ⟨tb,m*2+1,none⟩ (.int .i64 v.n)).heap.size ((((w3.setCell ⟨w.heap.size+1,0,none⟩ (.int .i64 v.obj)).setCell ⟨w.heap.size+1,1,none⟩ (.int .i64 v.n)).setCell ⟨tb,m*2,none⟩ (.int .i64 v.obj)).setCell ⟨tb,m*2+1,none⟩ (.int .i64 v.n))).drew
  exact aS (v:= .bool true) (by simp[results,results54,go_sem]) rfl ⟨rfl,own,λ_ h=>h,λ_ h=>aK h,E.1.below hbz,λ_=>E.2.1.below hbz,((((Wr.of_below (F:=λb=>own b\/b=tb) fO.out).trans cS.2.2 (λi hi=>bu (by omega))).trans E.2.2 (λi hi=>aK hi)).trans (eW hbz) (λi hi=>hi.elim))⟩
theorem OJ(ai mc fb tb:Nat)(own:Nat->Prop)(P:Value×Value×Value×Value)(lv:Value)(ah:Int)(s:St)(tp:List V)(lo:List Nat)(m ma:Nat)(va:V)(n b:Int)(AV:Value)(r:Option V)(w:World)
  (h:bG w ai mc own P ah s)(hF:bZ w fb tb tp lv lo)(hO:iD ai own fb tb lv)(hk:s.kind=0)(xu:m<tp.length)(Ew:tp[ma]? =some va)(pW:rG s.mem.length va)(hn:31<=n/\n<=36)(hr:r=if va.obj=0 then some ⟨0,CN n va.n⟩else none):
  Calls prog 54 #[.pointer (some ⟨mc,0,none⟩),.pointer (some ⟨fb,0,none⟩),.agg #[.int .i64 7,.int .i64 (m:Int),.int .i64 (ma:Int),.int .i64 b,.int .i64 n,AV]] w λe w'=>lR ai mc P ah fb tb lv lo own (FR s tp m r) w e w':=by
 have HC:=ae (λW(hW:Below w.heap.size w W)(lb:Nat)(hrl:Row W lb #[.int .i64 va.obj,.int .i64 va.n] 75)=>(by
  obtain⟨A',cap',c0,CG,Be⟩:=(h.below hW).JS;have hc:=NH mc 11 lb 0 1 A' s.mem.length cap' W.heap.size n [va] s.mem W (aY _) Be hrl.lt c0 CG (λv hv=>by simp only[List.mem_singleton]at hv;subst hv;exact pW) (λj v hj=>by
   rw[List.getElem?_cons]at hj;split at hj
   ·rename_i hj0;subst hj0;injection hj with hj;subst hj;exact⟨hrl.cell (j:=0) rfl,hrl.cell (j:=1) rfl⟩
   ·simp at hj) (by omega) (by omega) (by rw[if_neg (by omega)];rfl)
  rw[show pO s.mem n [va]=r from by rw[hr];unfold pO;rw[if_neg (by omega),if_pos (by omega)];rfl]at hc;exact hc:Calls prog 68 #[.pointer (some ⟨mc,11,none⟩),.int .i64 n,.slice (some ⟨lb,0,none⟩) 1 1] W λe w'=>cN r e/\Below W.heap.size W w'))
 have IK:=ae (show own mc from by obtain⟨_,_,_,_,h⟩:=h;exact h.mine);have QA:=ae (λW(hM:bG W ai mc own P ah s)=>(show iJ 3 s={s with kind:=3}from by unfold iJ;rw[if_pos hk])▸iy ai mc own P ah 3 s W hM);have HOW:=ae (show∀k,own k->ai<=k/\k<w.heap.size from by obtain⟨_,_,_,_,h⟩:=h;exact h.rest.own);have cB:=ae (show ai<=w.heap.size from by obtain⟨_,_,_,_,h⟩:=h;have:=h.rest.own mc h.mine;omega);have f0:=hF.row.cell (j:=0) rfl;have hfb:=hF.row.lt;obtain⟨cs,pJ,hcs,hvs⟩:=id hF.bN;have htl:=pJ.lt;have sO:=hF.few;have uQ:(m:Int)<(tp.length:Int):=by omega
 have hm0:(0:Int)<=(m:Int):=by omega
 have W8:=ae xu;have CB:=ae f0;have hA:=hvs ma va Ew;have Th:=ae (pJ.cell hA.1);have QU:=ae (pJ.cell hA.2);have zo:(0:Int)<=(ma:Int):=by omega
 have MV:(ma:Int)<(tp.length:Int):=by have:=(List.getElem?_eq_some_iff.1 Ew).1;omega
 have bC:=ae (aB w (.cells #[.int .i64 7,.int .i64 (m:Int),.int .i64 (ma:Int),.int .i64 b,.int .i64 n,AV] 94) (.cells #[.int .i64 0,.int .i64 0] 75));have jh:=ae ((Row.new w #[.int .i64 7,.int .i64 (m:Int),.int .i64 (ma:Int),.int .i64 b,.int .i64 n,AV] 94).alloc (.cells #[.int .i64 0,.int .i64 0] 75));have Aa:=ae (Row.new' (w:=w.alloc (.cells #[.int .i64 7,.int .i64 (m:Int),.int .i64 (ma:Int),.int .i64 b,.int .i64 n,AV] 94)) (g:=w.heap.size+1) #[.int .i64 0,.int .i64 0] 75 (by simp))
 have KS:=ae (λ(W:World)(hW:Wr (λk=>k=w.heap.size+1) ((w.alloc (.cells #[.int .i64 7,.int .i64 (m:Int),.int .i64 (ma:Int),.int .i64 b,.int .i64 n,AV] 94)).alloc (.cells #[.int .i64 0,.int .i64 0] 75)) W)=>(⟨aZ (ag CB.out bC.out hfb) hW (fQ hfb bC.size) (by omega),(jh.wr hW (by omega)).cell (j:=2) rfl,(jh.wr hW (by omega)).cell (j:=4) rfl,aZ (ag Th.out bC.out htl) hW (fQ htl bC.size) (by omega),aZ (ag QU.out bC.out htl) hW (fQ htl bC.size) (by omega)⟩:W.cell? ⟨fb,0,none⟩=some (.slice (some ⟨tb,0,none⟩) tp.length tp.length)/\W.cell? ⟨w.heap.size,2,none⟩=some (.int .i64 (ma:Int))/\W.cell? ⟨w.heap.size,4,none⟩=some (.int .i64 n)/\W.cell? ⟨tb,ma*2,none⟩=some (.int .i64 va.obj)/\W.cell? ⟨tb,ma*2+1,none⟩=some (.int .i64 va.n)))
 have HH:=ae h;have HF:=ae hF;have HO:=ae hO;clear h hF hO pJ hvs hcs hk f0 hA Ew pW hn hr;cases r with
 |none=>
  go_enter func54,ntmps54;refine aj λQ HQ=>?_;go_wp2_with fail
  go_region_held3 (λw'=>w'.cell? ⟨fb,0,none⟩=some (.slice (some ⟨tb,0,none⟩) tp.length tp.length)/\w'.cell? ⟨w.heap.size,2,none⟩=some (.int .i64 (ma:Int))/\w'.cell? ⟨w.heap.size,4,none⟩=some (.int .i64 n)/\w'.cell? ⟨tb,ma*2,none⟩=some (.int .i64 va.obj)/\w'.cell? ⟨tb,ma*2+1,none⟩=some (.int .i64 va.n)) ((refine KS.out _ ?_;repeat(first|exact Wr.refl _ _|refine Wr.bR ?_|refine Wr.bH ?_ _|refine Wr.trans (G:=λ_=>False) ?_ (Wr.of_below eO.out) (λi hi=>hi.elim)|refine Wr.cJ (F:=λk=>k=w.heap.size+1) ?_ _ _ _ (by first|exact aK rfl|(refine bu ?_;simp;omega))))) ((go_at_call 68;have sU:=ae ((bC.trans ((ax _ (.cells #[.int .i64 va.obj,.int .i64 va.n] 75)).mono bC.size)).drew);have CA:=ae ((Aa.alloc (.cells #[.int .i64 va.obj,.int .i64 va.n] 75)).drew);have yV:=ae ((jh.alloc (.cells #[.int .i64 va.obj,.int .i64 va.n] 75)).drew);refine(HC _ sU (w.heap.size+1+1) (Row.new' _ _ (by simp)).drew).mono ?_;rintro e w3 ⟨⟨y0,y1,rfl⟩,hb3⟩;have eO:=ae hb3;have hz3:=hb3.size;have fO:=ae (sU.trans (hb3.mono sU.size));have mr:=(CA.out).below hb3 CA.lt;have p0:=mr.cell (j:=0) rfl;have p1:=mr.cell (j:=1) rfl;have p2:=mr.free 0;have p3:=mr.free 1;have p4:=mr.lt;have E7:=ae (yV.below hb3 yV.lt);clear hb3 mr))
  have zu:=HH.below fO.out;have ig:=HF.below fO.out;have vT:=fO.size;have cS:=ae (Ej zu ig (w.heap.size+1) ⟨by have:=cB.out;omega,λho=>by have:=(HOW _ ho).2;omega⟩ (by omega) (by omega) (λg hg=>by obtain⟨_,cs',hr'⟩:=aC HF.az hg;have:=hr'.lt;omega) (.int .i64 y0) (.int .i64 y1));clear zu ig;go_wp2_with fail;refine(QA _ cS.1).mono ?_;rintro e w4 ⟨rfl,DK,hw4⟩;have NN:=ae DK;have zQ:=ae hw4;clear DK hw4;go_wp2_with fail;refine HQ _ _ _ ?_
  exact aS (v:= .bool false) (by simp[results,results54,go_sem]) rfl ⟨rfl,own,λ_ h=>h,λ_ h=>aK h,NN.out,(λh=>Bool.noConfusion h),(((Wr.of_below (F:=λb=>own b\/b=tb) fO.out).trans cS.2.2 (λi hi=>bu (by omega))).trans zQ (λi hi=>aK (aK (by have:i=mc:=hi;rw[this];exact IK.out))))⟩
 |some v=>
  go_enter func54,ntmps54;refine aj λQ HQ=>?_;go_wp2_with fail
  go_region_held3 (λw'=>w'.cell? ⟨fb,0,none⟩=some (.slice (some ⟨tb,0,none⟩) tp.length tp.length)/\w'.cell? ⟨w.heap.size,2,none⟩=some (.int .i64 (ma:Int))/\w'.cell? ⟨w.heap.size,4,none⟩=some (.int .i64 n)/\w'.cell? ⟨tb,ma*2,none⟩=some (.int .i64 va.obj)/\w'.cell? ⟨tb,ma*2+1,none⟩=some (.int .i64 va.n)) ((refine KS.out _ ?_;repeat(first|exact Wr.refl _ _|refine Wr.bR ?_|refine Wr.bH ?_ _|refine Wr.trans (G:=λ_=>False) ?_ (Wr.of_below eO.out) (λi hi=>hi.elim)|refine Wr.cJ (F:=λk=>k=w.heap.size+1) ?_ _ _ _ (by first|exact aK rfl|(refine bu ?_;simp;omega))))) ((go_at_call 68;have sU:=ae ((bC.trans ((ax _ (.cells #[.int .i64 va.obj,.int .i64 va.n] 75)).mono bC.size)).drew);have CA:=ae ((Aa.alloc (.cells #[.int .i64 va.obj,.int .i64 va.n] 75)).drew);have yV:=ae ((jh.alloc (.cells #[.int .i64 va.obj,.int .i64 va.n] 75)).drew);refine(HC _ sU (w.heap.size+1+1) (Row.new' _ _ (by simp)).drew).mono ?_;rintro e w3 ⟨he,hb3⟩;simp only[cN,aO]at he;subst he;have eO:=ae hb3;have hz3:=hb3.size;have fO:=ae (sU.trans (hb3.mono sU.size));have mr:=(CA.out).below hb3 CA.lt;have p0:=mr.cell (j:=0) rfl;have p1:=mr.cell (j:=1) rfl;have p2:=mr.free 0;have p3:=mr.free 1;have p4:=mr.lt;have E7:=ae (yV.below hb3 yV.lt);clear hb3 mr))
  have zu:=HH.below fO.out;have ig:=HF.below fO.out;have vT:=fO.size;have cS:=ae (Ej zu ig (w.heap.size+1) ⟨by have:=cB.out;omega,λho=>by have:=(HOW _ ho).2;omega⟩ (by omega) (by omega) (λg hg=>by obtain⟨_,cs',hr'⟩:=aC HF.az hg;have:=hr'.lt;omega) (.int .i64 v.obj) (.int .i64 v.n));have e1:=E7.cell (j:=1) rfl;have e1l:=E7.lt;have ft:=ig.row.cell (j:=0) rfl;have XN:=ig.row.lt;obtain⟨XO,i9,vV⟩:=id ig.bN;have ttl:=i9.lt;obtain⟨lT,lS⟩:=vV.2 m _ (List.getElem?_eq_getElem W8.out);have t0:=i9.cell lT;have t1:=i9.cell lS;have t2:=i9.free (m*2);have t3:=i9.free (m*2+1);have rT:¬fb=w.heap.size+1:=by omega
  have GH:¬tb=w.heap.size+1:=by omega
  clear zu ig i9 vV lT lS;go_wp2_with fail;refine aX 8 (by kernel_rfl) (by kernel_rfl) ?_;simp only[List.take_succ_cons,List.take_zero,List.drop_succ_cons,List.drop_zero]
  repeat(go_big_quiet_step (fail))
  refine wpQuiet_nil ?_;go_wp2_with fail;refine HQ _ _ _ ?_;have E:=rf cS.1 cS.2.1 HO (aV _ _) m v;have hbz:=(aV ((((w3.setCell ⟨w.heap.size+1,0,none⟩ (.int .i64 v.obj)).setCell ⟨w.heap.size+1,1,none⟩ (.int .i64 v.n)).setCell ⟨tb,m*2,none⟩ (.int .i64 v.obj)).setCell ⟨tb,m*2+1,none⟩ (.int .i64 v.n)).heap.size ((((w3.setCell ⟨w.heap.size+1,0,none⟩ (.int .i64 v.obj)).setCell ⟨w.heap.size+1,1,none⟩ (.int .i64 v.n)).setCell ⟨tb,m*2,none⟩ (.int .i64 v.obj)).setCell ⟨tb,m*2+1,none⟩ (.int .i64 v.n))).drew
  exact aS (v:= .bool true) (by simp[results,results54,go_sem]) rfl ⟨rfl,own,λ_ h=>h,λ_ h=>aK h,E.1.below hbz,λ_=>E.2.1.below hbz,((((Wr.of_below (F:=λb=>own b\/b=tb) fO.out).trans cS.2.2 (λi hi=>bu (by omega))).trans E.2.2 (λi hi=>aK hi)).trans (eW hbz) (λi hi=>hi.elim))⟩
theorem bK.Ov{w w':World}{ai mc:Nat}{own:Nat->Prop}{P:Value×Value×Value×Value}{ah:Int}{s:St}{inv outv aU:Value}{rb:Nat->Nat}(h:bK w ai mc own P ah s inv outv aU rb){k j:Nat}{o:MO}{v:V}(hk:1<=k)(ho:s.mem[k]? =some o)
  (hw:Wr (λi=>i=rb k) w w')(hv:iG w' (rb k) (o.l.set j v))(hok:cQ (s.mem.modify k λo=>{o with l:=o.l.set j v})):bK w' ai mc own P ah {s with mem:=s.mem.modify k λo=>{o with l:=o.l.set j v}} inv outv aU rb:=by
 obtain⟨hr,hm,hs⟩:=h;obtain⟨tT,cs0,hr0,_⟩:=hs.mem.mine k o hk ho;have hb:=hs.own _ tT;have hne:∀g cs t,Row w g cs t->t≠75->¬g=rb k:=λg cs t hr' ht hg=>by subst hg;exact hr'.ne hr0 ht rfl
 refine⟨hr.wr hw (hne mc _ _ hr (by decide)),hm,⟨hs.inp.below (λb o hb'=>World.cell?_of_block (a:=⟨b,o,none⟩) (hw.block b (by omega) (by omega))),aF hs.out hw (λg hg=>?_),hs.sI,?_,hs.memo,λi hi=>⟨(hs.own i hi).1,fQ (hs.own i hi).2 hw.size⟩⟩⟩
 ·obtain⟨_,cs,hr'⟩:=aC hs.out hg;exact hne g cs _ hr' (by decide)
 ·obtain⟨⟨xs,hx,qO⟩,hmm,hi,_⟩:=hs.mem;refine⟨⟨xs,?_,λi o' ho'=>?_⟩,λi o' h1 ho'=>?_,λi i' h1 h2 h3 h4=>hi i i' h1 (by simpa using h2) h3 (by simpa using h4),hok⟩
  ·simp only[List.length_modify];exact aF hx hw (λg hg=>by obtain⟨_,cs,hr'⟩:=aC hx hg;exact hne g cs _ hr' (by decide))
  ·obtain⟨o0,h0,rfl⟩:=cR ho';have:=qO i o0 h0;split
   ·unfold uA at this ⊢;simpa using this
   ·exact this
  ·obtain⟨o0,h0,rfl⟩:=cR ho';by_cases hik:k=i
   ·subst hik;rw[if_pos rfl];obtain rfl:o0=o:=by rw[ho]at h0;exact(Option.some.inj h0).symm
    exact⟨tT,hv⟩
   ·rw[if_neg hik];obtain⟨ho2,cs,hr',hvv⟩:=hmm i o0 h1 h0;have hlt:∀{m:Nat}{q:MO},s.mem[m]? =some q->m<s.mem.length:=λ{m q}hq=>by
     rcases Nat.lt_or_ge m s.mem.length with h|h
     ·exact h
     ·rw[List.getElem?_eq_none h]at hq;cases hq
    exact⟨ho2,cs,hr'.wr hw (λe=>hik (hi i k h1 (hlt h0) hk (hlt ho) e).symm),hvv⟩
theorem FM(ai mc:Nat)(own:Nat->Prop)(P:Value×Value×Value×Value)(ah:Int)(s:St)(sz:Nat)(r x:V)(w:World)(hM:bG w ai mc own P ah s)(hsz2:sz=1\/sz=2\/sz=4\/sz=8)(hvk:rG s.mem.length r)(Bg:∀M',bS s.mem sz r x=some M'->cQ M'):
  Calls prog 69 #[.pointer (some ⟨mc,11,none⟩),.int .i64 sz,.agg #[.int .i64 r.obj,.int .i64 r.n],.agg #[.int .i64 x.obj,.int .i64 x.n]] w λe w'=>e= .returned (.bool (bS s.mem sz r x).isSome)/\bG w' ai mc own P ah {s with mem:=(bS s.mem sz r x).getD s.mem}/\Wr own w w':=by
 obtain⟨A',cap',Su,CG,PE⟩:=hM.JS;cases hF:sP s.mem r sz with
 |none=>
  have e0:bS s.mem sz r x=none:=by unfold bS;rw[Int.toNat_natCast,hF]
  rw[e0];refine(Au mc 11 sz r x _ false w (λW hb=>LH mc 11 A' s.mem.length cap' w.heap.size sz r s.mem W hb.size (by have:=hb.size;omega) (ag Su hb PE) (CG.below hb (aY _)) hvk.1 hvk.2.1 (by omega) (by omega) hF) (aK rfl)).mono ?_;rintro e w' ⟨rfl,hb⟩;exact⟨rfl,hM.below hb,Wr.of_below hb⟩
 |some j=>
  obtain⟨hx0,hx1⟩:=hvk.2.1 (wV hF);have qP:=hvk.1 (wV hF);obtain⟨zt,_,_,hj⟩:=KT hF hx0;by_cases hbad:0<x.obj/\sz≠8
  ·have e0:bS s.mem sz r x=none:=by unfold bS;rw[Int.toNat_natCast,hF];simp only;rw[if_pos ⟨hbad.1,by omega⟩]
   rw[e0];obtain⟨mb,mo,rfl,hmb,A2,len,cap2,_,c1,_,hl,_,_,_,hrow⟩:=CG.get qP;have hget:(aG s.mem r.obj).l[j]? =some ((aG s.mem r.obj).l.getD j ⟨0,0⟩):=by rw[List.getD_eq_getElem?_getD,List.getElem?_eq_getElem hj];rfl
   obtain⟨ob,oo,rfl,ja,hv⟩:=hrow j _ hget;refine(Au mc 11 sz r x _ true w (λW hb=>wT mc 11 mb mo ob oo s.mem.length cap' w.heap.size len cap2 sz r s.mem W j hb.size (by have:=hb.size;omega) (ag Su hb PE) (CG.below hb (aY _)) qP hx0 hx1 (by omega) (by omega) (ag c1 hb hmb) hF) (bu hbad)).mono ?_;rintro e w' ⟨rfl,hb⟩;exact⟨rfl,hM.below hb,Wr.of_below hb⟩
  ·have e0:bS s.mem sz r x=some (s.mem.modify r.obj λo=>{o with l:=o.l.set j (if x.obj=0 then⟨0,eA sz x.n⟩else x)}):=by unfold bS;rw[Int.toNat_natCast,hF];simp only;rw[if_neg (λh=>hbad ⟨h.1,by omega⟩)]
   have hok:=Bg _ e0;rw[e0];have hmo:=qj (M:=s.mem) (k:=r.obj) qP;obtain⟨inv,outv,aU,rb,xw⟩:=id hM;obtain⟨Zh,cs,hrow,gT⟩:=xw.rest.mem.mine r.obj _ (by omega) hmo;obtain⟨⟨xs,hxs,qO⟩,_⟩:=id xw.rest.mem;obtain⟨_,hc1,_⟩:=qO r.obj _ hmo;rw[if_neg (by omega)]at hc1;have hmv:aU= .slice A' s.mem.length cap':=by have:=xw.row.cell (j:=11) rfl;exact Option.some.inj (this.symm.trans Su)
   subst hmv;obtain⟨mg,XF,hmgl⟩:∃mg,A'=some ⟨mg,0,none⟩/\mg<w.heap.size:=(by
    obtain⟨_,h|⟨g,c,cur,h,_,hh,_⟩⟩:=id hxs
    ·have:=h.2;omega
    ·injection h with h;exact⟨g,h,Row.lt hh⟩)
   subst XF;have c1:w.cell? ⟨mg,0+r.obj*3+1,none⟩=some (.slice (some ⟨rb r.obj,0,none⟩) (aG s.mem r.obj).l.length (aG s.mem r.obj).l.length):=by
    rw[show 0+r.obj*3+1=r.obj*3+1 by omega,hxs.cellAt (r.obj*3+1) (by omega)];exact hc1
   have hcs:cs.size=(aG s.mem r.obj).l.length*2:=gT.1;refine(Jm mc 11 (rb r.obj) j sz r x cs w hsz2 (λW hW=>by
    have:=wT mc 11 mg 0 (rb r.obj) 0 s.mem.length cap' w.heap.size _ _ sz r s.mem W j hW.size (by have:=hW.size;omega) (ag Su hW PE) (CG.below hW (aY _)) qP hx0 hx1 (by omega) (by omega) (ag c1 hW hmgl) hF;simpa using this) hbad hrow (by omega)).mono ?_
   rintro e w' ⟨rfl,hw4,hr4⟩;have yD:iG w' (rb r.obj) ((aG s.mem r.obj).l.set j (if x.obj=0 then⟨0,eA sz x.n⟩else x)):=⟨_,hr4,gT.set j (rM sz x)⟩
   exact⟨rfl,⟨_,_,_,_,xw.Ov (by omega) hmo hw4 yD hok⟩,hw4.mono (λi hi=>aK (hi▸Zh))⟩
def rpuC(mc pb:Nat)(lv:Value)(x:Int)(W:World):Nat->Value->Prop
 |0,v|1,v|2,v=>v= .pointer (some ⟨mc,0,none⟩)
 |3,v=>v= .pointer (some ⟨mc,6,none⟩)
 |4,v=>v= .pointer (some ⟨mc,8,none⟩)
 |5,v=>v=lv
 |6,v=>v= .pointer (some ⟨pb,1,none⟩)
 |7,v=>v= .int .i64 x
 |8,v=>∃nb,v= .slice (some ⟨nb,0,none⟩) 1 1/\Row W nb #[.int .i64 x] 2
 |_,_=>True
def rpuF(ai:Nat)(lv:Value)(k:Nat)(xs:List Value)(x:Int)(w W':World)(v:Value):Prop:=
 ∃W g aA,v= .slice (some ⟨g,0,none⟩) (k+1) aA/\Below w.heap.size w W/\W'.ownsRow ai 2 1 v (k+1) (xs++[.int .i64 x])/\W.grownBy W' lv.ownBlock/\(lv.ownBlock=some g\/g=W.heap.size)
noncomputable def rpuR:Code:=(fU (Tryz.f54.body.getD .skip)).getD 44 .skip
theorem Jo(mc pb ai:Nat)(cs ps:Array Value)(x:Int)(ln:Option Addr)(k bn:Nat)(xs:List Value)(w:World)
  (hrow:Row w mc cs 86)(h8:cs[8]? =some (.slice ln k bn))(oI:Row w pb ps 75)(hp1:ps[1]? =some (.int .i64 x))(hown:w.ownsRow ai 2 1 (.slice ln k bn) k xs)(hbase:ai<=w.heap.size)(hk:k<=1000000000)
  {c1 c2 c3 c4 c5 c6 c7 c8 c9 c10 c11 c12 c14 c15 c16 c17 c18 c19 c20 c21 iU iT iX iW jM jL jK jJ jI jH jG jF jE jD jC jB jA jo jm jy kG kF kE kD kC kB jw c49 kA c51 jY jX jW jV jU jT jS jR jQ jP jO jN kV kU kT kS kR kQ kP kO kN lN kM kL lM lL lK lJ lI lH mY mD mC lG lF lD lC lB lA mX nA nz ny ni m9 m6 mW mV eH eG eF eD ed dZ dY dX dW dV dU dS dR dQ dP dO dN dH dG c119 dD dC eV eU eT eQ eP fC fB fA eZ eY mi lZ lY lX lW zN c138 zM zL Cr Cq Co Cn Cm Ck Cj Ci Ch Cg Cf Ce Cc Cb Ca B6 BZ BX BW BU BS BR BQ zK zJ zI c167 zH zG zF zE zD zC zB BP BO BN BM BL BK BJ BI BH BG BF BD BC BB Bz Hz Hy Hx c193 c194 Hw c196 Hv c198 Hu Ht Hs Hr Hq Ho Hn c206 Hm c208 Hl Hk Hj Hi Hh Hg Wy Ww Wv Wu Ws Wp Wo Wn Wm Wl Wj Wi Wh We Wd Wc V9 V8 V7 V6 V5 c236 c237 c238 c239 c240 c241 c242 c243 c244 c245 c246 c247 c248 V4 V3 V2 VZ VY VX VW VV VU VT VS VR VQ VP VO VN VM VL VK VJ VI VH VG VF VE VD VC VB VA Vz Vy Vx Vw Vv Vu Vt Vs Vr:Value}(Q:Exit->Act->World->Prop)
  (cL:∀(W W':World)(g aA:Nat)(Y:Nat->Value),Below w.heap.size w W->W'.ownsRow ai 2 1 (.slice (some ⟨g,0,none⟩) (k+1) aA) (k+1) (xs++[.int .i64 x])->W.grownBy W' ((Value.slice ln k bn).ownBlock)->((Value.slice ln k bn).ownBlock=some g\/g=W.heap.size)->
   Q .normal ⟨List.toArray ((Value.pointer (some ⟨mc,0,none⟩))::c1::c2::c3::c4::c5::c6::c7::c8::c9::c10::c11::c12::(Value.pointer (some ⟨pb,0,none⟩))::c14::c15::c16::c17::c18::c19::c20::c21::iU::iT::iX::iW::jM::jL::jK::jJ::jI::jH::jG::jF::jE::jD::jC::jB::jA::jo::jm::jy::kG::kF::kE::kD::kC::kB::jw::c49::kA::c51::jY::jX::jW::jV::jU::jT::jS::jR::jQ::jP::jO::jN::kV::kU::kT::kS::kR::kQ::kP::kO::kN::lN::kM::kL::lM::lL::lK::lJ::lI::lH::mY::mD::mC::lG::lF::lD::lC::lB::lA::mX::nA::nz::ny::ni::m9::m6::mW::mV::eH::eG::eF::eD::ed::dZ::dY::dX::dW::dV::dU::dS::dR::dQ::dP::dO::dN::dH::dG::c119::dD::dC::eV::eU::eT::eQ::eP::fC::fB::fA::eZ::eY::mi::lZ::lY::lX::lW::zN::c138::zM::zL::Cr::Cq::Co::Cn::Cm::Ck::Cj::Ci::Ch::Cg::Cf::Ce::Cc::Cb::Ca::B6::BZ::BX::BW::BU::BS::BR::BQ::zK::zJ::zI::c167::zH::zG::zF::zE::zD::zC::zB::BP::BO::BN::BM::BL::BK::BJ::BI::BH::BG::BF::BD::BC::BB::Bz::Hz::Hy::Hx::c193::c194::Hw::c196::Hv::c198::Hu::Ht::Hs::Hr::Hq::Ho::Hn::c206::Hm::c208::Hl::Hk::Hj::Hi::Hh::Hg::Wy::Ww::Wv::Wu::Ws::Wp::Wo::Wn::Wm::Wl::Wj::Wi::Wh::We::Wd::Wc::V9::V8::V7::V6::V5::Y 0::Y 1::Y 2::Y 3::Y 4::Y 5::Y 6::Y 7::Y 8::Y 9::Y 10::Y 11::Y 12::V4::V3::V2::VZ::VY::VX::VW::VV::VU::VT::VS::VR::VQ::VP::VO::VN::VM::VL::VK::VJ::VI::VH::VG::VF::VE::VD::VC::VB::VA::Vz::Vy::Vx::Vw::Vv::Vu::Vt::Vs::Vr::[]),[]⟩ (W'.setCell ⟨mc,8,none⟩ (.slice (some ⟨g,0,none⟩) (k+1) aA))):
  Code.wp prog rpuR Q ⟨List.toArray ((Value.pointer (some ⟨mc,0,none⟩))::c1::c2::c3::c4::c5::c6::c7::c8::c9::c10::c11::c12::(Value.pointer (some ⟨pb,0,none⟩))::c14::c15::c16::c17::c18::c19::c20::c21::iU::iT::iX::iW::jM::jL::jK::jJ::jI::jH::jG::jF::jE::jD::jC::jB::jA::jo::jm::jy::kG::kF::kE::kD::kC::kB::jw::c49::kA::c51::jY::jX::jW::jV::jU::jT::jS::jR::jQ::jP::jO::jN::kV::kU::kT::kS::kR::kQ::kP::kO::kN::lN::kM::kL::lM::lL::lK::lJ::lI::lH::mY::mD::mC::lG::lF::lD::lC::lB::lA::mX::nA::nz::ny::ni::m9::m6::mW::mV::eH::eG::eF::eD::ed::dZ::dY::dX::dW::dV::dU::dS::dR::dQ::dP::dO::dN::dH::dG::c119::dD::dC::eV::eU::eT::eQ::eP::fC::fB::fA::eZ::eY::mi::lZ::lY::lX::lW::zN::c138::zM::zL::Cr::Cq::Co::Cn::Cm::Ck::Cj::Ci::Ch::Cg::Cf::Ce::Cc::Cb::Ca::B6::BZ::BX::BW::BU::BS::BR::BQ::zK::zJ::zI::c167::zH::zG::zF::zE::zD::zC::zB::BP::BO::BN::BM::BL::BK::BJ::BI::BH::BG::BF::BD::BC::BB::Bz::Hz::Hy::Hx::c193::c194::Hw::c196::Hv::c198::Hu::Ht::Hs::Hr::Hq::Ho::Hn::c206::Hm::c208::Hl::Hk::Hj::Hi::Hh::Hg::Wy::Ww::Wv::Wu::Ws::Wp::Wo::Wn::Wm::Wl::Wj::Wi::Wh::We::Wd::Wc::V9::V8::V7::V6::V5::c236::c237::c238::c239::c240::c241::c242::c243::c244::c245::c246::c247::c248::V4::V3::V2::VZ::VY::VX::VW::VV::VU::VT::VS::VR::VQ::VP::VO::VN::VM::VL::VK::VJ::VI::VH::VG::VF::VE::VD::VC::VB::VA::Vz::Vy::Vx::Vw::Vv::Vu::Vt::Vs::Vr::[]),[]⟩ w:=by
 obtain⟨i0,hi,hz0,hz1,hz2⟩:=info_parts JW;have dI:=ae hrow;have iA:=ae oI;have HOWN:=ae hown;have uu:=ae cL;have H8:=ae h8;have XV:=ae hp1;clear hrow oI hown cL h8 hp1
 conv=>arg 2;whnf
 refine pF 9 (λi=>decide (i=0)) (by kernel_rfl) (by kernel_rfl) (by kernel_rfl) (rpuC mc pb (.slice ln k bn) x) (rpuF ai (.slice ln k bn) k xs x w) (λY=>⟨List.toArray ((Value.pointer (some ⟨mc,0,none⟩))::c1::c2::c3::c4::c5::c6::c7::c8::c9::c10::c11::c12::(Value.pointer (some ⟨pb,0,none⟩))::c14::c15::c16::c17::c18::c19::c20::c21::iU::iT::iX::iW::jM::jL::jK::jJ::jI::jH::jG::jF::jE::jD::jC::jB::jA::jo::jm::jy::kG::kF::kE::kD::kC::kB::jw::c49::kA::c51::jY::jX::jW::jV::jU::jT::jS::jR::jQ::jP::jO::jN::kV::kU::kT::kS::kR::kQ::kP::kO::kN::lN::kM::kL::lM::lL::lK::lJ::lI::lH::mY::mD::mC::lG::lF::lD::lC::lB::lA::mX::nA::nz::ny::ni::m9::m6::mW::mV::eH::eG::eF::eD::ed::dZ::dY::dX::dW::dV::dU::dS::dR::dQ::dP::dO::dN::dH::dG::c119::dD::dC::eV::eU::eT::eQ::eP::fC::fB::fA::eZ::eY::mi::lZ::lY::lX::lW::zN::c138::zM::zL::Cr::Cq::Co::Cn::Cm::Ck::Cj::Ci::Ch::Cg::Cf::Ce::Cc::Cb::Ca::B6::BZ::BX::BW::BU::BS::BR::BQ::zK::zJ::zI::c167::zH::zG::zF::zE::zD::zC::zB::BP::BO::BN::BM::BL::BK::BJ::BI::BH::BG::BF::BD::BC::BB::Bz::Hz::Hy::Hx::c193::c194::Hw::c196::Hv::c198::Hu::Ht::Hs::Hr::Hq::Ho::Hn::c206::Hm::c208::Hl::Hk::Hj::Hi::Hh::Hg::Wy::Ww::Wv::Wu::Ws::Wp::Wo::Wn::Wm::Wl::Wj::Wi::Wh::We::Wd::Wc::V9::V8::V7::V6::V5::Y 0::Y 1::Y 2::Y 3::Y 4::Y 5::Y 6::Y 7::Y 8::Y 9::c246::c247::c248::V4::V3::V2::VZ::VY::VX::VW::VV::VU::VT::VS::VR::VQ::VP::VO::VN::VM::VL::VK::VJ::VI::VH::VG::VF::VE::VD::VC::VB::VA::Vz::Vy::Vx::Vw::Vv::Vu::Vt::Vs::Vr::[]),[]⟩) (λi=>if i=0 then c236 else if i=1 then c237 else if i=2 then c238 else if i=3 then c239 else if i=4 then c240 else if i=5 then c241 else if i=6 then c242 else if i=7 then c243 else if i=8 then c244 else if i=9 then c245 else undef) rfl ?_ ?_ ?_ ?_ ?_
 ·intro W W' i v hb h;rcases i with _|_|_|_|_|_|_|_|_|i
  iterate 8 (·exact h)
  ·obtain⟨nb,h1,h2⟩:=h;exact⟨nb,h1,h2.below hb h2.lt⟩
  ·trivial
 ·intro i o' Y W hin hnl ho hb hall K hK;have HW:=ae hb;clear hb;rcases i with _|_|_|_|_|_|_|_|_|i
  ·simp at hnl
  ·simp at ho;subst ho;clear hall;refine ak rfl rfl (λK' hK'=>?_);go_simp;have hh:=hK' _ _ (hK _ _ (aV _ _) rfl);simpa [upd]using hh
  ·simp at ho;subst ho;have d1:Y 1=_:=hall {on:=1,ground:=Ground.data} (by simp) rfl;have rl:=dI.lt;clear hall;refine ak rfl rfl (λK' hK'=>?_);go_simp;have hh:=hK' _ _ (hK _ _ (aV _ _) rfl);simpa [upd,d1]using hh
  ·simp at ho;subst ho;have d2:Y 2=_:=hall {on:=2,ground:=Ground.data} (by simp) rfl;clear hall;refine ak rfl rfl (λK' hK'=>?_);go_simp;have hh:=hK' _ _ (hK _ _ (aV _ _) rfl);simpa [upd,d2]using hh
  ·simp at ho;subst ho;have d3:Y 3=_:=hall {on:=3,ground:=Ground.data} (by simp) rfl;clear hall;refine ak rfl rfl (λK' hK'=>?_);go_simp;have hh:=hK' _ _ (hK _ _ (aV _ _) rfl);simpa [upd,d3]using hh
  ·simp at ho;subst ho;have d4:Y 4=_:=hall {on:=4,ground:=Ground.data} (by simp) rfl;have q8:=ag (dI.cell H8.out) HW.out dI.lt;clear hall;refine ak rfl rfl (λK' hK'=>?_);go_simp;have hh:=hK' _ _ (hK _ _ (aV _ _) rfl);simpa [upd,d4]using hh
  ·simp at ho;subst ho;clear hall;refine ak rfl rfl (λK' hK'=>?_);go_simp;have hh:=hK' _ _ (hK _ _ (aV _ _) rfl);simpa [upd]using hh
  ·simp at ho;subst ho;have d6:Y 6=_:=hall {on:=6,ground:=Ground.data} (by simp) rfl;have q1:=ag (iA.cell XV.out) HW.out iA.lt;clear hall;refine ak rfl rfl (λK' hK'=>?_);go_simp;have hh:=hK' _ _ (hK _ _ (aV _ _) rfl);simpa [upd,d6]using hh
  ·simp at ho;subst ho;have d7:Y 7=_:=hall {on:=7,ground:=Ground.data} (by simp) rfl;clear hall;refine ak rfl rfl (λK' hK'=>?_);go_simp;have hh:=hK' _ _ (hK _ _ (ax W (.cells #[.int .i64 x] 2)) ⟨W.heap.size,rfl,Row.new' _ _ rfl⟩);simpa [upd,d7]using hh
  ·omega
 ·intro i o' Y W hin hl ho K hK;obtain rfl:i=0:=by simpa using hl
  simp at ho;subst ho;refine ak rfl rfl (λK' hK'=>?_);go_simp;have hh:=hK' _ _ (hK _ (λ_=>rfl));simpa [upd]using hh
 ·intro o' Y W ho hb hall K hK;have e5:Y 5=_:=hall 5 (by decide) (by decide);obtain⟨nb,e8,Ls⟩:=hall 8 (by decide) (by decide);have HB:=ae hb;have HNR:=ae Ls;have hsz:=hb.size;have hone:∀(j:Nat)(u:Value),[Value.int .i64 x][j]? =some u->W.cell? ((⟨nb,0,none⟩:Addr).add j)=some u:=λj u hj=>by
   rw[List.getElem?_cons]at hj;split at hj
   ·rename_i hj0;subst hj0;injection hj with hj;subst hj;exact HNR.cell (j:=0) rfl
   ·simp at hj
  have QF:=ae hone;simp at ho;subst ho;clear hall hb Ls hone;refine ak rfl rfl (λK' hK'=>?_);refine wp_append_lies _ (.tmp 241) (.tmp 244) 23 rfl ai 2 i0 (.int .i64 0) 1 8 underlying23 hi hz0 hz1 hz2 rfl (by decide) (.slice ln k bn) k xs e5 (aF HOWN (eW HB.out) (λ_ _ h=>h)) ⟨nb,0,none⟩ 1 1 [.int .i64 x] e8 rfl QF (by simp[Value.oneCell']) (by decide) (by unfold maxLen;omega) (by omega) (by omega) W.heap.size rfl (λg aA w' r1 r2 r3 r4=>?_);have hh:=hK' _ _ (hK (.slice (some ⟨g,0,none⟩) (k+1) aA) w' ⟨W,g,aA,rfl,HB.out,r1,r2,r3⟩);simpa [upd,Act.put]using hh
 ·intro Y W' ⟨W,g,aA,e9,hb,r1,r2,r3⟩ hl;have e0:Y 0=_:=hl 0 (by decide) (by decide) W';rw[e9]at r1;have HB:=ae hb;have oY:=ae r1;have DW:=ae r2;have hr0:Row W' mc cs 86:=((dI.below hb dI.lt)).wr (Wr.grown (F:=λi=>(Value.slice ln k bn).ownBlock=some i) r2 (λi hi=>hi)) (λh=>(by
   obtain⟨_,cs',hx⟩:=aC HOWN.out h;exact hx.ne dI (by decide) rfl))
  have f8:=hr0.free 8;have fl:=hr0.lt;have f9:=hr0.cell H8.out;clear hb r1 r2 hl hr0;simp only[List.drop_succ_cons,List.drop_zero,e0,e9];go_wp2_with fail;have hh:=uu.out W W' g aA (upd (upd (upd (upd (upd Y 0 (.pointer (some ⟨mc,0,none⟩))) 9 (.slice (some ⟨g,0,none⟩) (k+1) aA)) 10 (.pointer (some ⟨mc,0,none⟩))) 11 (.pointer (some ⟨mc,6,none⟩))) 12 (.pointer (some ⟨mc,8,none⟩))) HB.out oY.out DW.out r3;simpa [upd,e0]using hh
theorem Mj(ai mc fb tb:Nat)(own:Nat->Prop)(P:Value×Value×Value×Value)(lv:Value)(ah:Int)(s:St)(tp:List V)(lo:List Nat)(R:bT)(q:Nat)(x:V)(dst b n:Int)(AV:Value)(l:List Int)(w:World)
  (h:bG w ai mc own P ah s)(hF:bZ w fb tb tp lv lo)(hO:iD ai own fb tb lv)(hq:q<tp.length)(hx:tp[q]? =some x)(hz:x.obj=0)(hol:s.out.length<=1000000000):
  Calls prog 54 #[.pointer (some ⟨mc,0,none⟩),.pointer (some ⟨fb,0,none⟩),.agg #[.int .i64 11,.int .i64 dst,.int .i64 (q:Int),.int .i64 b,.int .i64 n,AV]] w λe w'=>lR ai mc P ah fb tb lv lo own (aW R lo s tp (aT ⟨11,dst,(q:Int),b,n,l⟩)) w e w':=by
 have pK:aW R lo s tp (aT ⟨11,dst,(q:Int),b,n,l⟩)=(true,{s with out:=s.out++[x.n]},tp):=by
  have hg:tp.getD q ⟨0,0⟩=x:=by rw[List.getD_eq_getElem?_getD,hx];rfl
  rw[show aT ⟨11,dst,(q:Int),b,n,l⟩=⟨4,-1,0,0,[fX (q:Int)]⟩from rfl,iV (r:=(q:Int)) rfl,Int.toNat_natCast,hg];unfold kX;simp only[List.getD_cons_zero];rw[if_neg (by decide),if_neg (by decide),if_neg (by decide),if_neg (by decide),if_neg (by omega),if_neg (by decide)]
 rw[pK];clear pK;obtain⟨inv,outv,aU,rb,hm⟩:=h;have f0:=hF.row.cell (j:=0) rfl;have hfb:=hF.row.lt;obtain⟨cs,hr,hcs,hvs⟩:=hF.bN;have htl:=hr.lt;have hv:=hvs q x hx;have x0:=hr.cell hv.1;have x1:=hr.cell hv.2;rw[hz]at x0;have sO:=hF.few;have Zd:(q:Int)<(tp.length:Int):=by omega
 have hf1:fb<w.heap.size+1:=by omega
 have hf2:fb<w.heap.size+1+1:=by omega
 have ht1:tb<w.heap.size+1:=by omega
 have ht2:tb<w.heap.size+1+1:=by omega
 have hsz:cs.size=tp.length*2:=hcs;have HM:=ae hm;have X4:=ae (show ai<=w.heap.size from by have:=hm.rest.own mc hm.mine;omega);have HF:=ae hF;have HO:=ae hO;clear hm hF hO hr hvs hv hx;go_enter func54,ntmps54;refine aj λQ HQ=>?_;go_wp2_with fail;go_region
 all_goals go_wp2_with fail
 refine cO (λX hX=>?_);have hbX:Below w.heap.size w X:=hX▸(aN w _ _ _).drew;have Gw:Row X (w.heap.size+1+1) #[.int .i64 0,.int .i64 x.n] 75:=hX▸(Row.new' _ _ (by simp)).drew;have U3:=HM.below hbX;have D5:=ae U3;have hFX:=ae (HF.below hbX);have ho:=U3.rest.out;obtain⟨q0,hq0⟩:∃q0,q0=s.out.length:=⟨_,rfl⟩
 have WV:=ae hq0;rw[<-hq0]at ho hol;obtain⟨A1,fK,hov⟩:=gQ ho;subst hov;have m8:X.cell? ⟨mc,8,none⟩=some (.slice A1 q0 fK):=U3.row.cell rfl;have n8:=U3.row.free 8;have uQ:=U3.lt;have U2:mc<X.heap.size+1:=by omega
 have xh:=ae ho;have HNE:=ae (show¬(Value.slice A1 q0 fK).ownBlock=some mc from λe=>by obtain⟨_,cs',hr'⟩:=aC ho e;exact hr'.ne U3.row (by decide) rfl);obtain⟨xs,hxs⟩:∃xs,xs=s.out.map (Value.int .i64):=⟨_,rfl⟩
 have HXS:=ae hxs;rw[<-hxs]at xh;have y1:=Gw.cell (j:=1) rfl;have hxl:=Gw.lt;have cS:=ae hbX;have Qx:=ae Gw;have HNE2:=ae (show¬(Value.slice A1 q0 fK).ownBlock=some (w.heap.size+1+1)from λe=>by obtain⟨_,cs',hr'⟩:=aC xh.out e;exact hr'.ne Gw (by decide) rfl);clear hX U3 ho hq0 hxs hbX Gw f0 x0 x1;refine Jo mc (w.heap.size+1+1) ai _ _ x.n A1 q0 fK xs X D5.row rfl Qx.out rfl xh (by have:=X4.out;have:=cS.size;omega) hol _ (λW0 w2 gg fJ Y j5 hown2 hgrow hat=>?_);have NP:=ae hgrow;have x8:=ae hown2;have uw:=ae hat;have yj:=ae j5;clear hgrow hown2 hat j5;go_wp2_with fail;refine HQ _ _ _ ?_;refine aS (v:= .bool true) (by simp[results,results54,go_sem]) rfl ?_
 have hw2:Wr (λk=>(Value.slice A1 q0 fK).ownBlock=some k) X w2:=(Wr.of_below yj.out).trans (Wr.grown (F:=λk=>(Value.slice A1 q0 fK).ownBlock=some k) NP (λk hk=>hk)) (λi hi=>aK hi);have hown:w2.ownsRow ai 2 1 (.slice (some ⟨gg,0,none⟩) (q0+1) fJ) (s.out++[x.n]).length ((s.out++[x.n]).map (Value.int .i64)):=by
  rw[List.length_append,List.length_singleton,<-WV.out,List.map_append,<-HXS.out];exact x8.out
 have hMA2:=D5.UD hw2 (.slice (some ⟨gg,0,none⟩) (q0+1) fJ) (s.out++[x.n]) hown;have Bc:∀k,(Value.slice A1 q0 fK).ownBlock=some k->own k:=D5.rest.sI;have PD:=D5.mine;have hws:=Wr.setCell (F:=λk=>k=mc) w2 ⟨mc,8,none⟩ (.slice (some ⟨gg,0,none⟩) (q0+1) fJ) rfl;have hzX:=cS.size;have hz0:=yj.size;refine⟨rfl,λk=>own k\/(Value.slice (some ⟨gg,0,none⟩) (q0+1) fJ).ownBlock=some k,λk hk=>aK hk,λk hk=>?_,⟨_,_,_,_,hMA2⟩,λ_=>?_,?_⟩
 ·rcases hk with hk|hk
  ·exact aK hk
  ·simp only[Value.ownBlock,Option.some.injEq]at hk;subst hk;rcases uw.out with h|h
   ·exact aK (Bc _ h)
   ·exact bu (by omega)
 ·exact(hFX.out.wr hw2 (λe=>HO.fb.1 (Bc _ e)) (λe=>HO.tb.1 (Bc _ e)) (λg hg e=>(HO.lv g hg).1 (Bc _ e))).wr hws (λe=>HO.fb.1 (by rw[e];exact PD)) (λe=>HO.tb.1 (by rw[e];exact PD)) (λg hg e=>(HO.lv g hg).1 (by rw[e];exact PD))
 ·exact((Wr.of_below cS.out).trans hw2 (λi hi=>aK (aK (Bc i hi)))).trans hws (λi hi=>aK (aK (by have:i=mc:=hi;rw[this];exact PD)))
structure mR (w:World) (own:Nat->Prop) (B:Nat) (v:Value) (p:bB):Prop where
 lie:∃ab ac,v= .slice (some ⟨ab,0,none⟩) p.funcs.length ac/\¬own ab/\ab<B/\∀f c,p.funcs[f]? =some c->∃lb lc,w.cell? ⟨ab,f,none⟩=some (.slice (some ⟨lb,0,none⟩) 8000 lc)/\fM w lb 8000 (oH c.ins c.ins.length)/\¬own lb/\lb<B
theorem mR.wr{F:Nat->Prop}{w w':World}{B:Nat}{own:Nat->Prop}{v:Value}{p:bB}(h:mR w own B v p)(hw:Wr F w w')(hF:∀k,F k->own k\/B<=k)(hB:B<=w.heap.size):mR w' own B v p:=by
 obtain⟨ab,ac,h1,h2,h3,h4⟩:=h.lie;have hn:∀k,¬own k->k<B->¬F k:=λk h1 h2 h3=>(hF k h3).elim h1 (λh=>by omega);refine⟨ab,ac,h1,h2,h3,λf c hf=>?_⟩;obtain⟨lb,lc,g1,g2,g3,g4⟩:=h4 f c hf;exact⟨lb,lc,(World.cell?_of_block (a:=⟨ab,f,none⟩) (hw.block ab (by omega) (hn ab h2 h3))).trans g1,g2.wr hw (hn lb g3 g4),g3,g4⟩
theorem mR.up{w:World}{B:Nat}{own own':Nat->Prop}{v:Value}{p:bB}(h:mR w own B v p)(hu:∀k,own' k->own k\/B<=k):mR w own' B v p:=by
 obtain⟨ab,ac,h1,h2,h3,h4⟩:=h.lie;have hn:∀k,¬own k->k<B->¬own' k:=λk h1 h2 h3=>(hu k h3).elim h1 (λh=>by omega);refine⟨ab,ac,h1,hn ab h2 h3,h3,λf c hf=>?_⟩;obtain⟨lb,lc,g1,g2,g3,g4⟩:=h4 f c hf;exact⟨lb,lc,g1,g2,hn lb g3 g4,g4⟩
theorem mR.mono{w:World}{B B':Nat}{own:Nat->Prop}{v:Value}{p:bB}(h:mR w own B v p)(hB:B<=B'):mR w own B' v p:=by
 obtain⟨ab,ac,h1,h2,h3,h4⟩:=h.lie;refine⟨ab,ac,h1,h2,by omega,λf c hf=>?_⟩;obtain⟨lb,lc,g1,g2,g3,g4⟩:=h4 f c hf;exact⟨lb,lc,g1,g2,g3,by omega⟩
def tY(p:bB)(ah c:Int)(R:bT):Prop:=
 ∀(f:Nat)(g:aR)(args:List V)(s:St)(ai mc:Nat)(own:Nat->Prop)(P:Value×Value×Value×Value)(AA:Option Addr)(an oD:Nat)(w:World),
  p.funcs[f]? =some g->(args.length:Int)=g.params->bG w ai mc own P ah s->bP w ai (P.1,P.2.1,P.2.2.1) p->mR w own w.heap.size P.2.2.2 p->GInv ah s->s.calls=c->p.ay.length<(au s.mem).length->(∀v,v∈args->kW (au s.mem).length v)->args.length=an->
  (∀j v,args[j]? =some v->∃b off,AA=some ⟨b,off,none⟩/\b<w.heap.size/\¬own b/\bJ w b (off+j*2) v)->
  Calls prog 32 #[.pointer (some ⟨mc,0,none⟩),.int .i64 f,.slice AA an oD] w λe w'=>jf ai mc own P ah (R f args s) w e w'
theorem bG.ai{w:World}{ai mc:Nat}{own:Nat->Prop}{P:Value×Value×Value×Value}{ah:Int}{s:St}(h:bG w ai mc own P ah s):own mc/\ai<=mc/\mc<w.heap.size/\∀k,own k->ai<=k/\k<w.heap.size:=by
 obtain⟨_,_,_,_,h⟩:=h;exact⟨h.mine,(h.rest.own mc h.mine).1,(h.rest.own mc h.mine).2,h.rest.own⟩
theorem JB(ai mc fb tb:Nat)(own:Nat->Prop)(P:Value×Value×Value×Value)(lv:Value)(ah:Int)(s:St)(tp:List V)(lo:List Nat)(R:bT)(p:bB)(f:Nat)(g:aR)(dst a b:Int)(arg:List Int)(A:Option Addr)(aA:Nat)(w:World)
  (h:bG w ai mc own P ah s)(hF:bZ w fb tb tp lv lo)(hO:iD ai own fb tb lv)(lq:fV (au s.mem) tp lo p.ay.length)(hI:GInv ah s)
  (Gz:∀r,r∈arg->0<=r/\r<tp.length)(hal:arg.length<=1000)(pZ:aD w ai arg (.slice A arg.length aA))(hfn:p.funcs[f]? =some g)(gH:(arg.length:Int)=g.params)(hP:bP w ai (P.1,P.2.1,P.2.2.1) p)(hL:mR w own w.heap.size P.2.2.2 p)(hC:tY p ah s.calls R)(hd:dst= -1\/0<=dst/\dst<(tp.length:Int)):
  Calls prog 54 #[.pointer (some ⟨mc,0,none⟩),.pointer (some ⟨fb,0,none⟩),.agg #[.int .i64 10,.int .i64 dst,.int .i64 a,.int .i64 b,.int .i64 (f:Int),.slice A arg.length aA]] w λe w'=>lR ai mc P ah fb tb lv lo own (yO (R f (oC tp arg) s) tp dst) w e w':=by
 have hbk:=h.ai;have hbs:ai<=w.heap.size:=by omega
 obtain⟨i0,hi,hz0,hz1,hz2⟩:=info_parts vG;have HH:=ae h;have HF:=ae hF;have HO:=ae hO;have zT:=ae lq;have HI:=ae hI;have QC:=ae Gz;have CC:=ae pZ;have Td:=ae (And.intro hfn gH);have HP:=ae hP;have HL:=ae hL;have HC:=ae hC;have HD:=ae hd;have fD:=ae hbk;obtain⟨n,hn⟩:∃n,n=arg.length:=⟨_,rfl⟩
 have HN:=ae hn;rw[<-hn]at hal ⊢;have zP:=ae ((Row.new w #[.int .i64 10,.int .i64 dst,.int .i64 a,.int .i64 b,.int .i64 (f:Int),.slice A n aA] 94).alloc (.cells #[.int .i64 0,.int .i64 0] 75));have HT0:=ae (Row.new' (w:=w.alloc (.cells #[.int .i64 10,.int .i64 dst,.int .i64 a,.int .i64 b,.int .i64 (f:Int),.slice A n aA] 94)) (g:=w.heap.size+1) #[.int .i64 0,.int .i64 0] 75 (by simp));have bQ:=ae (aB w (.cells #[.int .i64 10,.int .i64 dst,.int .i64 a,.int .i64 b,.int .i64 (f:Int),.slice A n aA] 94) (.cells #[.int .i64 0,.int .i64 0] 75));have hfb:=hF.row.lt;clear h hF hO lq hI Gz pZ hfn gH hP hL hC hd hbk hn;go_enter func54,ntmps54;refine aj λQ HQ=>?_;go_wp2_with fail
 go_loopw [11,12] (λpv0 i wr=>∃(k:Nat)(pv:Value),pv=pv0/\k<=n/\i= .int .i64 k/\wr.ownsRow (w.heap.size+2) 75 2 pv k (cU (oC tp (arg.take k)))/\Below (w.heap.size+2) ((w.alloc (.cells #[.int .i64 10,.int .i64 dst,.int .i64 a,.int .i64 b,.int .i64 (f:Int),.slice A n aA] 94)).alloc (.cells #[.int .i64 0,.int .i64 0] 75)) wr) (λ_ i _=>n-(intOf i).toNat)
 case atStart=>exact⟨0,_,rfl,by omega,rfl,World.ownsRow_nil _ _ _ _,aV _ _⟩
 case round=>
  obtain⟨k,pv,rfl,hk,rfl,hown,aJ⟩:=hrel;have pS:=aJ.size;simp only[World.size_alloc]at pS;have hx1:=zP.below aJ (by omega);have x5:wr.cell? ⟨w.heap.size,5,none⟩=some (.slice A n aA):=hx1.cell (j:=5) rfl;have hxl:=hx1.lt;by_cases hlt:k<n
  ·obtain⟨ab,qU,r,rfl,hab,hr,hc0,_⟩:=SliceAt.get CC.out (k:=k) (by rw[<-HN.out];exact hlt);simp only[Nat.mul_one,Nat.add_zero]at hc0;obtain⟨hr0,hr1⟩:=QC.out r (List.mem_of_getElem? hr);obtain⟨rm,rfl⟩:=Int.eq_ofNat_of_zero_le hr0;have j5:=bQ.trans (aJ.mono (show w.heap.size<=w.heap.size+2 by omega));have cB:=ae j5;have HOWN:=ae hown;have oY:=ae hr;have zx:=HF.below j5;have ft:=zx.row.cell (j:=0) rfl;have xQ:=zx.row.lt;obtain⟨v,hv⟩:∃v,tp[rm]? =some v:=⟨_,List.getElem?_eq_getElem (by omega)⟩
   obtain⟨cs,htr,gT⟩:=id zx.bN;have uj:=htr.lt;have UN:=(by obtain⟨cs,h,_⟩:=id HF.bN;exact h.lt:tb<w.heap.size)
   obtain⟨lT,lS⟩:=gT.2 rm v hv;have t0:=htr.cell lT;have t1:=htr.cell lS;have hgd:tp.getD (rm:Int).toNat ⟨0,0⟩=v:=by rw[Int.toNat_natCast,List.getD_eq_getElem?_getD,hv];rfl
   have QM:=ae hgd;have c0:=ag hc0 (j5.mono (show ai<=w.heap.size from hbs)) hab;have M3:ab<wr.heap.size:=by omega
   have qP:(k:Int)<(n:Int):=by omega
   have hk0:(0:Int)<=(k:Int):=by omega
   have zi:(tp.length:Int)<=1000000:=by have:=zx.few;omega
   have hr00:(0:Int)<=(rm:Int):=by omega
   have KS:=ae (λ(W:World)(hW:Below (w.heap.size+2) wr W)=>(⟨ag ft hW (by omega),ag x5 hW (by omega),ag c0 hW (by omega),ag t0 hW (by omega),ag t1 hW (by omega)⟩:W.cell? ⟨fb,0,none⟩=some (.slice (some ⟨tb,0,none⟩) tp.length tp.length)/\W.cell? ⟨w.heap.size,5,none⟩=some (.slice (some ⟨ab,qU,none⟩) n aA)/\W.cell? ⟨ab,qU+k,none⟩=some (.int .i64 (rm:Int))/\W.cell? ⟨tb,rm*2,none⟩=some (.int .i64 v.obj)/\W.cell? ⟨tb,rm*2+1,none⟩=some (.int .i64 v.n)));clear hown j5 zx gT lT lS htr hv hgd hr hc0 hx1 ft c0 t0 t1;go_wp2_with fail;clear x5
   go_region_held3 (λw'=>w'.cell? ⟨fb,0,none⟩=some (.slice (some ⟨tb,0,none⟩) tp.length tp.length)/\w'.cell? ⟨w.heap.size,5,none⟩=some (.slice (some ⟨ab,qU,none⟩) n aA)/\w'.cell? ⟨ab,qU+k,none⟩=some (.int .i64 (rm:Int))/\w'.cell? ⟨tb,rm*2,none⟩=some (.int .i64 v.obj)/\w'.cell? ⟨tb,rm*2+1,none⟩=some (.int .i64 v.n)) (first|exact KS.out _ (aV _ _).drew|exact KS.out _ ((ax _ _).drew.mono (by omega))|exact KS.out _ ((ax _ _).mono (by omega))|exact KS.out _ hbg|go_keep)
    ((refine step_append_lies _ (by rfl) _ _ _ (by rfl) (w.heap.size+2) 75 i0 _ 2 16 underlying67 hi hz0 hz1 hz2 rfl (by omega) _ _ _ (by rfl) (tu HOWN _) ⟨wr.heap.size,0,none⟩ 1 1 [.int .i64 v.obj,.int .i64 v.n] (by rfl) (by rfl) (o6 _ _ _ _ (by simp)) (AB _ _) (by omega) (by unfold maxLen;omega) (by omega) (by simp;omega) (wr.heap.size+1) (by simp) ?_;intro gg fJ w2 hown2 hgrow hat hlt2;have hbg:Below (w.heap.size+2) wr w2:=((ax wr (.cells #[.int .i64 v.obj,.int .i64 v.n] 75)).drew.mono (by omega)).grown hgrow (by simp;omega) (λg hg=>(HOWN.lt g hg).1)))
   have bC:=ae (aJ.trans hbg);have S7:=ae hown2;clear hown2 hgrow hat hbg;go_wp2_with fail;go_roundw
   case rel=>exact⟨k+1,_,rfl,by omega,by go_num,by rw[DV oY.out QM.out,rV];exact S7.out,bC.out⟩
   case measure=>simp[intOf];omega
  ·obtain rfl:k=n:=by omega
   have hlen:(oC tp arg).length=k:=by unfold oC;rw[List.length_map];exact HN.symm
   rw[show arg.take k=arg from by rw[HN.out,List.take_length]]at hown;have j5:=bQ.trans (aJ.mono (show w.heap.size<=w.heap.size+2 by omega));have cB:=ae j5;obtain⟨PA,UE,hpv,hpr,Ze⟩:=s9 hown hlen;subst hpv;have hargs:∀W,Below wr.heap.size wr W->∀j v,(oC tp arg)[j]? =some v->∃b off,PA=some ⟨b,off,none⟩/\b<W.heap.size/\¬own b/\bJ W b (off+j*2) v:=by
    intro W hW j v hj;obtain⟨b,off,h1,h2,h3,h4⟩:=Ze j v hj;have ZQ:=(hown.lt b h3).1;exact⟨b,off,h1,by have:=hW.size;omega,λho=>by have:=(fD.2.2.2 b ho).2;omega,h4.below hW h2⟩
   have Ka:∀v,v∈oC tp arg->kW (au s.mem).length v:=by
    intro v hv;unfold oC at hv;obtain⟨r,hr,rfl⟩:=List.mem_map.1 hv;obtain⟨h0,h1⟩:=QC.out r hr;have hlt:r.toNat<tp.length:=by omega
    exact zT.bN _ (by rw[List.getD_eq_getElem?_getD,List.getElem?_eq_getElem hlt];exact List.getElem_mem hlt)
   have CJ:=ae (HC.out f g (oC tp arg) s ai mc own P PA k UE wr Td.1 (by rw[hlen,HN.out];exact Td.2) (HH.below j5) (HP.below (j5.mono hbs))
    ((HL.wr (eW j5) (λ_ h=>h.elim) (aY _)).mono j5.size) HI.out rfl zT.ay Ka hlen (hargs wr (aV _ _)))
   have x4:=hx1.cell (j:=4) rfl;have sW:=ae hx1;have HT1:=ae (HT0.below aJ (by omega));clear hown hpr Ze hargs Ka hlen j5 hx1;obtain⟨rr,jv⟩:∃rr,rr=R f (oC tp arg) s:=⟨_,rfl⟩
   rw[<-jv]at CJ HQ;clear jv;obtain⟨ro,s2⟩:=rr;have II:=ae (show¬own (w.heap.size+1)/\¬own w.heap.size from⟨λho=>by have:=(fD.2.2.2 _ ho).2;omega,λho=>by have:=(fD.2.2.2 _ ho).2;omega⟩);cases ro with
   |none=>
    simp only[yO]at HQ;go_wp2_with fail;refine CJ.mono ?_;intro e w3 hS;obtain⟨rfl,own',h1,h2,h3,h4⟩:=hS;simp only[aO];have uq:=ae (And.intro h1 (And.intro h2 h3));have vB:=ae h4;have MU:=HT1.wr h4 II.1;have p0:=MU.cell (j:=0) rfl;have p1:=MU.cell (j:=1) rfl;have p2:=MU.free 0;have p3:=MU.free 1;have p4:=MU.lt;have hz3:=h4.size;clear h1 h2 h3 h4 MU;go_wp2_with fail;refine HQ _ _ _ ?_;refine aS (v:= .bool false) (by simp[results,results54,go_sem]) rfl ⟨rfl,own',uq.1,λq hq=>(by rcases uq.2.1 q hq with h'|h';exact aK h';exact bu (by omega)),?_,(λh=>Bool.noConfusion h),?_⟩
    ·exact uq.2.2.wr (gI _ _ 0 1 _ _) (λq hq=>by subst hq;exact⟨by omega,λho=>by rcases uq.2.1 _ ho with h'|h';exact II.1 h';omega⟩)
    ·exact((Wr.of_below (F:=λb=>own b\/b=tb) cB.out).trans vB (λi hi=>aK (aK hi))).trans (gI _ _ 0 1 _ _) (λi hi=>bu (by have:i=w.heap.size+1:=hi;omega))
   |some v=>
    simp only[yO]at HQ;go_wp2_with fail;refine CJ.mono ?_;intro e w3 hS;obtain⟨rfl,own',h1,h2,h3,h4⟩:=hS;simp only[aO];have ig:=(HF.below cB.out).wr h4 HO.fb.1 HO.tb.1 (λg hg=>(HO.lv g hg).1);have Sn:∀q,¬own q->q<w.heap.size->¬own' q:=λq hq hl ho=>by rcases h2 q ho with h'|h';exact hq h';omega
    have hfl:=HF.row.lt;have htl:=(by obtain⟨cs,h,_⟩:=id HF.bN;exact h.lt:tb<w.heap.size)
    have hll:∀g,lv.ownBlock=some g->g<w.heap.size:=λg hg=>by obtain⟨_,cs',hr'⟩:=aC HF.az hg;exact hr'.lt
    have hO':iD ai own' fb tb lv:=⟨⟨Sn _ HO.fb.1 hfl,HO.fb.2⟩,⟨Sn _ HO.tb.1 htl,HO.tb.2⟩,λg hg=>⟨Sn g (HO.lv g hg).1 (hll g hg),(HO.lv g hg).2⟩⟩
    have cS:=ae (Ej h3 ig (w.heap.size+1) ⟨by omega,λho=>by rcases h2 _ ho with h'|h';exact II.1 h';omega⟩ (by omega) (by omega) (λg hg=>by have:=hll g hg;omega) (.int .i64 v.obj) (.int .i64 v.n));have HO':=ae hO';have uq:=ae (And.intro h1 h2);have vB:=ae h4;have MU:=HT1.wr h4 II.1;have hx3:=sW.wr h4 II.2;have p0:=MU.cell (j:=0) rfl;have p1:=MU.cell (j:=1) rfl;have p2:=MU.free 0;have p3:=MU.free 1;have p4:=MU.lt;have e1:=hx3.cell (j:=1) rfl;have e1l:=hx3.lt;have hz3:=h4.size;have rT:¬fb=w.heap.size+1:=by omega
    have GH:¬tb=w.heap.size+1:=by omega
    have ft:=ig.row.cell (j:=0) rfl;have XN:=ig.row.lt;have sO:=ig.few;have uf:=ae ig;clear h1 h2 h3 h4 MU hx3 ig hO' Sn hll;have hWT:Wr (λb=>own b\/b=tb) w w3:=(Wr.of_below (F:=λb=>own b\/b=tb) cB.out).trans vB (λi hi=>aK (aK hi));have HWT:=ae hWT;clear hWT;by_cases hdm:dst= -1
    ·subst hdm;rw[show zf tp (-1) v=tp from rfl]at HQ;go_wp2_with fail;refine HQ _ _ _ ?_;exact aS (v:= .bool true) (by simp[results,results54,go_sem]) rfl ⟨rfl,own',uq.1,λq hq=>(by rcases uq.2 q hq with h'|h';exact aK h';exact bu (by omega)),cS.1,λ_=>cS.2.1,HWT.trans cS.2.2 (λi hi=>bu (by have:i=w.heap.size+1:=hi;omega))⟩
    ·have hd:=HD.out;obtain⟨m,rfl⟩:=Int.eq_ofNat_of_zero_le (show 0<=dst by omega);have xu:m<tp.length:=by omega
     have uQ:(m:Int)<(tp.length:Int):=by omega
     have hm0:(0:Int)<=(m:Int):=by omega
     rw[iw]at HQ;obtain⟨XO,i9,vV⟩:=id uf.bN;have ttl:=i9.lt;obtain⟨lT,lS⟩:=vV.2 m _ (List.getElem?_eq_getElem xu);have t0:=i9.cell lT;have t1:=i9.cell lS;have t2:=i9.free (m*2);have t3:=i9.free (m*2+1);clear i9 vV lT lS hdm hd;go_wp2_with fail;refine aX 8 (by kernel_rfl) (by kernel_rfl) ?_;simp only[List.take_succ_cons,List.take_zero,List.drop_succ_cons,List.drop_zero]
     repeat(go_big_quiet_step (fail))
     refine wpQuiet_nil ?_;go_wp2_with fail;refine HQ _ _ _ ?_;have E:=rf cS.1 cS.2.1 HO' (aV _ _) m v;have hbz:=(aV ((((w3.setCell ⟨w.heap.size+1,0,none⟩ (.int .i64 v.obj)).setCell ⟨w.heap.size+1,1,none⟩ (.int .i64 v.n)).setCell ⟨tb,m*2,none⟩ (.int .i64 v.obj)).setCell ⟨tb,m*2+1,none⟩ (.int .i64 v.n)).heap.size ((((w3.setCell ⟨w.heap.size+1,0,none⟩ (.int .i64 v.obj)).setCell ⟨w.heap.size+1,1,none⟩ (.int .i64 v.n)).setCell ⟨tb,m*2,none⟩ (.int .i64 v.obj)).setCell ⟨tb,m*2+1,none⟩ (.int .i64 v.n))).drew
     exact aS (v:= .bool true) (by simp[results,results54,go_sem]) rfl ⟨rfl,own',uq.1,λq hq=>(by rcases uq.2 q hq with h'|h';exact aK h';exact bu (by omega)),E.1.below hbz,λ_=>E.2.1.below hbz,((HWT.trans cS.2.2 (λi hi=>bu (by have:i=w.heap.size+1:=hi;omega))).trans E.2.2 (λi hi=>(by
      rcases hi with hi|hi
      ·rcases uq.2 i hi with h'|h'
       ·exact aK (aK h')
       ·exact bu (by omega)
      ·exact aK (bu hi)))).trans (eW hbz) (λi hi=>hi.elim)⟩
def xN(pre:List bg)(x:bg):Bool:=decide (x.op≠14)||(!dh pre x.n && decide (0<=x.n/\x.n<8000))
def O8(x:bg):Bool:=!decide (x.op=15\/x.op=16)||decide (0<=x.n/\x.n<8000)
theorem RO(n r:Int):mG n (r-1)=decide (0<=n/\n<r):=by unfold mG;rw[decide_eq_decide];omega
theorem Ev(c:aR)(ng nf:Int)(par:Int->Int->Bool)(pl:List Int)(pre:List bg)(x:bg)(hpl:(pl.length:Int)=nf)(gH:∀n k,0<=n->n<nf->par n k=decide (pl.getD n.toNat 0=k)):
  J4 c ng pl pre x=(sJ c ng nf par x && (xN pre x && O8 x)):=by
 subst hpl;rw[qw];obtain⟨op,dst,a,b,n,arg⟩:=x;unfold J4 bD Ax xN O8;simp only[RO];have hz:((arg.length:Int)==0)=true↔arg=[]:=by simp
 have hz1:((arg.length:Int)==1)=true↔arg.length=1:=by simp;omega
 have hop:op=1\/op=2\/op=3\/op=4\/op=5\/op=6\/op=7\/op=8\/op=9\/op=10\/op=11\/op=12\/op=13\/op=14\/op=15\/op=16\/op=17\/aP ⟨op,dst,a,b,n,arg⟩=none:=by
  unfold aP;by_cases h:1<=op/\op<=17
  ·omega
  ·have:(if op=1\/op=3\/op=4 then some (true,false,false,true,false)
 else if op=2 then some (true,true,false,false,false)
 else if op=5 then some (true,true,true,true,false)
 else if op=6 then some (true,true,false,true,true)
 else if op=7\/op=8\/op=9 then some (true,true,false,true,false)
 else if op=10 then some (decide (dst≠ -1),false,false,true,true)
 else if op=11\/op=13\/op=17 then some (false,true,false,false,false)
 else if op=12 then some (true,false,false,false,false)
 else if op=14\/op=15 then some (false,false,false,true,false)
 else if op=16 then some (false,true,false,true,false)
 else none)=none:=by
    repeat rw[if_neg (by omega)]
   simp only[this,or_true]
 rcases hop with rfl|rfl|rfl|rfl|rfl|rfl|rfl|rfl|rfl|rfl|rfl|rfl|rfl|rfl|rfl|rfl|rfl|hn
 all_goals try rw[hn];simp only[Option.isSome_none,Bool.false_and]
 all_goals simp only[aI,aP,gA,lU,p9,fS,pR,bE,sH,aH,eN,j3]
 all_goals simp
 all_goals try simp only[hz]
 all_goals try grind
theorem Qw(c:aR)(ng:Int)(pl:List Int):∀k,k<=c.ins.length->(wW c ng pl k=true↔∀i x,i<k->c.ins[i]? =some x->J4 c ng pl (c.ins.take i) x=true):=by
 intro k
 induction k with
 |zero=>intro _;exact⟨λ_ i x h=>absurd h (Nat.not_lt_zero i),λ_=>rfl⟩
 |succ k ih=>
  intro hk;have hg:c.ins[k]? =some c.ins[k]:=List.getElem?_eq_getElem (by omega);rw[xZ hg,Bool.and_eq_true,ih (by omega)];constructor
  ·rintro⟨h1,h2⟩ i x hi hx;by_cases he:i=k
   ·subst he;rw[hg]at hx;cases hx;exact h2
   ·exact h1 i x (by omega) hx
  ·intro h;exact⟨λi x hi hx=>h i x (by omega) hx,h k _ (by omega) hg⟩
theorem vR:∀(r l:List bg),i6 l r=true↔∀i x,r[i]? =some x->xN (l++r.take i) x=true:=by
 intro r
 induction r with
 |nil=>intro l;exact⟨λ_ i x h=>by simp at h,λ_=>rfl⟩
 |cons y r ih=>
  intro l;have hh:i6 l (y::r)=(xN l y && i6 (l++[y]) r):=rfl;rw[hh,Bool.and_eq_true,ih];constructor
  ·rintro⟨h1,h2⟩ i x hx;cases i with
   |zero=>simp only[List.getElem?_cons_zero,Option.some.injEq]at hx;subst hx;simpa using h1
   |succ i=>
    simp only[List.getElem?_cons_succ]at hx;have:=h2 i x hx;simpa using this
  ·intro h;refine⟨by simpa using h 0 y rfl,λi x hx=>?_⟩;have:=h (i+1) x (by simpa using hx);simpa using this
theorem uO{l:List bg}(h:i6 [] l=true){n:Int}(hn:dh l n=true):0<=n/\n<8000:=by
 unfold dh at hn;rw[List.any_eq_true]at hn;obtain⟨x,hx,he⟩:=hn;obtain⟨h1,rfl⟩:=of_decide_eq_true he;obtain⟨i,hi⟩:=List.mem_iff_getElem?.1 hx;have:=(vR l []).1 h i x hi;unfold xN at this;simp[h1]at this;exact this.2
theorem Qi(c:aR)(ng nf:Int)(par:Int->Int->Bool)(pl:List Int)(hpl:(pl.length:Int)=nf)(gH:∀n k,0<=n->n<nf->par n k=decide (pl.getD n.toNat 0=k)):
  pN c ng pl=gD c ng nf par:=by
 have hA:wW c ng pl c.ins.length=(i6 [] c.ins && c.ins.all (sJ c ng nf par)):=by
  rw[Bool.eq_iff_iff,Bool.and_eq_true,Qw c ng pl _ (aY _),vR,List.all_eq_true];constructor
  ·intro h;refine⟨λi x hx=>?_,λx hx=>?_⟩
   ·have:=h i x (List.getElem?_eq_some_iff.1 hx).1 hx;rw[Ev c ng nf par pl _ x hpl gH,Bool.and_eq_true,Bool.and_eq_true]at this;exact this.2.1
   ·obtain⟨i,hi⟩:=List.mem_iff_getElem?.1 hx;have:=h i x (List.getElem?_eq_some_iff.1 hi).1 hi;rw[Ev c ng nf par pl _ x hpl gH,Bool.and_eq_true]at this;exact this.1
  ·rintro⟨h1,h2⟩ i x _ hx;have hl:=(vR c.ins []).2 h1;have hi:=h2 x (List.mem_iff_getElem?.2 ⟨i,hx⟩);rw[Ev c ng nf par pl _ x hpl gH,hi,Bool.true_and,Bool.and_eq_true];refine⟨h1 i x hx,?_⟩;unfold O8;by_cases hj:x.op=15\/x.op=16
   ·have hn:dh c.ins x.n=true:=by
     rw[qw]at hi;simp only[Bool.and_eq_true]at hi;have:=hi.2.2.2.2.2.2;unfold aH at this;rw[if_neg (by omega),if_neg (by omega),if_neg (by omega),if_neg (by omega),if_neg (by omega),if_neg (by omega),if_neg (by omega),if_neg (by omega),if_pos hj]at this;exact this
    rw[decide_eq_true (uO hl hn),Bool.or_true]
   ·rw[decide_eq_false hj];rfl
 unfold pN gD;rw[hA];have hH:wG c↔(DI c/\i6 [] c.ins=true):=by
  unfold wG DI mG oO;simp only[decide_eq_true_eq];constructor
  ·rintro⟨h1,h2,h3,h4,h5,h6,h7,h8⟩;exact⟨⟨⟨by omega,by omega⟩,h3,h4,h5,by omega,by omega⟩,h8⟩
  ·rintro⟨⟨⟨h1,h2⟩,h3,h4,h5,h6,h7⟩,h8⟩;exact⟨by omega,by omega,h3,h4,h5,by omega,by omega,h8⟩
 by_cases hr:DI c
 ·cases hl:i6 [] c.ins with
  |true=>rw[if_pos hr,if_pos (hH.2 ⟨hr,hl⟩),Bool.true_and]
  |false=>rw[if_pos hr,if_neg (λh=>by have:=(hH.1 h).2;rw[hl]at this;cases this),Bool.false_and,Bool.false_and]
 ·rw[if_neg hr,if_neg (λh=>hr (hH.1 h).1)]
end Go.Proofs.YtinmgbodgecoeaaGreat
