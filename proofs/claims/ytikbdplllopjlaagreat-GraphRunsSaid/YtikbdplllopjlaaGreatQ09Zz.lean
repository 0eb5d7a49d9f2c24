/- The graph's machine: calls that do not begin. Conditions: as stated. The graph's machine: the state between a call's blocks. Conditions: as stated. -/
import Derived.Test.YtikbdplllopjlaaGreatGBlkBZz
set_option linter.unusedVariables false
set_option linter.unusedSimpArgs false
set_option maxHeartbeats 8000000
set_option maxRecDepth 100000
open Go.Proofs.Tryz
namespace Go.Proofs.YtikbdplllopjlaaGreat
open Go.RowKit
theorem I4(ai cb hb rb:Nat)(own:Nat->Prop)(P:Value×Value×Value)(gv:Value)(ah:Int)(p:aM)(s:St)(f:Nat)(g:aP)(args:List V)(AA:Option Addr)(an fX:Nat)(w:World)
  (hg:p.funcs[f]? =some g)(hfn:Dg p g)(hf:ah<=100000000)(OH:(args.length:Int)=g.params)(h:gS w ai own cb hb ah s)(hR:jS w rb cb hb P gv p.ax.length)(hP:bH w ai P p)(w8:¬own rb/\ai<=rb)(A5:∀k,gv.ownBlock=some k->¬own k/\ai<=k)(hI:GInv ah s)(yF:p.ax.length<(au s.mem).length)(Ex:∀v,v∈args->lY (au s.mem).length v)(II:args.length=an)
  (eF:∀j v,args[j]? =some v->∃b off,AA=some ⟨b,off,none⟩/\b<w.heap.size/\¬own b/\bg w b (off+j*2) v)(hc:s.calls=64):
  Calls prog 26 #[.pointer (some ⟨rb,0,none⟩),.int .i64 f,.slice AA an fX] w λe w'=>nC ai cb hb ah own (none,{s with kind:=4}) w e w':=by
 have df:=h.blocks;have hcb:=df.2.2 cb df.1;have gP:ai<=w.heap.size:=by omega
 obtain⟨GA,iE,Co,tq,_⟩:=id hP.2.1;have GQ:f<p.funcs.length:=by
  rcases Nat.lt_or_ge f p.funcs.length with h'|h'
  ·exact h'
  ·rw[List.getElem?_eq_none h']at hg;cases hg
 have CW:=Co▸hP.2.1;obtain⟨gb,mD,g',rfl,hgb,iU,g0,g1,⟨LV,g2,qV⟩,⟨BV,g3,hbl⟩,_,_⟩:=CW.get GQ;obtain rfl:g'=g:=by rw[hg]at iU;injection iU with e;exact e.symm
 obtain⟨LA,bX,rfl⟩:∃LA bX,LV= .slice LA g'.az.length bX:=(by obtain⟨A',c',h,_⟩:=qV;exact⟨_,_,h⟩)
 obtain⟨BA,cL,rfl⟩:∃BA cL,BV= .slice BA g'.blocks.length cL:=(by obtain⟨A',c',h,_⟩:=hbl;exact⟨_,_,h⟩)
 obtain⟨g,rfl⟩:∃g,g=g':=⟨_,rfl⟩
 simp only[Nat.add_zero]at g0 g1 g2 g3;have gJ:∀o,o∈g.az->q9 o:=λo ho=>(hfn.Uo o ho).1;have jb:=hfn.az;have Ys:=dU gJ;have Ym:(f:Int)<(p.funcs.length:Int):=by omega
 have r0:w.cell? ⟨rb,0,none⟩=some (.pointer (some ⟨cb,0,none⟩)):=hR.row.cell (j:=0) rfl;have r2:w.cell? ⟨rb,2,none⟩=some (.slice (some ⟨gb,mD,none⟩) p.funcs.length iE):=Co▸hR.row.cell (j:=2) rfl;have rK:=hR.row.lt;have DC:gb<w.heap.size:=by omega
 have bL:=ae (aJ w (.cells #[.int .i64 0,.int .i64 0] 72) (.cells #[.int .i64 g.params,.int .i64 g.ay,.slice LA g.az.length bX,.slice BA g.blocks.length cL] 54));have V5:=ae (qY ai g.az LA g.az.length bX ((w.alloc (.cells #[.int .i64 0,.int .i64 0] 72)).alloc (.cells #[.int .i64 g.params,.int .i64 g.ay,.slice LA g.az.length bX,.slice BA g.blocks.length cL] 54)).drew (qV.below (bL.drew.mono gP) (aN _) (λ_ _ h=>h.below (bL.drew.mono gP) (aN _))) (by simp;omega) gJ (by omega));have HH:=ae (λW(hW:Below w.heap.size w W)=>h.below hW);have hv0:=(Row.new w #[.int .i64 0,.int .i64 0] 72).alloc (.cells #[.int .i64 g.params,.int .i64 g.ay,.slice LA g.az.length bX,.slice BA g.blocks.length cL] 54);have Pv:=ae hv0;have dR:=ae df
 have hg0:=Row.new (w.alloc (.cells #[.int .i64 0,.int .i64 0] 72)) #[.int .i64 g.params,.int .i64 g.ay,.slice LA g.az.length bX,.slice BA g.blocks.length cL] 54;rw[World.size_alloc]at hg0;have BH:=ae hg0;have iL:=ae r0
 have KS:=ae (λ(W:World)(aG:Below ((w.alloc (.cells #[.int .i64 0,.int .i64 0] 72)).alloc (.cells #[.int .i64 g.params,.int .i64 g.ay,.slice LA g.az.length bX,.slice BA g.blocks.length cL] 54)).heap.size ((w.alloc (.cells #[.int .i64 0,.int .i64 0] 72)).alloc (.cells #[.int .i64 g.params,.int .i64 g.ay,.slice LA g.az.length bX,.slice BA g.blocks.length cL] 54)) W)=>(⟨ag iL (bL.trans (aG.mono bL.size)) rK,(BH.below aG BH.lt).cell (j:=2) rfl⟩:W.cell? ⟨rb,0,none⟩=some (.pointer (some ⟨cb,0,none⟩))/\W.cell? ⟨w.heap.size+1,2,none⟩=some (.slice LA g.az.length bX)));have Fm:¬rb=cb:=λe=>w8.1 (e▸df.1)
 have Y2:=ae (λ(W w':World)(aG:Below ((w.alloc (.cells #[.int .i64 0,.int .i64 0] 72)).alloc (.cells #[.int .i64 g.params,.int .i64 g.ay,.slice LA g.az.length bX,.slice BA g.blocks.length cL] 54)).heap.size ((w.alloc (.cells #[.int .i64 0,.int .i64 0] 72)).alloc (.cells #[.int .i64 g.params,.int .i64 g.ay,.slice LA g.az.length bX,.slice BA g.blocks.length cL] 54)) W)(hw:Wr (λb=>b=cb) W w')=>(⟨(World.cell?_of_block (a:=⟨rb,0,none⟩) (hw.block rb (by have:=bL.size;have:=aG.size;show rb<_;omega) Fm)).trans (KS.out W aG).1,(((BH.below aG BH.lt)).wr hw (by omega)).cell (j:=2) rfl⟩:w'.cell? ⟨rb,0,none⟩=some (.pointer (some ⟨cb,0,none⟩))/\w'.cell? ⟨w.heap.size+1,2,none⟩=some (.slice LA g.az.length bX)))
 have Gv:=ae (λW(hW:Below ((w.alloc (.cells #[.int .i64 0,.int .i64 0] 72)).alloc (.cells #[.int .i64 g.params,.int .i64 g.ay,.slice LA g.az.length bX,.slice BA g.blocks.length cL] 54)).heap.size ((w.alloc (.cells #[.int .i64 0,.int .i64 0] 72)).alloc (.cells #[.int .i64 g.params,.int .i64 g.ay,.slice LA g.az.length bX,.slice BA g.blocks.length cL] 54)) W)=>QF (aS g.az) (HH.out W (bL.trans (hW.mono bL.size))) hc);clear h hR hP hg hfn w8 A5 hI yF Ex eF df hg0 hv0 Co CW qV hbl gJ iU tq;go_enter func26,ntmps26;refine ak λQ HQ=>?_;go_wp2_with fail
 go_region_held3 (λw'=>w'.cell? ⟨rb,0,none⟩=some (.pointer (some ⟨cb,0,none⟩))/\w'.cell? ⟨w.heap.size+1,2,none⟩=some (.slice LA g.az.length bX)) (first|exact KS.out _ (bI _ _).drew|exact KS.out _ ((bI _ _).drew.trans hb1)|exact Y2.out _ _ ((bI _ _).drew.trans hb1) hw2|go_keep) ((first|(go_at_call 44;refine V5.mono ?_;rintro e w1 ⟨rfl,hb1⟩)|(go_at_call 43;refine(Gv _ ((bI _ _).drew.trans hb1)).mono ?_;rintro e w2 ⟨rfl,J5,hw2⟩)));have bn:=ae (bL.drew.trans (hb1.mono bL.drew.size));have hzb:=bn.size;have hv2:=((Pv.drew).below hb1 Pv.lt).wr hw2 (by omega);have c0:=hv2.cell (j:=0) rfl;have c1:=hv2.cell (j:=1) rfl;have c2:=hv2.free 0;have c3:=hv2.free 1;have cl:=hv2.lt;have xU:=ae J5;have gU:=ae hw2;clear J5 hw2 hv2 Pv hb1;go_wp2_with fail
 refine HQ _ _ _ ?_;refine aR (v:= .tuple #[.agg #[.int .i64 0,.int .i64 0],.bool false]) (by simp[results,results26,go_sem,c0,c1]) rfl ⟨⟨0,0,rfl⟩,own,λ_ h=>h,λ_ h=>aH h,?_,?_⟩
 ·exact xU.wr (bU w2 w.heap.size (.int .i64 0) (.int .i64 0)) (λk hk=>(by subst hk;exact⟨gP,λho=>by have:=(dR.2.2 _ ho).2;omega⟩))
 ·exact(((Wr.of_below (F:=own) bn.out).trans gU (λk hk=>aH (hk▸dR.1)))).trans (bU w2 w.heap.size (.int .i64 0) (.int .i64 0)) (λk hk=>aT (by omega))
theorem LM(ai cb hb rb:Nat)(own:Nat->Prop)(P:Value×Value×Value)(gv:Value)(ah:Int)(p:aM)(s:St)(f:Nat)(g:aP)(args:List V)(AA:Option Addr)(an fX:Nat)(w:World)
  (hg:p.funcs[f]? =some g)(hfn:Dg p g)(hf:ah<=100000000)(OH:(args.length:Int)=g.params)(h:gS w ai own cb hb ah s)(hR:jS w rb cb hb P gv p.ax.length)(hP:bH w ai P p)(w8:¬own rb/\ai<=rb)(A5:∀k,gv.ownBlock=some k->¬own k/\ai<=k)(hI:GInv ah s)(yF:p.ax.length<(au s.mem).length)(Ex:∀v,v∈args->lY (au s.mem).length v)(II:args.length=an)
  (eF:∀j v,args[j]? =some v->∃b off,AA=some ⟨b,off,none⟩/\b<w.heap.size/\¬own b/\bg w b (off+j*2) v)(hc:s.calls<64)(hy:(aW ah (aS g.az) {s with calls:=s.calls+1,deep:=max s.deep (s.calls+1)}).1=false):
  Calls prog 26 #[.pointer (some ⟨rb,0,none⟩),.int .i64 f,.slice AA an fX] w λe w'=>nC ai cb hb ah own (none,(aW ah (aS g.az) {s with calls:=s.calls+1,deep:=max s.deep (s.calls+1)}).2) w e w':=by
 have df:=h.blocks;have hcb:=df.2.2 cb df.1;have gP:ai<=w.heap.size:=by omega
 obtain⟨GA,iE,Co,tq,_⟩:=id hP.2.1;have GQ:f<p.funcs.length:=by
  rcases Nat.lt_or_ge f p.funcs.length with h'|h'
  ·exact h'
  ·rw[List.getElem?_eq_none h']at hg;cases hg
 have CW:=Co▸hP.2.1;obtain⟨gb,mD,g',rfl,hgb,iU,g0,g1,⟨LV,g2,qV⟩,⟨BV,g3,hbl⟩,_,_⟩:=CW.get GQ;obtain rfl:g'=g:=by rw[hg]at iU;injection iU with e;exact e.symm
 obtain⟨LA,bX,rfl⟩:∃LA bX,LV= .slice LA g'.az.length bX:=(by obtain⟨A',c',h,_⟩:=qV;exact⟨_,_,h⟩)
 obtain⟨BA,cL,rfl⟩:∃BA cL,BV= .slice BA g'.blocks.length cL:=(by obtain⟨A',c',h,_⟩:=hbl;exact⟨_,_,h⟩)
 obtain⟨g,rfl⟩:∃g,g=g':=⟨_,rfl⟩
 simp only[Nat.add_zero]at g0 g1 g2 g3;have gJ:∀o,o∈g.az->q9 o:=λo ho=>(hfn.Uo o ho).1;have jb:=hfn.az;have Ys:=dU gJ;have Ym:(f:Int)<(p.funcs.length:Int):=by omega
 have r0:w.cell? ⟨rb,0,none⟩=some (.pointer (some ⟨cb,0,none⟩)):=hR.row.cell (j:=0) rfl;have r2:w.cell? ⟨rb,2,none⟩=some (.slice (some ⟨gb,mD,none⟩) p.funcs.length iE):=Co▸hR.row.cell (j:=2) rfl;have rK:=hR.row.lt;have DC:gb<w.heap.size:=by omega
 have bL:=ae (aJ w (.cells #[.int .i64 0,.int .i64 0] 72) (.cells #[.int .i64 g.params,.int .i64 g.ay,.slice LA g.az.length bX,.slice BA g.blocks.length cL] 54));have V5:=ae (qY ai g.az LA g.az.length bX ((w.alloc (.cells #[.int .i64 0,.int .i64 0] 72)).alloc (.cells #[.int .i64 g.params,.int .i64 g.ay,.slice LA g.az.length bX,.slice BA g.blocks.length cL] 54)).drew (qV.below (bL.drew.mono gP) (aN _) (λ_ _ h=>h.below (bL.drew.mono gP) (aN _))) (by simp;omega) gJ (by omega));have HH:=ae (λW(hW:Below w.heap.size w W)=>h.below hW);have hv0:=(Row.new w #[.int .i64 0,.int .i64 0] 72).alloc (.cells #[.int .i64 g.params,.int .i64 g.ay,.slice LA g.az.length bX,.slice BA g.blocks.length cL] 54);have Pv:=ae hv0;have dR:=ae df
 have hg0:=Row.new (w.alloc (.cells #[.int .i64 0,.int .i64 0] 72)) #[.int .i64 g.params,.int .i64 g.ay,.slice LA g.az.length bX,.slice BA g.blocks.length cL] 54;rw[World.size_alloc]at hg0;have BH:=ae hg0;have iL:=ae r0
 have KS:=ae (λ(W:World)(aG:Below ((w.alloc (.cells #[.int .i64 0,.int .i64 0] 72)).alloc (.cells #[.int .i64 g.params,.int .i64 g.ay,.slice LA g.az.length bX,.slice BA g.blocks.length cL] 54)).heap.size ((w.alloc (.cells #[.int .i64 0,.int .i64 0] 72)).alloc (.cells #[.int .i64 g.params,.int .i64 g.ay,.slice LA g.az.length bX,.slice BA g.blocks.length cL] 54)) W)=>(⟨ag iL (bL.trans (aG.mono bL.size)) rK,(BH.below aG BH.lt).cell (j:=2) rfl⟩:W.cell? ⟨rb,0,none⟩=some (.pointer (some ⟨cb,0,none⟩))/\W.cell? ⟨w.heap.size+1,2,none⟩=some (.slice LA g.az.length bX)));have Fm:¬rb=cb:=λe=>w8.1 (e▸df.1)
 have Y2:=ae (λ(W w':World)(aG:Below ((w.alloc (.cells #[.int .i64 0,.int .i64 0] 72)).alloc (.cells #[.int .i64 g.params,.int .i64 g.ay,.slice LA g.az.length bX,.slice BA g.blocks.length cL] 54)).heap.size ((w.alloc (.cells #[.int .i64 0,.int .i64 0] 72)).alloc (.cells #[.int .i64 g.params,.int .i64 g.ay,.slice LA g.az.length bX,.slice BA g.blocks.length cL] 54)) W)(hw:Wr (λb=>b=cb) W w')=>(⟨(World.cell?_of_block (a:=⟨rb,0,none⟩) (hw.block rb (by have:=bL.size;have:=aG.size;show rb<_;omega) Fm)).trans (KS.out W aG).1,(((BH.below aG BH.lt)).wr hw (by omega)).cell (j:=2) rfl⟩:w'.cell? ⟨rb,0,none⟩=some (.pointer (some ⟨cb,0,none⟩))/\w'.cell? ⟨w.heap.size+1,2,none⟩=some (.slice LA g.az.length bX)))
 have Gv:=ae (λW(hW:Below ((w.alloc (.cells #[.int .i64 0,.int .i64 0] 72)).alloc (.cells #[.int .i64 g.params,.int .i64 g.ay,.slice LA g.az.length bX,.slice BA g.blocks.length cL] 54)).heap.size ((w.alloc (.cells #[.int .i64 0,.int .i64 0] 72)).alloc (.cells #[.int .i64 g.params,.int .i64 g.ay,.slice LA g.az.length bX,.slice BA g.blocks.length cL] 54)) W)=>hy▸FV (aS g.az) (HH.out W (bL.trans (hW.mono bL.size))) hI.kind hI.calls hc hf hI.lo hI.hi (by omega) (by omega));clear h hR hP hg hfn w8 A5 hI yF Ex eF df hg0 hv0 Co CW qV hbl gJ iU tq;go_enter func26,ntmps26;refine ak λQ HQ=>?_;go_wp2_with fail
 go_region_held3 (λw'=>w'.cell? ⟨rb,0,none⟩=some (.pointer (some ⟨cb,0,none⟩))/\w'.cell? ⟨w.heap.size+1,2,none⟩=some (.slice LA g.az.length bX)) (first|exact KS.out _ (bI _ _).drew|exact KS.out _ ((bI _ _).drew.trans hb1)|exact Y2.out _ _ ((bI _ _).drew.trans hb1) hw2|go_keep) ((first|(go_at_call 44;refine V5.mono ?_;rintro e w1 ⟨rfl,hb1⟩)|(go_at_call 43;refine(Gv _ ((bI _ _).drew.trans hb1)).mono ?_;rintro e w2 ⟨rfl,J5,hw2⟩)));have bn:=ae (bL.drew.trans (hb1.mono bL.drew.size));have hzb:=bn.size;have hv2:=((Pv.drew).below hb1 Pv.lt).wr hw2 (by omega);have c0:=hv2.cell (j:=0) rfl;have c1:=hv2.cell (j:=1) rfl;have c2:=hv2.free 0;have c3:=hv2.free 1;have cl:=hv2.lt;have xU:=ae J5;have gU:=ae hw2;clear J5 hw2 hv2 Pv hb1;go_wp2_with fail
 refine HQ _ _ _ ?_;refine aR (v:= .tuple #[.agg #[.int .i64 0,.int .i64 0],.bool false]) (by simp[results,results26,go_sem,c0,c1]) rfl ⟨⟨0,0,rfl⟩,own,λ_ h=>h,λ_ h=>aH h,?_,?_⟩
 ·exact xU.wr (bU w2 w.heap.size (.int .i64 0) (.int .i64 0)) (λk hk=>(by subst hk;exact⟨gP,λho=>by have:=(dR.2.2 _ ho).2;omega⟩))
 ·exact(((Wr.of_below (F:=own) bn.out).trans gU (λk hk=>aH (hk▸dR.1)))).trans (bU w2 w.heap.size (.int .i64 0) (.int .i64 0)) (λk hk=>aT (by omega))
end Go.Proofs.YtikbdplllopjlaaGreat
namespace Go.Proofs.YtikbdplllopjlaaGreat
open Go.RowKit
theorem gS.steps{w:World}{ai:Nat}{own:Nat->Prop}{cb hb:Nat}{ah:Int}{s:St}(h:gS w ai own cb hb ah s):w.cell? ⟨cb,3,none⟩=some (.int .i64 s.steps):=by
 obtain⟨inv,outv,aU,rb,h⟩:=h;exact h.clk.cell (j:=3) rfl
theorem KW{M:List MO}{n x:Nat}(h:x∈eE M n):1<=x:=by
 unfold eE at h;simp only[List.mem_map,List.mem_range]at h;obtain⟨i,_,rfl⟩:=h;split
 ·omega
 ·rename_i hM;have:=List.length_pos_iff.2 hM;omega
structure Kr (ai cb hb rb fb tb:Nat) (own:Nat->Prop) (ah:Int) (P:Value×Value×Value) (gv lv:Value) (lo:List Nat) (ng nt:Nat) (c:Int) (gc:Array Value) (w:World) (bF:Nat->Prop) (st:St) (tp:List V) (wr:World):Prop where
 up:∀k,own k->bF k
 dn:∀k,bF k->own k\/w.heap.size+2<=k
 hc:gS wr ai bF cb hb ah st
 run:jS wr rb cb hb P gv ng
 fr:cD wr fb tb tp lv lo
 off:mQ ai bF rb fb tb lv gv
 nW:dW (au st.mem) tp lo ng
 inv:GInv ah st
 calls:st.calls=c
 len:tp.length=nt
 box:Row wr (w.heap.size+1) gc 54
 yz:own cb
 KU:∀k,own k->k<w.heap.size
 pos:ai<=w.heap.size
 new:w.heap.size+2<=fb/\w.heap.size+2<=tb/\∀g,lv.ownBlock=some g->w.heap.size+2<=g
 wr:Wr own w wr
section
variable {ai cb hb rb fb tb:Nat} {own:Nat->Prop} {ah:Int} {P:Value×Value×Value} {gv lv:Value} {lo:List Nat} {ng nt:Nat} {c:Int} {gc:Array Value} {w:World} {bF:Nat->Prop} {st:St} {tp:List V} {wr wr':World}
theorem Kr.B5(h:Kr ai cb hb rb fb tb own ah P gv lv lo ng nt c gc w bF st tp wr):¬bF w.heap.size/\¬bF (w.heap.size+1):=
 ⟨λe=>by rcases h.dn _ e with h'|h';have:=h.KU _ h';omega;omega,λe=>by rcases h.dn _ e with h'|h';have:=h.KU _ h';omega;omega⟩
theorem Kr.box1(h:Kr ai cb hb rb fb tb own ah P gv lv lo ng nt c gc w bF st tp wr)(hw:Wr (λi=>i=w.heap.size) wr wr')(rK:rb≠w.heap.size)(Be:∀g,gv.ownBlock=some g->g≠w.heap.size):Kr ai cb hb rb fb tb own ah P gv lv lo ng nt c gc w bF st tp wr':=by
 have hn:=h.B5;obtain⟨n1,n2,n3⟩:=h.new;have hp:=h.pos;exact⟨h.up,h.dn,h.hc.wr hw (λk hk=>(by subst hk;exact⟨hp,hn.1⟩)),h.run.wr hw rK Be,h.fr.wr hw (by omega) (by omega) (λg hg=>by have:=n3 g hg;omega),h.off,h.nW,h.inv,h.calls,h.len,h.box.wr hw (by omega),h.yz,h.KU,h.pos,h.new,h.wr.trans hw (λk hk=>aT (by omega))⟩
theorem Kr.YT(h:Kr ai cb hb rb fb tb own ah P gv lv lo ng nt c gc w bF st tp wr):Below ai w wr:=
 h.wr.below h.pos (λk hk=>(h.hc.blocks.2.2 k (h.up k hk)).1)
theorem Kr.after(h:Kr ai cb hb rb fb tb own ah P gv lv lo ng nt c gc w bF st tp wr)(fS:Nat->Prop)(h1:∀k,bF k->fS k)(h2:∀k,fS k->bF k\/wr.heap.size<=k)(h5:Wr (λb=>bF b\/b=tb) wr wr'):
  (∀k,own k->fS k)/\(∀k,fS k->own k\/w.heap.size+2<=k)/\Wr own w wr'/\(∀t cs,Row wr w.heap.size cs t->Row wr' w.heap.size cs t)/\Row wr' (w.heap.size+1) gc 54:=by
 have hn:=h.B5;obtain⟨n1,n2,n3⟩:=h.new;have hz:=h.box.lt;refine⟨λk hk=>h1 k (h.up k hk),λk hk=>?_,h.wr.trans h5 ?_,λt cs hr=>hr.wr h5 ?_,h.box.wr h5 ?_⟩
 ·rcases h2 k hk with h'|h'
  ·exact h.dn k h'
  ·exact aT (by omega)
 ·rintro k (hk|hk)
  ·rcases h.dn k hk with h'|h'
   ·exact aH h'
   ·exact aT (by omega)
  ·exact aT (by omega)
 ·rintro(h'|h')
  ·exact hn.1 h'
  ·omega
 ·rintro(h'|h')
  ·exact hn.2 h'
  ·omega
theorem Kr.next(h:Kr ai cb hb rb fb tb own ah P gv lv lo ng nt c gc w bF st tp wr)(fS:Nat->Prop)(h1:∀k,bF k->fS k)(h2:∀k,fS k->bF k\/wr.heap.size<=k)(h5:Wr (λb=>bF b\/b=tb) wr wr'){st':St}{tp':List V}(h3:gS wr' ai fS cb hb ah st')(h4:cD wr' fb tb tp' lv lo)(hk:lF ah st st')(hf:dW (au st'.mem) tp' lo ng)(hl:tp'.length=tp.length):
  Kr ai cb hb rb fb tb own ah P gv lv lo ng nt c gc w fS st' tp' wr':=by
 obtain⟨a1,a2,a3,a4,a5⟩:=h.after fS h1 h2 h5;refine⟨a1,a2,h3,h.run.wr h5 ?_ ?_,h4,mQ.up h.off h2 h.fr h.run,hf,hk.inv,hk.calls.trans h.calls,hl.trans h.len,a5,h.yz,h.KU,h.pos,h.new,a3⟩
 ·rintro(h'|h')
  ·exact h.off.BN.1 h'
  ·exact h.off.ort h'
 ·rintro g hg (h'|h')
  ·exact(h.off.zq g hg).1 h'
  ·exact(h.off.zq g hg).2.2 h'
end
end Go.Proofs.YtikbdplllopjlaaGreat
