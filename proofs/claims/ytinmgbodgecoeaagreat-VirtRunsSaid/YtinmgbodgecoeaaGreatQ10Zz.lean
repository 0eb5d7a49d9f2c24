/- virt: next: no fuel; a return; a branch that is not taken. Conditions: as stated. virt: an instruction: a call. Conditions: as stated. 'copy' of a row of values into a row that is known whole. No program in sight but its name. No condition. virt: calls that do not begin. Conditions: as stated. virt: the state between a call's instructions. Conditions: as stated. virt: next, whole. Conditions: as stated. virt: an instruction against the blocks of its translation (plain). No condition. -/
import Derived.Test.YtinmgbodgecoeaaGreatQ09Zz
import Derived.Laws.CopyOwn
set_option linter.unusedSimpArgs false
set_option linter.unusedVariables false
set_option maxHeartbeats 8000000
set_option maxRecDepth 100000
open Go.Proofs.Tryz
namespace Go.Proofs.YtinmgbodgecoeaaGreat
open Go.RowKit
def bI(R:bT)(ah:Int)(lo:List Nat)(l:List bg)(s:St)(tp:List V)(k:Nat)(x:bg):Bool×Int×St×List V:=
 if(aL ah 1 s).1=false then(false,0,(aL ah 1 s).2,tp)
 else if x.op=17 then(true,-1,(aL ah 1 s).2,tp)
 else if x.op=15 then(true,(gG l x.n:Nat),(aL ah 1 s).2,tp)
 else if x.op=16 then(true,(if tp.getD x.a.toNat ⟨0,0⟩=⟨0,0⟩then((k+1:Nat):Int)else(gG l x.n:Nat)),(aL ah 1 s).2,tp)
 else((aW R lo (aL ah 1 s).2 tp (aT x)).1,((k+1:Nat):Int),(aW R lo (aL ah 1 s).2 tp (aT x)).2.1,(aW R lo (aL ah 1 s).2 tp (aT x)).2.2)
def lQ(ai cb hb:Nat)(ah:Int)(fb tb mb:Nat)(lv:Value)(lo:List Nat)(own:Nat->Prop)(r:Bool×Int×St×List V)(w:World)(e:Ending)(w':World):Prop:=
 (∃y,e= .returned (.tuple #[.int .i64 y,.bool r.1])/\(r.1=true->y=r.2.1))/\∃own':Nat->Prop,(∀k,own k->own' k)/\(∀k,own' k->own k\/w.heap.size<=k)/\iH w' ai own' cb hb ah r.2.2.1/\(r.1=true->bX w' fb tb r.2.2.2 lv lo mb)/\Wr (λb=>own b\/b=tb) w w'
theorem LR(ai cb hb rb fb tb mb:Nat)(own:Nat->Prop)(P:Value×Value×Value)(gv bv lv:Value)(ah:Int)(s:St)(tp:List V)(lo:List Nat)(ng:Nat)(R:bT)(l:List bg)(k:Nat)(x:bg)(A:Option Addr)(aA:Nat)(w:World)
  (h:iH w ai own cb hb ah s)(hR:jd w rb cb hb P gv bv ng)(hF:bX w fb tb tp lv lo mb)(hO:oW ai own rb fb tb lv gv)(hI:GInv ah s)(hf:ah<=100000000)(hk:k<=10000)(hy:(aL ah 1 s).1=false):
  Calls prog 47 #[.pointer (some ⟨rb,0,none⟩),.pointer (some ⟨fb,0,none⟩),.int .i64 (k:Int),.agg #[.int .i64 x.op,.int .i64 x.dst,.int .i64 x.a,.int .i64 x.b,.int .i64 x.n,.slice A x.arg.length aA]] w λe w'=>lQ ai cb hb ah fb tb mb lv lo own (bI R ah lo l s tp k x) w e w':=by
 rw[show bI R ah lo l s tp k x=(false,0,(aL ah 1 s).2,tp) by unfold bI;rw[if_pos hy]];have hbk:=h.blocks;have hcb:=hbk.2.2 cb hbk.1;have tT:=hR.row.lt;have r0:=hR.row.cell (j:=0) rfl;have zn:rb≠cb:=λe=>hO.Ll.1 (e▸hbk.1);have uY:=ae (rL (w:=w.alloc (.cells #[.int .i64 x.op,.int .i64 x.dst,.int .i64 x.a,.int .i64 x.b,.int .i64 x.n,.slice A x.arg.length aA] 94)) 1 (h.below (ax _ _)) hI.kind hf hI.lo hI.hi (by omega) (by omega));have HR:=ae hR;have HF:=ae hF;have HO:=ae hO;have fD:=ae hbk;have Ez:rb<w.heap.size+1:=by omega
 have zP:=ae (Row.new w #[.int .i64 x.op,.int .i64 x.dst,.int .i64 x.a,.int .i64 x.b,.int .i64 x.n,.slice A x.arg.length aA] 94);rw[hy]at uY;obtain⟨s1,hs1⟩:∃s1,s1=(aL ah 1 s).2:=⟨_,rfl⟩
 rw[<-hs1]at uY ⊢;clear h hR hF hO hI hbk hy hs1;go_enter func47,ntmps47;refine aj λQ HQ=>?_;go_wp2_with fail;refine uY.mono ?_;rintro e w1 ⟨rfl,DL,hw1⟩;have E8:=ae DL;have hW1:Wr (λb=>b=cb) w w1:=(Wr.of_below (F:=λb=>b=cb) (ax w (.cells #[.int .i64 x.op,.int .i64 x.dst,.int .i64 x.a,.int .i64 x.b,.int .i64 x.n,.slice A x.arg.length aA] 94))).trans hw1 (λ_ h=>aK h);have uo:=ae hW1;clear DL hw1 hW1;go_wp2_with fail;refine HQ _ _ _ ?_;exact aS (v:= .tuple #[.int .i64 0,.bool false]) (by simp[results,results47,go_sem]) rfl ⟨⟨0,rfl,λh=>(by cases h)⟩,own,λ_ h=>h,λ_ h=>aK h,E8.out,λh=>(by cases h),uo.mono (λi hi=>aK (aK (hi▸fD.1)))⟩
theorem LQ(ai cb hb rb fb tb mb:Nat)(own:Nat->Prop)(P:Value×Value×Value)(gv bv lv:Value)(ah:Int)(s:St)(tp:List V)(lo:List Nat)(ng:Nat)(R:bT)(l:List bg)(k:Nat)(x:bg)(A:Option Addr)(aA:Nat)(w:World)
  (h:iH w ai own cb hb ah s)(hR:jd w rb cb hb P gv bv ng)(hF:bX w fb tb tp lv lo mb)(hO:oW ai own rb fb tb lv gv)(hI:GInv ah s)(hf:ah<=100000000)(hk:k<=10000)(hy:(aL ah 1 s).1=true)(hop:x.op=17):
  Calls prog 47 #[.pointer (some ⟨rb,0,none⟩),.pointer (some ⟨fb,0,none⟩),.int .i64 (k:Int),.agg #[.int .i64 x.op,.int .i64 x.dst,.int .i64 x.a,.int .i64 x.b,.int .i64 x.n,.slice A x.arg.length aA]] w λe w'=>lQ ai cb hb ah fb tb mb lv lo own (bI R ah lo l s tp k x) w e w':=by
 rw[show bI R ah lo l s tp k x=(true,-1,(aL ah 1 s).2,tp) by unfold bI;rw[if_neg (by rw[hy];simp),if_pos hop],hop];have hbk:=h.blocks;have hcb:=hbk.2.2 cb hbk.1;have tT:=hR.row.lt;have r0:=hR.row.cell (j:=0) rfl;have zn:rb≠cb:=λe=>hO.Ll.1 (e▸hbk.1);have uY:=ae (rL (w:=w.alloc (.cells #[.int .i64 17,.int .i64 x.dst,.int .i64 x.a,.int .i64 x.b,.int .i64 x.n,.slice A x.arg.length aA] 94)) 1 (h.below (ax _ _)) hI.kind hf hI.lo hI.hi (by omega) (by omega));have HR:=ae hR;have HF:=ae hF;have HO:=ae hO;have fD:=ae hbk;have Ez:rb<w.heap.size+1:=by omega
 have zP:=ae (Row.new w #[.int .i64 17,.int .i64 x.dst,.int .i64 x.a,.int .i64 x.b,.int .i64 x.n,.slice A x.arg.length aA] 94);rw[hy]at uY;obtain⟨s1,hs1⟩:∃s1,s1=(aL ah 1 s).2:=⟨_,rfl⟩
 rw[<-hs1]at uY ⊢;clear h hR hF hO hI hbk hy hs1;go_enter func47,ntmps47;refine aj λQ HQ=>?_;go_wp2_with fail;refine uY.mono ?_;rintro e w1 ⟨rfl,DL,hw1⟩;have E8:=ae DL;have hW1:Wr (λb=>b=cb) w w1:=(Wr.of_below (F:=λb=>b=cb) (ax w (.cells #[.int .i64 17,.int .i64 x.dst,.int .i64 x.a,.int .i64 x.b,.int .i64 x.n,.slice A x.arg.length aA] 94))).trans hw1 (λ_ h=>aK h);have uo:=ae hW1;have Ph:=hW1.size;have xO:¬w.heap.size=cb:=by omega
 have sW:=ae (zP.wr hw1 xO);have oY:=ae (HR.wr hW1 zn (λg hg e=>(HO.JL g hg).1 (e▸fD.1)));have uC:=ae (HF.wr hW1 (λe=>HO.My.1 (e▸fD.1)) (λe=>HO.El.1 (e▸fD.1)) (λg hg e=>(HO.Lm g hg).1 (e▸fD.1)));have x0:=sW.cell (j:=0) rfl;have xl:=sW.lt;have Pr:=oY.row.lt;clear DL hw1 hW1;go_wp2_with fail;refine HQ _ _ _ ?_;exact aS (v:= .tuple #[.int .i64 (-1),.bool true]) (by simp[results,results47,go_sem]) rfl ⟨⟨-1,rfl,λ_=>rfl⟩,own,λ_ h=>h,λ_ h=>aK h,E8.out,λ_=>uC.out,uo.mono (λi hi=>aK (aK (hi▸fD.1)))⟩
theorem I6(ai cb hb rb fb tb mb:Nat)(own:Nat->Prop)(P:Value×Value×Value)(gv bv lv:Value)(ah:Int)(s:St)(tp:List V)(lo:List Nat)(ng:Nat)(R:bT)(l:List bg)(k:Nat)(x:bg)(A:Option Addr)(aA:Nat)(w:World)
  (h:iH w ai own cb hb ah s)(hR:jd w rb cb hb P gv bv ng)(hF:bX w fb tb tp lv lo mb)(hO:oW ai own rb fb tb lv gv)(hI:GInv ah s)(hf:ah<=100000000)(hk:k<=10000)(hy:(aL ah 1 s).1=true)(hop:x.op=15)(nl:Nat)(hlab:fL w mb nl (gS l))(hmb:¬own mb)(zq:dh l x.n=true)(pI:In64 x.n):
  Calls prog 47 #[.pointer (some ⟨rb,0,none⟩),.pointer (some ⟨fb,0,none⟩),.int .i64 (k:Int),.agg #[.int .i64 x.op,.int .i64 x.dst,.int .i64 x.a,.int .i64 x.b,.int .i64 x.n,.slice A x.arg.length aA]] w λe w'=>lQ ai cb hb ah fb tb mb lv lo own (bI R ah lo l s tp k x) w e w':=by
 rw[show bI R ah lo l s tp k x=(true,((gG l x.n:Nat):Int),(aL ah 1 s).2,tp) by unfold bI;rw[if_neg (by rw[hy];simp),if_neg (by omega),if_pos hop],hop];have hbk:=h.blocks;have hcb:=hbk.2.2 cb hbk.1;have tT:=hR.row.lt;have r0:=hR.row.cell (j:=0) rfl;have zn:rb≠cb:=λe=>hO.Ll.1 (e▸hbk.1);have uY:=ae (rL (w:=w.alloc (.cells #[.int .i64 15,.int .i64 x.dst,.int .i64 x.a,.int .i64 x.b,.int .i64 x.n,.slice A x.arg.length aA] 94)) 1 (h.below (ax _ _)) hI.kind hf hI.lo hI.hi (by omega) (by omega));have HR:=ae hR;have HF:=ae hF;have HO:=ae hO;have fD:=ae hbk;have Ez:rb<w.heap.size+1:=by omega
 have zP:=ae (Row.new w #[.int .i64 15,.int .i64 x.dst,.int .i64 x.a,.int .i64 x.b,.int .i64 x.n,.slice A x.arg.length aA] 94);rw[hy]at uY;obtain⟨s1,hs1⟩:∃s1,s1=(aL ah 1 s).2:=⟨_,rfl⟩
 rw[<-hs1]at uY ⊢;have yf:=ae hlab;have Xd:=ae (λW(hW:fL W mb nl (gS l))=>(show(Instr.lookup 71 (.map (some mb)) (.int .i64 x.n) false).run prog W= .ok (.int .i64 (gG l x.n:Nat)) W from by have:=hW.look pI;rw[this,show gS l x.n=some (gG l x.n)from by unfold gS;rw[if_pos zq]];rfl));have CH:=ae (show mb≠cb from λe=>hmb (e▸hbk.1));clear h hR hF hO hI hbk hy hs1 hlab hmb zq pI;go_enter func47,ntmps47;refine aj λQ HQ=>?_;go_wp2_with fail;refine uY.mono ?_;rintro e w1 ⟨rfl,DL,hw1⟩;have E8:=ae DL;have hW1:Wr (λb=>b=cb) w w1:=(Wr.of_below (F:=λb=>b=cb) (ax w (.cells #[.int .i64 15,.int .i64 x.dst,.int .i64 x.a,.int .i64 x.b,.int .i64 x.n,.slice A x.arg.length aA] 94))).trans hw1 (λ_ h=>aK h)
 have uo:=ae hW1;have Ph:=hW1.size;have xO:¬w.heap.size=cb:=by omega
 have sW:=ae (zP.wr hw1 xO);have oY:=ae (HR.wr hW1 zn (λg hg e=>(HO.JL g hg).1 (e▸fD.1)));have uC:=ae (HF.wr hW1 (λe=>HO.My.1 (e▸fD.1)) (λe=>HO.El.1 (e▸fD.1)) (λg hg e=>(HO.Lm g hg).1 (e▸fD.1)));have x0:=sW.cell (j:=0) rfl;have xl:=sW.lt;have Pr:=oY.row.lt;have x4:=sW.cell (j:=4) rfl;have ft:=uC.row.cell (j:=2) rfl;have xQ:=uC.row.lt;have hlk:=Xd.out w1.drew (yf.wr uo.bR CH.out);clear DL hw1 hW1;go_wp2_with fail;refine aX 6 (by kernel_rfl) (by kernel_rfl) ?_;simp only[List.take_succ_cons,List.take_zero,List.drop_succ_cons,List.drop_zero]
 repeat(go_big_quiet_step (fail))
 refine wpQuiet_nil ?_;go_wp2_with fail;refine HQ _ _ _ ?_;exact aS (v:= .tuple #[.int .i64 (gG l x.n:Nat),.bool true]) (by simp[results,results47,go_sem]) rfl ⟨⟨_,rfl,λ_=>rfl⟩,own,λ_ h=>h,λ_ h=>aK h,E8.below (aV _ _).drew,λ_=>uC.below (aV _ _).drew,(uo.mono (λi hi=>aK (aK (hi▸fD.1)))).bR⟩
theorem I5(ai cb hb rb fb tb mb:Nat)(own:Nat->Prop)(P:Value×Value×Value)(gv bv lv:Value)(ah:Int)(s:St)(tp:List V)(lo:List Nat)(ng:Nat)(R:bT)(l:List bg)(k:Nat)(x:bg)(A:Option Addr)(aA:Nat)(w:World)
  (h:iH w ai own cb hb ah s)(hR:jd w rb cb hb P gv bv ng)(hF:bX w fb tb tp lv lo mb)(hO:oW ai own rb fb tb lv gv)(hI:GInv ah s)(hf:ah<=100000000)(hk:k<=10000)(hy:(aL ah 1 s).1=true)(hop:x.op=16)(ma:Nat)(NW:x.a=(ma:Int))(lh:ma<tp.length)(hz:tp.getD ma ⟨0,0⟩=⟨0,0⟩):
  Calls prog 47 #[.pointer (some ⟨rb,0,none⟩),.pointer (some ⟨fb,0,none⟩),.int .i64 (k:Int),.agg #[.int .i64 x.op,.int .i64 x.dst,.int .i64 x.a,.int .i64 x.b,.int .i64 x.n,.slice A x.arg.length aA]] w λe w'=>lQ ai cb hb ah fb tb mb lv lo own (bI R ah lo l s tp k x) w e w':=by
 rw[show bI R ah lo l s tp k x=(true,((k+1:Nat):Int),(aL ah 1 s).2,tp) by unfold bI;rw[if_neg (by rw[hy];simp),if_neg (by omega),if_neg (by omega),if_pos hop,NW,Int.toNat_natCast];rw[if_pos hz],hop,NW];have hbk:=h.blocks;have hcb:=hbk.2.2 cb hbk.1;have tT:=hR.row.lt;have r0:=hR.row.cell (j:=0) rfl;have zn:rb≠cb:=λe=>hO.Ll.1 (e▸hbk.1);have uY:=ae (rL (w:=w.alloc (.cells #[.int .i64 16,.int .i64 x.dst,.int .i64 (ma:Int),.int .i64 x.b,.int .i64 x.n,.slice A x.arg.length aA] 94)) 1 (h.below (ax _ _)) hI.kind hf hI.lo hI.hi (by omega) (by omega));have HR:=ae hR;have HF:=ae hF;have HO:=ae hO;have fD:=ae hbk;have Ez:rb<w.heap.size+1:=by omega
 have zP:=ae (Row.new w #[.int .i64 16,.int .i64 x.dst,.int .i64 (ma:Int),.int .i64 x.b,.int .i64 x.n,.slice A x.arg.length aA] 94);rw[hy]at uY;obtain⟨s1,hs1⟩:∃s1,s1=(aL ah 1 s).2:=⟨_,rfl⟩
 rw[<-hs1]at uY ⊢;obtain⟨v,hv⟩:∃v,tp[ma]? =some v:=⟨_,List.getElem?_eq_getElem lh⟩
 have hgd:tp.getD ma ⟨0,0⟩=v:=by rw[List.getD_eq_getElem?_getD,hv];rfl
 rw[hz]at hgd;subst hgd;clear h hR hF hO hI hbk hy hs1 hz;go_enter func47,ntmps47;refine aj λQ HQ=>?_;go_wp2_with fail;refine uY.mono ?_;rintro e w1 ⟨rfl,DL,hw1⟩;have E8:=ae DL;have hW1:Wr (λb=>b=cb) w w1:=(Wr.of_below (F:=λb=>b=cb) (ax w (.cells #[.int .i64 16,.int .i64 x.dst,.int .i64 (ma:Int),.int .i64 x.b,.int .i64 x.n,.slice A x.arg.length aA] 94))).trans hw1 (λ_ h=>aK h);have uo:=ae hW1;have Ph:=hW1.size;have xO:¬w.heap.size=cb:=by omega
 have sW:=ae (zP.wr hw1 xO);have oY:=ae (HR.wr hW1 zn (λg hg e=>(HO.JL g hg).1 (e▸fD.1)));have uC:=ae (HF.wr hW1 (λe=>HO.My.1 (e▸fD.1)) (λe=>HO.El.1 (e▸fD.1)) (λg hg e=>(HO.Lm g hg).1 (e▸fD.1)));have x0:=sW.cell (j:=0) rfl;have xl:=sW.lt;have Pr:=oY.row.lt;have x2:=sW.cell (j:=2) rfl;have ft:=uC.row.cell (j:=0) rfl;have xQ:=uC.row.lt;have uj:=uC.lt.2;obtain⟨cs,htr,gT⟩:=id uC.bN;obtain⟨lT,lS⟩:=gT.2 ma _ hv;have t0:=htr.cell lT;have t1:=htr.cell lS;have hm0:(0:Int)<=(ma:Int):=by omega
 have hm1:(ma:Int)<(tp.length:Int):=by omega
 have zi:(tp.length:Int)<=1000000:=by have:=uC.few;omega
 clear DL hw1 hW1 htr gT lT lS hv;have t0:=AW t0 rfl;simp only at t1;have KS:=ae (λW(hW:Below w1.heap.size w1 W)=>(⟨ag ft hW xQ,ag x2 hW xl,ag t0 hW uj,ag t1 hW uj⟩:W.cell? ⟨fb,0,none⟩=some (.slice (some ⟨tb,0,none⟩) tp.length tp.length)/\W.cell? ⟨w.heap.size,2,none⟩=some (.int .i64 (ma:Int))/\W.cell? ⟨tb,ma*2,none⟩=some (.int .i64 0)/\W.cell? ⟨tb,ma*2+1,none⟩=some (.int .i64 0)));go_wp2_with fail;go_region_held3 (λw'=>w'.cell? ⟨fb,0,none⟩=some (.slice (some ⟨tb,0,none⟩) tp.length tp.length)/\w'.cell? ⟨w.heap.size,2,none⟩=some (.int .i64 (ma:Int))/\w'.cell? ⟨tb,ma*2,none⟩=some (.int .i64 0)/\w'.cell? ⟨tb,ma*2+1,none⟩=some (.int .i64 0)) (first|exact KS.out _ (aV _ _).drew|exact KS.out _ (aV _ _)|go_keep) (fail);go_wp2_with fail
 refine HQ _ _ _ ?_;have hbz:=(ax w1 (.cells #[.int .i64 0,.int .i64 0] 75)).drew;exact aS (v:= .tuple #[.int .i64 ((k:Int)+1),.bool true]) (by simp[results,results47,go_sem]) rfl ⟨⟨_,rfl,λ_=>by simp⟩,own,λ_ h=>h,λ_ h=>aK h,E8.below hbz,λ_=>uC.below hbz,(uo.mono (λi hi=>aK (aK (hi▸fD.1)))).trans (eW hbz) (λ_ h=>h.elim)⟩
theorem Eb(ai cb hb rb fb tb mb:Nat)(own:Nat->Prop)(P:Value×Value×Value)(gv bv lv:Value)(ah:Int)(s:St)(tp:List V)(lo:List Nat)(ng:Nat)(R:bT)(l:List bg)(k:Nat)(x:bg)(A:Option Addr)(aA:Nat)(w:World)
  (h:iH w ai own cb hb ah s)(hR:jd w rb cb hb P gv bv ng)(hF:bX w fb tb tp lv lo mb)(hO:oW ai own rb fb tb lv gv)(hI:GInv ah s)(hf:ah<=100000000)(hk:k<=10000)(hy:(aL ah 1 s).1=true)(hop:x.op=16)(ma:Nat)(NW:x.a=(ma:Int))(lh:ma<tp.length)(hz:0<(tp.getD ma ⟨0,0⟩).obj)(nl:Nat)(hlab:fL w mb nl (gS l))(hmb:¬own mb)(zq:dh l x.n=true)(pI:In64 x.n):
  Calls prog 47 #[.pointer (some ⟨rb,0,none⟩),.pointer (some ⟨fb,0,none⟩),.int .i64 (k:Int),.agg #[.int .i64 x.op,.int .i64 x.dst,.int .i64 x.a,.int .i64 x.b,.int .i64 x.n,.slice A x.arg.length aA]] w λe w'=>lQ ai cb hb ah fb tb mb lv lo own (bI R ah lo l s tp k x) w e w':=by
 rw[show bI R ah lo l s tp k x=(true,((gG l x.n:Nat):Int),(aL ah 1 s).2,tp) by unfold bI;rw[if_neg (by rw[hy];simp),if_neg (by omega),if_neg (by omega),if_pos hop,NW,Int.toNat_natCast];rw[if_neg (show¬tp.getD ma ⟨0,0⟩=⟨0,0⟩ by intro e;rw[e]at hz;simp at hz)],hop,NW];have hbk:=h.blocks;have hcb:=hbk.2.2 cb hbk.1;have tT:=hR.row.lt;have r0:=hR.row.cell (j:=0) rfl;have zn:rb≠cb:=λe=>hO.Ll.1 (e▸hbk.1);have uY:=ae (rL (w:=w.alloc (.cells #[.int .i64 16,.int .i64 x.dst,.int .i64 (ma:Int),.int .i64 x.b,.int .i64 x.n,.slice A x.arg.length aA] 94)) 1 (h.below (ax _ _)) hI.kind hf hI.lo hI.hi (by omega) (by omega));have HR:=ae hR;have HF:=ae hF;have HO:=ae hO;have fD:=ae hbk;have Ez:rb<w.heap.size+1:=by omega
 have zP:=ae (Row.new w #[.int .i64 16,.int .i64 x.dst,.int .i64 (ma:Int),.int .i64 x.b,.int .i64 x.n,.slice A x.arg.length aA] 94);rw[hy]at uY;obtain⟨s1,hs1⟩:∃s1,s1=(aL ah 1 s).2:=⟨_,rfl⟩
 rw[<-hs1]at uY ⊢;obtain⟨v,hv⟩:∃v,tp[ma]? =some v:=⟨_,List.getElem?_eq_getElem lh⟩
 have hgd:tp.getD ma ⟨0,0⟩=v:=by rw[List.getD_eq_getElem?_getD,hv];rfl
 rw[hgd]at hz;have yf:=ae hlab;have Xd:=ae (λW(hW:fL W mb nl (gS l))=>(show(Instr.lookup 71 (.map (some mb)) (.int .i64 x.n) false).run prog W= .ok (.int .i64 (gG l x.n:Nat)) W from by have:=hW.look pI;rw[this,show gS l x.n=some (gG l x.n)from by unfold gS;rw[if_pos zq]];rfl));have CH:=ae (show mb≠cb from λe=>hmb (e▸hbk.1));clear h hR hF hO hI hbk hy hs1 hgd hlab hmb zq pI;go_enter func47,ntmps47;refine aj λQ HQ=>?_;go_wp2_with fail;refine uY.mono ?_;rintro e w1 ⟨rfl,DL,hw1⟩;have E8:=ae DL;have hW1:Wr (λb=>b=cb) w w1:=(Wr.of_below (F:=λb=>b=cb) (ax w (.cells #[.int .i64 16,.int .i64 x.dst,.int .i64 (ma:Int),.int .i64 x.b,.int .i64 x.n,.slice A x.arg.length aA] 94))).trans hw1 (λ_ h=>aK h)
 have uo:=ae hW1;have Ph:=hW1.size;have xO:¬w.heap.size=cb:=by omega
 have sW:=ae (zP.wr hw1 xO);have oY:=ae (HR.wr hW1 zn (λg hg e=>(HO.JL g hg).1 (e▸fD.1)));have uC:=ae (HF.wr hW1 (λe=>HO.My.1 (e▸fD.1)) (λe=>HO.El.1 (e▸fD.1)) (λg hg e=>(HO.Lm g hg).1 (e▸fD.1)));have x0:=sW.cell (j:=0) rfl;have xl:=sW.lt;have Pr:=oY.row.lt;have x2:=sW.cell (j:=2) rfl;have ft:=uC.row.cell (j:=0) rfl;have xQ:=uC.row.lt;have uj:=uC.lt.2;obtain⟨cs,htr,gT⟩:=id uC.bN;obtain⟨lT,lS⟩:=gT.2 ma _ hv;have t0:=htr.cell lT;have t1:=htr.cell lS;have hm0:(0:Int)<=(ma:Int):=by omega
 have hm1:(ma:Int)<(tp.length:Int):=by omega
 have zi:(tp.length:Int)<=1000000:=by have:=uC.few;omega
 have x4:=sW.cell (j:=4) rfl;have fm:=uC.row.cell (j:=2) rfl;clear DL hw1 hW1 htr gT lT lS hv;have hz0:decide ((0:Int)<(v.obj:Int))=true:=by simp;omega
 have hz1:decide (0<v.obj)=true:=by simp;omega
 have KS:=ae (λW(hW:Below w1.heap.size w1 W)=>(⟨ag ft hW xQ,ag x2 hW xl,ag t0 hW uj,ag t1 hW uj⟩:W.cell? ⟨fb,0,none⟩=some (.slice (some ⟨tb,0,none⟩) tp.length tp.length)/\W.cell? ⟨w.heap.size,2,none⟩=some (.int .i64 (ma:Int))/\W.cell? ⟨tb,ma*2,none⟩=some (.int .i64 v.obj)/\W.cell? ⟨tb,ma*2+1,none⟩=some (.int .i64 v.n)));have hbz:=(ax w1 (.cells #[.int .i64 v.obj,.int .i64 v.n] 75)).drew;have Xl:=ae hbz;have x4b:=ag x4 hbz xl;have fmb:=ag fm hbz xQ;have hlk:=Xd (w1.alloc (.cells #[.int .i64 v.obj,.int .i64 v.n] 75)).drew ((yf.wr uo.out CH.out).wr (eW hbz) (λh=>h))
 have hlk2:=Xd (w1.alloc (.cells #[.int .i64 v.obj,.int .i64 v.n] 75)).drew.drew ((yf.wr uo.out CH.out).wr (eW hbz.drew) (λh=>h));have xl2:w.heap.size<w1.heap.size+1:=by omega
 have hfb2:fb<w1.heap.size+1:=by omega
 clear hbz;go_wp2_with fail;go_region_held3 (λw'=>w'.cell? ⟨fb,0,none⟩=some (.slice (some ⟨tb,0,none⟩) tp.length tp.length)/\w'.cell? ⟨w.heap.size,2,none⟩=some (.int .i64 (ma:Int))/\w'.cell? ⟨tb,ma*2,none⟩=some (.int .i64 v.obj)/\w'.cell? ⟨tb,ma*2+1,none⟩=some (.int .i64 v.n)) (first|exact KS.out _ (aV _ _).drew|exact KS.out _ (aV _ _)|go_keep) (fail);go_wp2_with fail;refine aX 6 (by kernel_rfl) (by kernel_rfl) ?_;simp only[List.take_succ_cons,List.take_zero,List.drop_succ_cons,List.drop_zero]
 repeat(go_big_quiet_step (fail))
 refine wpQuiet_nil ?_;go_wp2_with fail;refine HQ _ _ _ ?_;exact aS (v:= .tuple #[.int .i64 (gG l x.n:Nat),.bool true]) (by simp[results,results47,go_sem]) rfl ⟨⟨_,rfl,λ_=>rfl⟩,own,λ_ h=>h,λ_ h=>aK h,E8.below Xl.drew,λ_=>uC.below Xl.drew,((uo.mono (λi hi=>aK (aK (hi▸fD.1)))).trans (eW Xl.drew) (λ_ h=>h.elim))⟩
theorem Ec(ai cb hb rb fb tb mb:Nat)(own:Nat->Prop)(P:Value×Value×Value)(gv bv lv:Value)(ah:Int)(s:St)(tp:List V)(lo:List Nat)(ng:Nat)(R:bT)(l:List bg)(k:Nat)(x:bg)(A:Option Addr)(aA:Nat)(w:World)
  (h:iH w ai own cb hb ah s)(hR:jd w rb cb hb P gv bv ng)(hF:bX w fb tb tp lv lo mb)(hO:oW ai own rb fb tb lv gv)(hI:GInv ah s)(hf:ah<=100000000)(hk:k<=10000)(hy:(aL ah 1 s).1=true)(hop:x.op=16)(ma:Nat)(NW:x.a=(ma:Int))(lh:ma<tp.length)(hz:(tp.getD ma ⟨0,0⟩).obj=0/\(tp.getD ma ⟨0,0⟩).n≠0)(nl:Nat)(hlab:fL w mb nl (gS l))(hmb:¬own mb)(zq:dh l x.n=true)(pI:In64 x.n):
  Calls prog 47 #[.pointer (some ⟨rb,0,none⟩),.pointer (some ⟨fb,0,none⟩),.int .i64 (k:Int),.agg #[.int .i64 x.op,.int .i64 x.dst,.int .i64 x.a,.int .i64 x.b,.int .i64 x.n,.slice A x.arg.length aA]] w λe w'=>lQ ai cb hb ah fb tb mb lv lo own (bI R ah lo l s tp k x) w e w':=by
 rw[show bI R ah lo l s tp k x=(true,((gG l x.n:Nat):Int),(aL ah 1 s).2,tp) by unfold bI;rw[if_neg (by rw[hy];simp),if_neg (by omega),if_neg (by omega),if_pos hop,NW,Int.toNat_natCast];rw[if_neg (show¬tp.getD ma ⟨0,0⟩=⟨0,0⟩ by intro e;rw[e]at hz;simp at hz)],hop,NW];have hbk:=h.blocks;have hcb:=hbk.2.2 cb hbk.1;have tT:=hR.row.lt;have r0:=hR.row.cell (j:=0) rfl;have zn:rb≠cb:=λe=>hO.Ll.1 (e▸hbk.1);have uY:=ae (rL (w:=w.alloc (.cells #[.int .i64 16,.int .i64 x.dst,.int .i64 (ma:Int),.int .i64 x.b,.int .i64 x.n,.slice A x.arg.length aA] 94)) 1 (h.below (ax _ _)) hI.kind hf hI.lo hI.hi (by omega) (by omega));have HR:=ae hR;have HF:=ae hF;have HO:=ae hO;have fD:=ae hbk;have Ez:rb<w.heap.size+1:=by omega
 have zP:=ae (Row.new w #[.int .i64 16,.int .i64 x.dst,.int .i64 (ma:Int),.int .i64 x.b,.int .i64 x.n,.slice A x.arg.length aA] 94);rw[hy]at uY;obtain⟨s1,hs1⟩:∃s1,s1=(aL ah 1 s).2:=⟨_,rfl⟩
 rw[<-hs1]at uY ⊢;obtain⟨v,hv⟩:∃v,tp[ma]? =some v:=⟨_,List.getElem?_eq_getElem lh⟩
 have hgd:tp.getD ma ⟨0,0⟩=v:=by rw[List.getD_eq_getElem?_getD,hv];rfl
 rw[hgd]at hz;have yf:=ae hlab;have Xd:=ae (λW(hW:fL W mb nl (gS l))=>(show(Instr.lookup 71 (.map (some mb)) (.int .i64 x.n) false).run prog W= .ok (.int .i64 (gG l x.n:Nat)) W from by have:=hW.look pI;rw[this,show gS l x.n=some (gG l x.n)from by unfold gS;rw[if_pos zq]];rfl));have CH:=ae (show mb≠cb from λe=>hmb (e▸hbk.1));clear h hR hF hO hI hbk hy hs1 hgd hlab hmb zq pI;go_enter func47,ntmps47;refine aj λQ HQ=>?_;go_wp2_with fail;refine uY.mono ?_;rintro e w1 ⟨rfl,DL,hw1⟩;have E8:=ae DL;have hW1:Wr (λb=>b=cb) w w1:=(Wr.of_below (F:=λb=>b=cb) (ax w (.cells #[.int .i64 16,.int .i64 x.dst,.int .i64 (ma:Int),.int .i64 x.b,.int .i64 x.n,.slice A x.arg.length aA] 94))).trans hw1 (λ_ h=>aK h)
 have uo:=ae hW1;have Ph:=hW1.size;have xO:¬w.heap.size=cb:=by omega
 have sW:=ae (zP.wr hw1 xO);have oY:=ae (HR.wr hW1 zn (λg hg e=>(HO.JL g hg).1 (e▸fD.1)));have uC:=ae (HF.wr hW1 (λe=>HO.My.1 (e▸fD.1)) (λe=>HO.El.1 (e▸fD.1)) (λg hg e=>(HO.Lm g hg).1 (e▸fD.1)));have x0:=sW.cell (j:=0) rfl;have xl:=sW.lt;have Pr:=oY.row.lt;have x2:=sW.cell (j:=2) rfl;have ft:=uC.row.cell (j:=0) rfl;have xQ:=uC.row.lt;have uj:=uC.lt.2;obtain⟨cs,htr,gT⟩:=id uC.bN;obtain⟨lT,lS⟩:=gT.2 ma _ hv;have t0:=htr.cell lT;have t1:=htr.cell lS;have hm0:(0:Int)<=(ma:Int):=by omega
 have hm1:(ma:Int)<(tp.length:Int):=by omega
 have zi:(tp.length:Int)<=1000000:=by have:=uC.few;omega
 have x4:=sW.cell (j:=4) rfl;have fm:=uC.row.cell (j:=2) rfl;clear DL hw1 hW1 htr gT lT lS hv;obtain⟨hz0,hz1⟩:=hz;have t0:=AW t0 hz0;have hz2:(v.n==0)=false:=by simp;exact hz1
 have hz3:(v.n !=0)=true:=by simp;exact hz1
 have KS:=ae (λW(hW:Below w1.heap.size w1 W)=>(⟨ag ft hW xQ,ag x2 hW xl,ag t0 hW uj,ag t1 hW uj⟩:W.cell? ⟨fb,0,none⟩=some (.slice (some ⟨tb,0,none⟩) tp.length tp.length)/\W.cell? ⟨w.heap.size,2,none⟩=some (.int .i64 (ma:Int))/\W.cell? ⟨tb,ma*2,none⟩=some (.int .i64 0)/\W.cell? ⟨tb,ma*2+1,none⟩=some (.int .i64 v.n)));have hbz:=(ax w1 (.cells #[.int .i64 0,.int .i64 v.n] 75)).drew;have Xl:=ae hbz;have x4b:=ag x4 hbz xl;have fmb:=ag fm hbz xQ;have hlk:=Xd (w1.alloc (.cells #[.int .i64 0,.int .i64 v.n] 75)).drew ((yf.wr uo.out CH.out).wr (eW hbz) (λh=>h))
 have hlk2:=Xd (w1.alloc (.cells #[.int .i64 0,.int .i64 v.n] 75)).drew.drew ((yf.wr uo.out CH.out).wr (eW hbz.drew) (λh=>h));have xl2:w.heap.size<w1.heap.size+1:=by omega
 have hfb2:fb<w1.heap.size+1:=by omega
 clear hbz;go_wp2_with fail;go_region_held3 (λw'=>w'.cell? ⟨fb,0,none⟩=some (.slice (some ⟨tb,0,none⟩) tp.length tp.length)/\w'.cell? ⟨w.heap.size,2,none⟩=some (.int .i64 (ma:Int))/\w'.cell? ⟨tb,ma*2,none⟩=some (.int .i64 0)/\w'.cell? ⟨tb,ma*2+1,none⟩=some (.int .i64 v.n)) (first|exact KS.out _ (aV _ _).drew|exact KS.out _ (aV _ _)|go_keep) (fail);go_wp2_with fail;refine aX 6 (by kernel_rfl) (by kernel_rfl) ?_;simp only[List.take_succ_cons,List.take_zero,List.drop_succ_cons,List.drop_zero]
 repeat(go_big_quiet_step (fail))
 refine wpQuiet_nil ?_;go_wp2_with fail;refine HQ _ _ _ ?_;exact aS (v:= .tuple #[.int .i64 (gG l x.n:Nat),.bool true]) (by simp[results,results47,go_sem]) rfl ⟨⟨_,rfl,λ_=>rfl⟩,own,λ_ h=>h,λ_ h=>aK h,E8.below Xl.drew,λ_=>uC.below Xl.drew,((uo.mono (λi hi=>aK (aK (hi▸fD.1)))).trans (eW Xl.drew) (λ_ h=>h.elim))⟩
theorem Ob(ai cb hb rb fb tb mb:Nat)(own:Nat->Prop)(P:Value×Value×Value)(gv bv lv:Value)(ah:Int)(s:St)(tp:List V)(lo:List Nat)(ng:Nat)(R:bT)(l:List bg)(k:Nat)(x:bg)(A:Option Addr)(aA:Nat)(w:World)
  (h:iH w ai own cb hb ah s)(hR:jd w rb cb hb P gv bv ng)(hF:bX w fb tb tp lv lo mb)(hO:oW ai own rb fb tb lv gv)(hI:GInv ah s)(hf:ah<=100000000)(hk:k<=10000)(hy:(aL ah 1 s).1=true)(hop:x.op≠15/\x.op≠16/\x.op≠17)
  (Lu:∀W,iH W ai own cb hb ah (aL ah 1 s).2->jd W rb cb hb P gv bv ng->bX W fb tb tp lv lo mb->Wr (λb=>b=cb) w W->Calls prog 65 #[.pointer (some ⟨rb,0,none⟩),.pointer (some ⟨fb,0,none⟩),.agg #[.int .i64 x.op,.int .i64 x.dst,.int .i64 x.a,.int .i64 x.b,.int .i64 x.n,.slice A x.arg.length aA]] W λe w'=>sF ai cb hb ah fb tb mb lv lo own (aW R lo (aL ah 1 s).2 tp (aT x)) W e w'):
  Calls prog 47 #[.pointer (some ⟨rb,0,none⟩),.pointer (some ⟨fb,0,none⟩),.int .i64 (k:Int),.agg #[.int .i64 x.op,.int .i64 x.dst,.int .i64 x.a,.int .i64 x.b,.int .i64 x.n,.slice A x.arg.length aA]] w λe w'=>lQ ai cb hb ah fb tb mb lv lo own (bI R ah lo l s tp k x) w e w':=by
 rw[show bI R ah lo l s tp k x=((aW R lo (aL ah 1 s).2 tp (aT x)).1,((k+1:Nat):Int),(aW R lo (aL ah 1 s).2 tp (aT x)).2.1,(aW R lo (aL ah 1 s).2 tp (aT x)).2.2) by unfold bI;rw[if_neg (by rw[hy];simp),if_neg hop.2.2,if_neg hop.1,if_neg hop.2.1]];have hbk:=h.blocks;have hcb:=hbk.2.2 cb hbk.1;have tT:=hR.row.lt;have r0:=hR.row.cell (j:=0) rfl;have zn:rb≠cb:=λe=>hO.Ll.1 (e▸hbk.1);have uY:=ae (rL (w:=w.alloc (.cells #[.int .i64 x.op,.int .i64 x.dst,.int .i64 x.a,.int .i64 x.b,.int .i64 x.n,.slice A x.arg.length aA] 94)) 1 (h.below (ax _ _)) hI.kind hf hI.lo hI.hi (by omega) (by omega));have HR:=ae hR;have HF:=ae hF;have HO:=ae hO;have fD:=ae hbk;have Ez:rb<w.heap.size+1:=by omega
 have zP:=ae (Row.new w #[.int .i64 x.op,.int .i64 x.dst,.int .i64 x.a,.int .i64 x.b,.int .i64 x.n,.slice A x.arg.length aA] 94);rw[hy]at uY;obtain⟨s1,hs1⟩:∃s1,s1=(aL ah 1 s).2:=⟨_,rfl⟩
 rw[<-hs1]at uY ⊢;rw[<-hs1]at Lu;obtain⟨r,hr⟩:∃r,r=aW R lo s1 tp (aT x):=⟨_,rfl⟩
 rw[<-hr]at Lu ⊢;have HDO:=ae Lu;have t15:(x.op==15)=false:=by simp;exact hop.1
 have t16:(x.op==16)=false:=by simp;exact hop.2.1
 have t17:(x.op==17)=false:=by simp;exact hop.2.2
 clear h hR hF hO hI hbk hy hs1 hr Lu hop;go_enter func47,ntmps47;refine aj λQ HQ=>?_;go_wp2_with fail;refine uY.mono ?_;rintro e w1 ⟨rfl,DL,hw1⟩;have E8:=ae DL;have hW1:Wr (λb=>b=cb) w w1:=(Wr.of_below (F:=λb=>b=cb) (ax w (.cells #[.int .i64 x.op,.int .i64 x.dst,.int .i64 x.a,.int .i64 x.b,.int .i64 x.n,.slice A x.arg.length aA] 94))).trans hw1 (λ_ h=>aK h);have uo:=ae hW1;have Ph:=hW1.size;have xO:¬w.heap.size=cb:=by omega
 have sW:=ae (zP.wr hw1 xO);have oY:=ae (HR.wr hW1 zn (λg hg e=>(HO.JL g hg).1 (e▸fD.1)));have uC:=ae (HF.wr hW1 (λe=>HO.My.1 (e▸fD.1)) (λe=>HO.El.1 (e▸fD.1)) (λg hg e=>(HO.Lm g hg).1 (e▸fD.1)));have x0:=sW.cell (j:=0) rfl;have xl:=sW.lt;have Pr:=oY.row.lt;have x1:=sW.cell (j:=1) rfl;have x2:=sW.cell (j:=2) rfl;have x3:=sW.cell (j:=3) rfl;have x4:=sW.cell (j:=4) rfl;have x5:=sW.cell (j:=5) rfl;have HD1:=ae (HDO.out w1 E8.out oY.out uC.out uo.out);clear DL hw1 hW1 HDO;have hk0:(0:Int)<=(k:Int):=by omega
 go_wp2_with fail;refine HD1.mono ?_;rintro e w2 ⟨rfl,own',h1,h2,h3,h4,h5⟩;have HS:=ae (And.intro h1 (And.intro h2 (And.intro h3 (And.intro h4 h5))));clear h1 h2 h3 h4 h5;go_wp2_with fail;refine HQ _ _ _ ?_;exact aS (v:= .tuple #[.int .i64 ((k:Int)+1),.bool r.1]) (by simp[results,results47,go_sem]) rfl ⟨⟨_,rfl,λ_=>by simp⟩,own',HS.1,λq hq=>(HS.2.1 q hq).imp id (λh=>Nat.le_trans uo.size h),HS.2.2.1,HS.2.2.2.1,(uo.mono (λi hi=>aK (aK (hi▸fD.1)))).trans HS.2.2.2.2 (λi hi=>aK hi)⟩
theorem yS{R:bT}{lo:List Nat}{s:St}{tp:List V}{dst a b n:Int}{l:List Int}:aW R lo s tp (aT ⟨10,dst,a,b,n,l⟩)=yO (R n (oC tp l) s) tp dst:=by
 rw[show aT ⟨10,dst,a,b,n,l⟩=⟨3,dst,0,n,l.map fX⟩from rfl];unfold aW;simp only;rw[yM];show kX R s tp ⟨3,dst,0,n,l.map fX⟩ (oC tp l)=_;unfold kX;simp only;rw[if_neg (show¬(3:Int)=1 by decide),if_neg (show¬(3:Int)=2 by decide),if_pos trivial];rcases R n (oC tp l) s with⟨o,s'⟩
 cases o<;>rfl
theorem Jd(ai cb hb rb fb tb mb:Nat)(own:Nat->Prop)(P:Value×Value×Value)(gv bv lv:Value)(ah:Int)(s:St)(tp:List V)(lo:List Nat)(R:bT)(p:bB)(f:Nat)(g:aR)(dst a b:Int)(arg:List Int)(A:Option Addr)(aA:Nat)(w:World)
  (h:iH w ai own cb hb ah s)(hR:jd w rb cb hb P gv bv p.ay.length)(hF:bX w fb tb tp lv lo mb)(hO:oW ai own rb fb tb lv gv)(lq:fV (au s.mem) tp lo p.ay.length)(hI:GInv ah s)
  (Gz:∀r,r∈arg->0<=r/\r<tp.length)(hal:arg.length<=1000)(pZ:aD w ai arg (.slice A arg.length aA))(hfn:p.funcs[f]? =some g)(gH:(arg.length:Int)=g.params)(hP:bP w ai P p)(hL:nB w ai own w.heap.size bv p)(hC:wZ p ah s.calls R)(hd:dst= -1\/0<=dst/\dst<(tp.length:Int)):
  Calls prog 65 #[.pointer (some ⟨rb,0,none⟩),.pointer (some ⟨fb,0,none⟩),.agg #[.int .i64 10,.int .i64 dst,.int .i64 a,.int .i64 b,.int .i64 (f:Int),.slice A arg.length aA]] w λe w'=>sF ai cb hb ah fb tb mb lv lo own (aW R lo s tp (aT ⟨10,dst,a,b,(f:Int),arg⟩)) w e w':=by
 rw[yS];have hbs:ai<=w.heap.size:=by have:=h.blocks;have:=this.2.2 cb this.1;omega
 obtain⟨r,hr⟩:∃r,r=yO (R (f:Int) (oC tp arg) s) tp dst:=⟨_,rfl⟩
 have bQ:=ae (ax w (.cells #[.int .i64 10,.int .i64 dst,.int .i64 a,.int .i64 b,.int .i64 (f:Int),.slice A arg.length aA] 94));have hb1:=bQ.out;have HCD:=ae (FD ai cb hb rb fb tb mb own P gv bv lv ah s tp lo R p f g 10 dst a b arg A aA _ (h.below hb1) (hR.below hb1) (hF.below hb1) hO lq hI Gz hal (pZ.below (hb1.mono hbs) (aY _)) hfn gH (hP.below (hb1.mono hbs)) ((hL.wr (eW hb1) (λ_ h=>h.elim) (aY _)).mono hb1.size) hC hd);rw[<-hr]at HCD ⊢;have HF:=ae hF;clear h hR hF hO lq hI Gz hal pZ hfn gH hP hL hC hd hr hb1;go_enter func65,ntmps65;refine aj λQ HQ=>?_;go_wp2_with fail;refine HCD.mono ?_;rintro e w2 ⟨rfl,own',h1,h2,h3,h4,h5⟩
 have HS:=ae (And.intro h1 (And.intro h2 (And.intro h3 (And.intro h4 h5))));clear h1 h2 h3 h4 h5;go_wp2_with fail;refine HQ _ _ _ ?_;exact aS (v:= .bool r.1) (by simp[results,results65,go_sem]) rfl ⟨rfl,own',HS.1,λq hq=>(HS.2.1 q hq).imp id (λh=>Nat.le_trans bQ.size h),HS.2.2.1,HS.2.2.2.1,(Wr.of_below (F:=λb=>own b\/b=tb) bQ.out).trans HS.2.2.2.2 (λi hi=>aK hi)⟩
theorem G7(l:List V):∀(i:Nat)(u:Value),(cU l)[i]? =some u->∃v,l[i/2]? =some v/\((i%2=0/\u= .int .i64 v.obj)\/(i%2=1/\u= .int .i64 v.n)):=by
 induction l with
 |nil=>intro i u h;simp[cU]at h
 |cons v l ih=>
  intro i u h
  match i,h with
  |0,h=>simp[cU]at h;exact⟨v,by simp,aK ⟨rfl,h.symm⟩⟩
  |1,h=>simp[cU]at h;exact⟨v,by simp,bu ⟨rfl,h.symm⟩⟩
  |i+2,h=>
   simp only[cU,List.getElem?_cons_succ]at h;obtain⟨x,h1,h2⟩:=ih i u h;exact⟨x,by rw[show(i+2)/2=i/2+1 by omega,List.getElem?_cons_succ];exact h1,by rw[show(i+2)%2=i%2 by omega];exact h2⟩
theorem G6(l:List V):∀v∈cU l,v.oneCell'=true:=by
 intro u hu;obtain⟨i,hi⟩:=List.mem_iff_getElem?.1 hu;obtain⟨v,_,h⟩:=G7 l i u hi;rcases h with⟨_,rfl⟩|⟨_,rfl⟩<;>rfl
theorem G5{w:World}{b off:Nat}{l:List V}(h:∀j v,l[j]? =some v->bJ w b (off+j*2) v)(i:Nat)(u:Value)(hi:(cU l)[i]? =some u):w.cell? ((⟨b,off,none⟩:Addr).add i)=some u:=by
 have hadd:(⟨b,off,none⟩:Addr).add i=⟨b,off+i,none⟩:=by unfold Addr.add;split<;>simp_all
 rw[hadd];obtain⟨v,h1,h2⟩:=G7 l i u hi;obtain⟨c0,c1⟩:=h _ _ h1;rcases h2 with⟨e,rfl⟩|⟨e,rfl⟩
 ·rw[show off+i=off+i/2*2 by omega];exact c0
 ·rw[show off+i=off+i/2*2+1 by omega];exact c1
theorem CS{P:Program}(w:World)(dT sT ty elem:TypeId)(g dLen dCap:Nat)(sp:Option Addr)(sLen sCap:Nat)(cur:Array Value)(t:TypeId)(l:List V)
  (hu:P.underlying dT=some (.slice elem))(hs:(P.info? elem).map (·.size)=some 2)(hg:w.heap[g]? =some (.cells cur t (0,0)))(hn:l.length=Nat.min sLen dLen)
  (hsrc:∀j v,l[j]? =some v->∃b off,sp=some ⟨b,off,none⟩/\bJ w b (off+j*2) v)(hfit:l.length*2<=cur.size):
  ∃w',(Builtin.copy_ #[dT,sT] ty #[.slice (some ⟨g,0,none⟩) dLen dCap,.slice sp sLen sCap]).run P w= .ok (goInt l.length) w'/\Row w' g (cU l++cur.toList.drop (l.length*2)).toArray t/\Wr (λi=>i=g) w w':=by
 cases hq:P.info? elem with
 |none=>simp[hq]at hs
 |some i=>
  have hi:i.size=2:=by simpa [hq]using hs
  by_cases h0:l=[]
  ·subst h0;have hz:∀(x:Addr),(loadCells x 0).run P w= .ok #[] w:=λx=>by simpa using run_loadCells_list (P:=P) w x [] (by simp)
   refine⟨w,?_,(by have:=hg;simp only[cU,List.length_nil,Nat.zero_mul,List.drop_zero,List.nil_append,Array.toArray_toList];exact this),Wr.refl _ _⟩;cases sp<;>simp[Builtin.copy_,run_underlying hu,Builtin.lenOf,Builtin.firstCells,sizeOf,typeInfo,hq,hi,<-hn,storeCells,hz]
  ·obtain⟨b,off,rfl⟩:∃b off,sp=some ⟨b,off,none⟩:=by
    cases l with
    |nil=>exact absurd rfl h0
    |cons v l=>obtain⟨b,off,h,_⟩:=hsrc 0 v rfl;exact⟨b,off,h⟩
   have hc:=G5 (w:=w) (b:=b) (off:=off) (l:=l) (λj v hj=>by obtain⟨b',off',h,h'⟩:=hsrc j v hj;injection h with h;injection h with e1 e2;subst e1 e2;exact h');have hl:=run_loadCells_list (P:=P) w ⟨b,off,none⟩ (cU l) hc;rw[fG]at hl;have hst:=run_storeCells_at P g 0 t (cU l) 0 cur w hg (by rw[fG];omega) (G6 l);refine⟨w.setRow g (cU l++cur.toList.drop (l.length*2)).toArray,?_,setRow_heap w g _ _ t _ hg,⟨rfl,rfl,rfl,by simp[World.setRow],λk hk hne=>setRow_other w g k _ hne⟩⟩;simp only[Nat.add_zero,List.take_zero,List.nil_append,Nat.zero_add,fG]at hst;simp[Builtin.copy_,run_underlying hu,Builtin.lenOf,Builtin.firstCells,sizeOf,typeInfo,hq,hi,<-hn,hl,hst]
theorem xA{P:Program}{w:World}{ops:Array Oper}{rest:List Oper}{o:Oper}{a:Act}{Q:Exit->Act->World->Prop}(hgd:o.guard=none)(d s:Operand)(dT sT:TypeId)
  (ho:o.op= .call {callee:= .builtin .copy,args:=#[d,s],argTypes:=#[dT,sT]})(elem:TypeId)(hu:P.underlying dT=some (.slice elem))(hs:(P.info? elem).map (·.size)=some 2)
  (g dLen dCap:Nat)(sp:Option Addr)(sLen sCap:Nat)(hd:a.eval d= .slice (some ⟨g,0,none⟩) dLen dCap)(vA:a.eval s= .slice sp sLen sCap)
  (cur:Array Value)(t:TypeId)(l:List V)(hg:Row w g cur t)(hn:l.length=Nat.min sLen dLen)
  (hsrc:∀j v,l[j]? =some v->∃b off,sp=some ⟨b,off,none⟩/\bJ w b (off+j*2) v)(hfit:l.length*2<=cur.size)
  (h:∀w',Row w' g (cU l++cur.toList.drop (l.length*2)).toArray t->Wr (λi=>i=g) w w'->wpList P ops Q rest (a.put o.dst (goInt l.length)) w'):wpList P ops Q (o::rest) a w:=by
 obtain⟨w',hrun,hr,hw⟩:=CS (P:=P) w dT sT o.type elem g dLen dCap sp sLen sCap cur t l hu hs hg hn hsrc hfit;refine wpList_plain hgd λK hK=>?_;unfold Oper.wp;simp[execOp,ho,resolve,invoke,builtin,hd,vA,hrun,Result.andThen];exact hK _ _ (h w' hr hw)
theorem Jk{cur:Array Value}{nt:Nat}{l:List V}(hc:tK cur (List.replicate nt ⟨0,0⟩))(hl:l.length<=nt):tK (cU l++cur.toList.drop (l.length*2)).toArray (gJ nt l):=by
 obtain⟨h1,h2⟩:=hc;simp only[List.length_replicate]at h1;refine⟨by simp[gJ,fG,h1];omega,λj v hj=>?_⟩;unfold gJ at hj;simp only[List.getElem?_toArray];rcases Nat.lt_or_ge j l.length with hlt|hge
 ·rw[List.getElem?_append_left hlt]at hj;have hf:∀(l:List V)(j:Nat)(v:V),l[j]? =some v->(cU l)[j*2]? =some (.int .i64 v.obj)/\(cU l)[j*2+1]? =some (.int .i64 v.n):=by
   intro l
   induction l with
   |nil=>intro j v h;simp at h
   |cons x l ih=>
    intro j v h;cases j with
    |zero=>simp at h;subst h;simp[cU]
    |succ j=>
     simp only[List.getElem?_cons_succ]at h;obtain⟨a,b⟩:=ih j v h;rw[show(j+1)*2=j*2+1+1 by omega,show j*2+1+1+1=j*2+1+1+1 from rfl];simp only[cU,List.getElem?_cons_succ];exact⟨a,b⟩
  obtain⟨a,b⟩:=hf l j v hj;rw[List.getElem?_append_left (by rw[fG];omega),List.getElem?_append_left (by rw[fG];omega)];exact⟨a,b⟩
 ·rw[List.getElem?_append_right hge]at hj;have hj':(List.replicate nt (⟨0,0⟩:V))[j]? =some v:=by
   rw[List.getElem?_replicate]at hj ⊢;split at hj
   ·rw[if_pos (by omega)];exact hj
   ·cases hj
  obtain⟨a,b⟩:=h2 j v hj';rw[List.getElem?_append_right (by rw[fG];omega),List.getElem?_append_right (by rw[fG];omega),List.getElem?_drop,List.getElem?_drop,fG];rw[show l.length*2+(j*2-l.length*2)=j*2 by omega,show l.length*2+(j*2+1-l.length*2)=j*2+1 by omega];simp only[Array.getElem?_toList];exact⟨a,b⟩
theorem fZ(w:World)(b:Nat)(u v:Value):Wr (λi=>i=b) w ((w.setCell ⟨b,0,none⟩ u).setCell ⟨b,1,none⟩ v):=gI w b 0 1 u v
theorem Jf(ai cb hb rb:Nat)(own:Nat->Prop)(P:Value×Value×Value)(gv bv:Value)(ah:Int)(p:bB)(s:St)(f:Nat)(g:aR)(args:List V)(AA:Option Addr)(an oD:Nat)(w:World)
  (hg:p.funcs[f]? =some g)(hfn:D8 (eB p) (sA g))(hf:ah<=100000000)(hal:(args.length:Int)=g.params)(h:iH w ai own cb hb ah s)(hR:jd w rb cb hb P gv bv p.ay.length)(hP:bP w ai P p)(wz:¬own rb/\ai<=rb)(Bd:∀k,gv.ownBlock=some k->¬own k/\ai<=k)(hI:GInv ah s)(hgl:p.ay.length<(au s.mem).length)(jr:∀v,v∈args->kW (au s.mem).length v)(GS:args.length=an)
  (hargs:∀j v,args[j]? =some v->∃b off,AA=some ⟨b,off,none⟩/\b<w.heap.size/\¬own b/\bJ w b (off+j*2) v)(hc:s.calls=64):
  Calls prog 27 #[.pointer (some ⟨rb,0,none⟩),.int .i64 f,.slice AA an oD] w λe w'=>tX ai cb hb ah own (none,{s with kind:=4}) w e w':=by
 have hbk:=h.blocks;have hcb:=hbk.2.2 cb hbk.1;have hpos:ai<=w.heap.size:=by omega
 obtain⟨GA,iP,C5,hfl,_⟩:=id hP.2.1;have hfk:f<p.funcs.length:=by
  rcases Nat.lt_or_ge f p.funcs.length with h'|h'
  ·exact h'
  ·rw[List.getElem?_eq_none h']at hg;cases hg
 have DJ:=C5▸hP.2.1;obtain⟨gb,mM,g',rfl,hgb,hg',g0,g1,⟨LV,g2,hlo⟩,⟨BV,g3,hbl⟩,_,_⟩:=DJ.get hfk;obtain rfl:g'=g:=by rw[hg]at hg';injection hg' with e;exact e.symm
 obtain⟨LA,bn,rfl⟩:∃LA bn,LV= .slice LA g'.az.length bn:=(by obtain⟨A',c',h,_⟩:=hlo;exact⟨_,_,h⟩)
 obtain⟨BA,cI,rfl⟩:∃BA cI,BV= .slice BA g'.ins.length cI:=(by obtain⟨A',c',h,_⟩:=hbl;exact⟨_,_,h⟩)
 obtain⟨g,rfl⟩:∃g,g=g':=⟨_,rfl⟩
 simp only[Nat.add_zero]at g0 g1 g2 g3;have gU:∀o,o∈g.az->rY o:=λo ho=>(hfn.UF o ho).1;have hll:g.az.length<=400:=hfn.az;have ZO:=dB gU;have ZJ:(f:Int)<(p.funcs.length:Int):=by omega
 have r0:w.cell? ⟨rb,0,none⟩=some (.pointer (some ⟨cb,0,none⟩)):=hR.row.cell (j:=0) rfl;have r2:w.cell? ⟨rb,2,none⟩=some (.slice (some ⟨gb,mM,none⟩) p.funcs.length iP):=C5▸hR.row.cell (j:=2) rfl;have tT:=hR.row.lt;have CZ:gb<w.heap.size:=by omega
 have bC:=ae (aB w (.cells #[.int .i64 0,.int .i64 0] 75) (.cells #[.int .i64 g.params,.int .i64 g.regs,.slice LA g.az.length bn,.slice BA g.ins.length cI] 54));have Xi:=ae (rW ai g.az LA g.az.length bn ((w.alloc (.cells #[.int .i64 0,.int .i64 0] 75)).alloc (.cells #[.int .i64 g.params,.int .i64 g.regs,.slice LA g.az.length bn,.slice BA g.ins.length cI] 54)).drew (hlo.below (bC.drew.mono hpos) (aY _) (λ_ _ h=>h.below (bC.drew.mono hpos) (aY _))) (by simp;omega) gU (by omega));have HH:=ae (λW(hW:Below w.heap.size w W)=>h.below hW);have hv0:=(Row.new w #[.int .i64 0,.int .i64 0] 75).alloc (.cells #[.int .i64 g.params,.int .i64 g.regs,.slice LA g.az.length bn,.slice BA g.ins.length cI] 54);have K0:=ae hv0;have fD:=ae hbk
 have hg0:=Row.new (w.alloc (.cells #[.int .i64 0,.int .i64 0] 75)) #[.int .i64 g.params,.int .i64 g.regs,.slice LA g.az.length bn,.slice BA g.ins.length cI] 54;rw[World.size_alloc]at hg0;have zS:=ae hg0;have DX:=ae r0
 have KS:=ae (λ(W:World)(aJ:Below ((w.alloc (.cells #[.int .i64 0,.int .i64 0] 75)).alloc (.cells #[.int .i64 g.params,.int .i64 g.regs,.slice LA g.az.length bn,.slice BA g.ins.length cI] 54)).heap.size ((w.alloc (.cells #[.int .i64 0,.int .i64 0] 75)).alloc (.cells #[.int .i64 g.params,.int .i64 g.regs,.slice LA g.az.length bn,.slice BA g.ins.length cI] 54)) W)=>(⟨ag DX (bC.trans (aJ.mono bC.size)) tT,(zS.below aJ zS.lt).cell (j:=2) rfl⟩:W.cell? ⟨rb,0,none⟩=some (.pointer (some ⟨cb,0,none⟩))/\W.cell? ⟨w.heap.size+1,2,none⟩=some (.slice LA g.az.length bn)));have GG:¬rb=cb:=λe=>wz.1 (e▸hbk.1)
 have KS3:=ae (λ(W w':World)(aJ:Below ((w.alloc (.cells #[.int .i64 0,.int .i64 0] 75)).alloc (.cells #[.int .i64 g.params,.int .i64 g.regs,.slice LA g.az.length bn,.slice BA g.ins.length cI] 54)).heap.size ((w.alloc (.cells #[.int .i64 0,.int .i64 0] 75)).alloc (.cells #[.int .i64 g.params,.int .i64 g.regs,.slice LA g.az.length bn,.slice BA g.ins.length cI] 54)) W)(hw:Wr (λb=>b=cb) W w')=>(⟨(World.cell?_of_block (a:=⟨rb,0,none⟩) (hw.block rb (by have:=bC.size;have:=aJ.size;show rb<_;omega) GG)).trans (KS.out W aJ).1,(((zS.below aJ zS.lt)).wr hw (by omega)).cell (j:=2) rfl⟩:w'.cell? ⟨rb,0,none⟩=some (.pointer (some ⟨cb,0,none⟩))/\w'.cell? ⟨w.heap.size+1,2,none⟩=some (.slice LA g.az.length bn)))
 have K7:=ae (λW(hW:Below ((w.alloc (.cells #[.int .i64 0,.int .i64 0] 75)).alloc (.cells #[.int .i64 g.params,.int .i64 g.regs,.slice LA g.az.length bn,.slice BA g.ins.length cI] 54)).heap.size ((w.alloc (.cells #[.int .i64 0,.int .i64 0] 75)).alloc (.cells #[.int .i64 g.params,.int .i64 g.regs,.slice LA g.az.length bn,.slice BA g.ins.length cI] 54)) W)=>RL (aQ g.az) (HH.out W (bC.trans (hW.mono bC.size))) hc);clear h hR hP hg hfn wz Bd hI hgl jr hargs hbk hg0 hv0 C5 DJ hlo hbl gU hg' hfl;go_enter func27,ntmps27;refine aj λQ HQ=>?_;go_wp2_with fail
 go_region_held3 (λw'=>w'.cell? ⟨rb,0,none⟩=some (.pointer (some ⟨cb,0,none⟩))/\w'.cell? ⟨w.heap.size+1,2,none⟩=some (.slice LA g.az.length bn)) (first|exact KS.out _ (aV _ _).drew|exact KS.out _ ((aV _ _).drew.trans hb1)|exact KS3.out _ _ ((aV _ _).drew.trans hb1) hw2|go_keep) ((first|(go_at_call 46;refine Xi.mono ?_;rintro e w1 ⟨rfl,hb1⟩)|(go_at_call 45;refine(K7 _ ((aV _ _).drew.trans hb1)).mono ?_;rintro e w2 ⟨rfl,TL,hw2⟩)));have bQ:=ae (bC.drew.trans (hb1.mono bC.drew.size));have hzb:=bQ.size;have hv2:=((K0.drew).below hb1 K0.lt).wr hw2 (by omega);have c0:=hv2.cell (j:=0) rfl;have c1:=hv2.cell (j:=1) rfl;have c2:=hv2.free 0;have c3:=hv2.free 1;have cl:=hv2.lt;have X0:=ae TL;have z6:=ae hw2;clear TL hw2 hv2 K0 hb1;go_wp2_with fail
 refine HQ _ _ _ ?_;refine aS (v:= .tuple #[.agg #[.int .i64 0,.int .i64 0],.bool false]) (by simp[results,results27,go_sem,c0,c1]) rfl ⟨⟨0,0,rfl⟩,own,λ_ h=>h,λ_ h=>aK h,?_,?_⟩
 ·exact X0.wr (fZ w2 w.heap.size (.int .i64 0) (.int .i64 0)) (λk hk=>(by subst hk;exact⟨hpos,λho=>by have:=(fD.2.2 _ ho).2;omega⟩))
 ·exact(((Wr.of_below (F:=own) bQ.out).trans z6 (λk hk=>aK (hk▸fD.1)))).trans (fZ w2 w.heap.size (.int .i64 0) (.int .i64 0)) (λk hk=>bu (by omega))
theorem LZ(ai cb hb rb:Nat)(own:Nat->Prop)(P:Value×Value×Value)(gv bv:Value)(ah:Int)(p:bB)(s:St)(f:Nat)(g:aR)(args:List V)(AA:Option Addr)(an oD:Nat)(w:World)
  (hg:p.funcs[f]? =some g)(hfn:D8 (eB p) (sA g))(hf:ah<=100000000)(hal:(args.length:Int)=g.params)(h:iH w ai own cb hb ah s)(hR:jd w rb cb hb P gv bv p.ay.length)(hP:bP w ai P p)(wz:¬own rb/\ai<=rb)(Bd:∀k,gv.ownBlock=some k->¬own k/\ai<=k)(hI:GInv ah s)(hgl:p.ay.length<(au s.mem).length)(jr:∀v,v∈args->kW (au s.mem).length v)(GS:args.length=an)
  (hargs:∀j v,args[j]? =some v->∃b off,AA=some ⟨b,off,none⟩/\b<w.heap.size/\¬own b/\bJ w b (off+j*2) v)(hc:s.calls<64)(hy:(aL ah (aQ g.az) {s with calls:=s.calls+1,deep:=max s.deep (s.calls+1)}).1=false):
  Calls prog 27 #[.pointer (some ⟨rb,0,none⟩),.int .i64 f,.slice AA an oD] w λe w'=>tX ai cb hb ah own (none,(aL ah (aQ g.az) {s with calls:=s.calls+1,deep:=max s.deep (s.calls+1)}).2) w e w':=by
 have hbk:=h.blocks;have hcb:=hbk.2.2 cb hbk.1;have hpos:ai<=w.heap.size:=by omega
 obtain⟨GA,iP,C5,hfl,_⟩:=id hP.2.1;have hfk:f<p.funcs.length:=by
  rcases Nat.lt_or_ge f p.funcs.length with h'|h'
  ·exact h'
  ·rw[List.getElem?_eq_none h']at hg;cases hg
 have DJ:=C5▸hP.2.1;obtain⟨gb,mM,g',rfl,hgb,hg',g0,g1,⟨LV,g2,hlo⟩,⟨BV,g3,hbl⟩,_,_⟩:=DJ.get hfk;obtain rfl:g'=g:=by rw[hg]at hg';injection hg' with e;exact e.symm
 obtain⟨LA,bn,rfl⟩:∃LA bn,LV= .slice LA g'.az.length bn:=(by obtain⟨A',c',h,_⟩:=hlo;exact⟨_,_,h⟩)
 obtain⟨BA,cI,rfl⟩:∃BA cI,BV= .slice BA g'.ins.length cI:=(by obtain⟨A',c',h,_⟩:=hbl;exact⟨_,_,h⟩)
 obtain⟨g,rfl⟩:∃g,g=g':=⟨_,rfl⟩
 simp only[Nat.add_zero]at g0 g1 g2 g3;have gU:∀o,o∈g.az->rY o:=λo ho=>(hfn.UF o ho).1;have hll:g.az.length<=400:=hfn.az;have ZO:=dB gU;have ZJ:(f:Int)<(p.funcs.length:Int):=by omega
 have r0:w.cell? ⟨rb,0,none⟩=some (.pointer (some ⟨cb,0,none⟩)):=hR.row.cell (j:=0) rfl;have r2:w.cell? ⟨rb,2,none⟩=some (.slice (some ⟨gb,mM,none⟩) p.funcs.length iP):=C5▸hR.row.cell (j:=2) rfl;have tT:=hR.row.lt;have CZ:gb<w.heap.size:=by omega
 have bC:=ae (aB w (.cells #[.int .i64 0,.int .i64 0] 75) (.cells #[.int .i64 g.params,.int .i64 g.regs,.slice LA g.az.length bn,.slice BA g.ins.length cI] 54));have Xi:=ae (rW ai g.az LA g.az.length bn ((w.alloc (.cells #[.int .i64 0,.int .i64 0] 75)).alloc (.cells #[.int .i64 g.params,.int .i64 g.regs,.slice LA g.az.length bn,.slice BA g.ins.length cI] 54)).drew (hlo.below (bC.drew.mono hpos) (aY _) (λ_ _ h=>h.below (bC.drew.mono hpos) (aY _))) (by simp;omega) gU (by omega));have HH:=ae (λW(hW:Below w.heap.size w W)=>h.below hW);have hv0:=(Row.new w #[.int .i64 0,.int .i64 0] 75).alloc (.cells #[.int .i64 g.params,.int .i64 g.regs,.slice LA g.az.length bn,.slice BA g.ins.length cI] 54);have K0:=ae hv0;have fD:=ae hbk
 have hg0:=Row.new (w.alloc (.cells #[.int .i64 0,.int .i64 0] 75)) #[.int .i64 g.params,.int .i64 g.regs,.slice LA g.az.length bn,.slice BA g.ins.length cI] 54;rw[World.size_alloc]at hg0;have zS:=ae hg0;have DX:=ae r0
 have KS:=ae (λ(W:World)(aJ:Below ((w.alloc (.cells #[.int .i64 0,.int .i64 0] 75)).alloc (.cells #[.int .i64 g.params,.int .i64 g.regs,.slice LA g.az.length bn,.slice BA g.ins.length cI] 54)).heap.size ((w.alloc (.cells #[.int .i64 0,.int .i64 0] 75)).alloc (.cells #[.int .i64 g.params,.int .i64 g.regs,.slice LA g.az.length bn,.slice BA g.ins.length cI] 54)) W)=>(⟨ag DX (bC.trans (aJ.mono bC.size)) tT,(zS.below aJ zS.lt).cell (j:=2) rfl⟩:W.cell? ⟨rb,0,none⟩=some (.pointer (some ⟨cb,0,none⟩))/\W.cell? ⟨w.heap.size+1,2,none⟩=some (.slice LA g.az.length bn)));have GG:¬rb=cb:=λe=>wz.1 (e▸hbk.1)
 have KS3:=ae (λ(W w':World)(aJ:Below ((w.alloc (.cells #[.int .i64 0,.int .i64 0] 75)).alloc (.cells #[.int .i64 g.params,.int .i64 g.regs,.slice LA g.az.length bn,.slice BA g.ins.length cI] 54)).heap.size ((w.alloc (.cells #[.int .i64 0,.int .i64 0] 75)).alloc (.cells #[.int .i64 g.params,.int .i64 g.regs,.slice LA g.az.length bn,.slice BA g.ins.length cI] 54)) W)(hw:Wr (λb=>b=cb) W w')=>(⟨(World.cell?_of_block (a:=⟨rb,0,none⟩) (hw.block rb (by have:=bC.size;have:=aJ.size;show rb<_;omega) GG)).trans (KS.out W aJ).1,(((zS.below aJ zS.lt)).wr hw (by omega)).cell (j:=2) rfl⟩:w'.cell? ⟨rb,0,none⟩=some (.pointer (some ⟨cb,0,none⟩))/\w'.cell? ⟨w.heap.size+1,2,none⟩=some (.slice LA g.az.length bn)))
 have K7:=ae (λW(hW:Below ((w.alloc (.cells #[.int .i64 0,.int .i64 0] 75)).alloc (.cells #[.int .i64 g.params,.int .i64 g.regs,.slice LA g.az.length bn,.slice BA g.ins.length cI] 54)).heap.size ((w.alloc (.cells #[.int .i64 0,.int .i64 0] 75)).alloc (.cells #[.int .i64 g.params,.int .i64 g.regs,.slice LA g.az.length bn,.slice BA g.ins.length cI] 54)) W)=>hy▸G9 (aQ g.az) (HH.out W (bC.trans (hW.mono bC.size))) hI.kind hI.calls hc hf hI.lo hI.hi (by omega) (by omega));clear h hR hP hg hfn wz Bd hI hgl jr hargs hbk hg0 hv0 C5 DJ hlo hbl gU hg' hfl;go_enter func27,ntmps27;refine aj λQ HQ=>?_;go_wp2_with fail
 go_region_held3 (λw'=>w'.cell? ⟨rb,0,none⟩=some (.pointer (some ⟨cb,0,none⟩))/\w'.cell? ⟨w.heap.size+1,2,none⟩=some (.slice LA g.az.length bn)) (first|exact KS.out _ (aV _ _).drew|exact KS.out _ ((aV _ _).drew.trans hb1)|exact KS3.out _ _ ((aV _ _).drew.trans hb1) hw2|go_keep) ((first|(go_at_call 46;refine Xi.mono ?_;rintro e w1 ⟨rfl,hb1⟩)|(go_at_call 45;refine(K7 _ ((aV _ _).drew.trans hb1)).mono ?_;rintro e w2 ⟨rfl,TL,hw2⟩)));have bQ:=ae (bC.drew.trans (hb1.mono bC.drew.size));have hzb:=bQ.size;have hv2:=((K0.drew).below hb1 K0.lt).wr hw2 (by omega);have c0:=hv2.cell (j:=0) rfl;have c1:=hv2.cell (j:=1) rfl;have c2:=hv2.free 0;have c3:=hv2.free 1;have cl:=hv2.lt;have X0:=ae TL;have z6:=ae hw2;clear TL hw2 hv2 K0 hb1;go_wp2_with fail
 refine HQ _ _ _ ?_;refine aS (v:= .tuple #[.agg #[.int .i64 0,.int .i64 0],.bool false]) (by simp[results,results27,go_sem,c0,c1]) rfl ⟨⟨0,0,rfl⟩,own,λ_ h=>h,λ_ h=>aK h,?_,?_⟩
 ·exact X0.wr (fZ w2 w.heap.size (.int .i64 0) (.int .i64 0)) (λk hk=>(by subst hk;exact⟨hpos,λho=>by have:=(fD.2.2 _ ho).2;omega⟩))
 ·exact(((Wr.of_below (F:=own) bQ.out).trans z6 (λk hk=>aK (hk▸fD.1)))).trans (fZ w2 w.heap.size (.int .i64 0) (.int .i64 0)) (λk hk=>bu (by omega))
end Go.Proofs.YtinmgbodgecoeaaGreat
namespace Go.Proofs.YtinmgbodgecoeaaGreat
open Go.RowKit
theorem oW.up{w:World}{ai cb hb rb fb tb ng:Nat}{own own':Nat->Prop}{P:Value×Value×Value}{lv gv bv:Value}{mb:Nat}{tp:List V}{lo:List Nat}(h:oW ai own rb fb tb lv gv)(hu:∀k,own' k->own k\/w.heap.size<=k)(hF:bX w fb tb tp lv lo mb)(hR:jd w rb cb hb P gv bv ng):oW ai own' rb fb tb lv gv:=by
 have hl:=hF.lt;have hr:=hR.row.lt;have hn:∀k,¬own k->k<w.heap.size->¬own' k:=λk h1 h2 h3=>(hu k h3).elim h1 (λh=>by omega);refine⟨⟨hn _ h.Ll.1 hr,h.Ll.2⟩,⟨hn _ h.My.1 hl.1,h.My.2⟩,⟨hn _ h.El.1 hl.2,h.El.2⟩,λg hg=>?_,λg hg=>?_,h.ort⟩
 ·obtain⟨_,cs,hr'⟩:=aC hF.az hg;exact⟨hn _ (h.Lm g hg).1 hr'.lt,(h.Lm g hg).2⟩
 ·obtain⟨_,cs,hr'⟩:=aC hR.ay hg;exact⟨hn _ (h.JL g hg).1 hr'.lt,(h.JL g hg).2⟩
theorem iH.Ow{w:World}{ai:Nat}{own:Nat->Prop}{cb hb:Nat}{ah:Int}{s:St}(h:iH w ai own cb hb ah s):w.cell? ⟨cb,3,none⟩=some (.int .i64 s.steps):=by
 obtain⟨inv,outv,aU,rb,h⟩:=h;exact h.clk.cell (j:=3) rfl
theorem JO{M:List MO}{n x:Nat}(h:x∈cX M n):1<=x:=by
 unfold cX at h;simp only[List.mem_map,List.mem_range]at h;obtain⟨i,_,rfl⟩:=h;split
 ·omega
 ·rename_i hM;have:=List.length_pos_iff.2 hM;omega
structure ET (ai cb hb rb fb tb:Nat) (own:Nat->Prop) (ah:Int) (P:Value×Value×Value) (gv bv lv:Value) (mb nl:Nat) (lf:Int->Option Nat) (vp:bB) (lo:List Nat) (ng nt:Nat) (c:Int) (gc:Array Value) (w:World) (cP:Nat->Prop) (st:St) (tp:List V) (wr:World):Prop where
 up:∀k,own k->cP k
 dn:∀k,cP k->own k\/w.heap.size+2<=k
 hc:iH wr ai cP cb hb ah st
 run:jd wr rb cb hb P gv bv ng
 fr:bX wr fb tb tp lv lo mb
 off:oW ai cP rb fb tb lv gv
 Bp:fV (au st.mem) tp lo ng
 inv:GInv ah st
 calls:st.calls=c
 len:tp.length=nt
 box:Row wr (w.heap.size+1) gc 54
 En:own cb
 Xx:∀k,own k->k<w.heap.size
 pos:ai<=w.heap.size
 new:w.heap.size+2<=fb/\w.heap.size+2<=tb/\∀g,lv.ownBlock=some g->w.heap.size+2<=g
 CV:nB wr ai cP w.heap.size bv vp
 lab:fL wr mb nl lf
 lim:¬cP mb/\mb<w.heap.size
 wr:Wr own w wr
section
variable {ai cb hb rb fb tb:Nat} {own:Nat->Prop} {ah:Int} {P:Value×Value×Value} {gv bv lv:Value} {mb nl:Nat} {lf:Int->Option Nat} {vp:bB} {lo:List Nat} {ng nt:Nat} {c:Int} {gc:Array Value} {w:World} {cP:Nat->Prop} {st:St} {tp:List V} {wr wr':World}
theorem ET.Ux(h:ET ai cb hb rb fb tb own ah P gv bv lv mb nl lf vp lo ng nt c gc w cP st tp wr):w.heap.size<=wr.heap.size:=h.wr.size
theorem ET.RP(h:ET ai cb hb rb fb tb own ah P gv bv lv mb nl lf vp lo ng nt c gc w cP st tp wr):¬cP w.heap.size/\¬cP (w.heap.size+1):=
 ⟨λe=>by rcases h.dn _ e with h'|h';have:=h.Xx _ h';omega;omega,λe=>by rcases h.dn _ e with h'|h';have:=h.Xx _ h';omega;omega⟩
theorem ET.box1(h:ET ai cb hb rb fb tb own ah P gv bv lv mb nl lf vp lo ng nt c gc w cP st tp wr)(hw:Wr (λi=>i=w.heap.size) wr wr')(tT:rb≠w.heap.size)(hgv:∀g,gv.ownBlock=some g->g≠w.heap.size):ET ai cb hb rb fb tb own ah P gv bv lv mb nl lf vp lo ng nt c gc w cP st tp wr':=by
 have hn:=h.RP;obtain⟨n1,n2,n3⟩:=h.new;have hp:=h.pos;exact⟨h.up,h.dn,h.hc.wr hw (λk hk=>(by subst hk;exact⟨hp,hn.1⟩)),h.run.wr hw tT hgv,h.fr.wr hw (by omega) (by omega) (λg hg=>by have:=n3 g hg;omega),h.off,h.Bp,h.inv,h.calls,h.len,h.box.wr hw (by omega),h.En,h.Xx,h.pos,h.new,h.CV.wr hw (λk hk=>bu (by have e:k=w.heap.size:=hk;omega)) h.Ux,h.lab.wr hw (λe=>by have:=h.lim.2;have e:mb=w.heap.size:=e;omega),h.lim,h.wr.trans hw (λk hk=>bu (by omega))⟩
theorem ET.below(h:ET ai cb hb rb fb tb own ah P gv bv lv mb nl lf vp lo ng nt c gc w cP st tp wr)(aJ:Below wr.heap.size wr wr'):ET ai cb hb rb fb tb own ah P gv bv lv mb nl lf vp lo ng nt c gc w cP st tp wr':=
 ⟨h.up,h.dn,h.hc.below aJ,h.run.below aJ,h.fr.below aJ,h.off,h.Bp,h.inv,h.calls,h.len,h.box.below aJ h.box.lt,h.En,h.Xx,h.pos,h.new,h.CV.wr (eW aJ) (λ_ h=>h.elim) h.Ux,h.lab.below aJ,h.lim,h.wr.trans (eW aJ) (λ_ h=>h.elim)⟩
theorem ET.bas(h:ET ai cb hb rb fb tb own ah P gv bv lv mb nl lf vp lo ng nt c gc w cP st tp wr):Below ai w wr:=
 h.wr.below h.pos (λk hk=>(h.hc.blocks.2.2 k (h.up k hk)).1)
theorem ET.after(h:ET ai cb hb rb fb tb own ah P gv bv lv mb nl lf vp lo ng nt c gc w cP st tp wr)(nL:Nat->Prop)(h1:∀k,cP k->nL k)(h2:∀k,nL k->cP k\/wr.heap.size<=k)(h5:Wr (λb=>cP b\/b=tb) wr wr'):
  (∀k,own k->nL k)/\(∀k,nL k->own k\/w.heap.size+2<=k)/\Wr own w wr'/\(∀t cs,Row wr w.heap.size cs t->Row wr' w.heap.size cs t)/\Row wr' (w.heap.size+1) gc 54:=by
 have hn:=h.RP;obtain⟨n1,n2,n3⟩:=h.new;have hz:=h.box.lt;refine⟨λk hk=>h1 k (h.up k hk),λk hk=>?_,h.wr.trans h5 ?_,λt cs hr=>hr.wr h5 ?_,h.box.wr h5 ?_⟩
 ·rcases h2 k hk with h'|h'
  ·exact h.dn k h'
  ·exact bu (by omega)
 ·rintro k (hk|hk)
  ·rcases h.dn k hk with h'|h'
   ·exact aK h'
   ·exact bu (by omega)
  ·exact bu (by omega)
 ·rintro(h'|h')
  ·exact hn.1 h'
  ·omega
 ·rintro(h'|h')
  ·exact hn.2 h'
  ·omega
theorem ET.next(h:ET ai cb hb rb fb tb own ah P gv bv lv mb nl lf vp lo ng nt c gc w cP st tp wr)(nL:Nat->Prop)(h1:∀k,cP k->nL k)(h2:∀k,nL k->cP k\/wr.heap.size<=k)(h5:Wr (λb=>cP b\/b=tb) wr wr'){st':St}{tp':List V}(h3:iH wr' ai nL cb hb ah st')(h4:bX wr' fb tb tp' lv lo mb)(hk:nC ah st st')(hf:fV (au st'.mem) tp' lo ng)(hl:tp'.length=tp.length):
  ET ai cb hb rb fb tb own ah P gv bv lv mb nl lf vp lo ng nt c gc w nL st' tp' wr':=by
 obtain⟨a1,a2,a3,a4,a5⟩:=h.after nL h1 h2 h5;refine⟨a1,a2,h3,h.run.wr h5 ?_ ?_,h4,oW.up h.off h2 h.fr h.run,hf,hk.inv,hk.calls.trans h.calls,hl.trans h.len,a5,h.En,h.Xx,h.pos,h.new,(h.CV.wr h5 ?_ h.Ux).up ?_,h.lab.wr h5 ?_,⟨λho=>(h2 mb ho).elim h.lim.1 (λhh=>by have:=h.lim.2;have:=h.Ux;omega),h.lim.2⟩,a3⟩
 ·rintro(h'|h')
  ·exact h.off.Ll.1 h'
  ·exact h.off.ort h'
 ·rintro g hg (h'|h')
  ·exact(h.off.JL g hg).1 h'
  ·exact(h.off.JL g hg).2.2 h'
 ·rintro k (hk|hk)
  ·exact aK hk
  ·exact bu (by have:=h.new.2.1;omega)
 ·intro k hk;rcases h2 k hk with h'|h'
  ·exact aK h'
  ·exact bu (by have:=h.Ux;omega)
 ·rintro(hk|hk)
  ·exact h.lim.1 hk
  ·have:=h.new.2.1;have:=h.lim.2;omega
end
end Go.Proofs.YtinmgbodgecoeaaGreat
namespace Go.Proofs.YtinmgbodgecoeaaGreat
open Go.RowKit
theorem LS(ai cb hb rb fb tb mb nl:Nat)(own:Nat->Prop)(P:Value×Value×Value)(gv bv lv:Value)(ah:Int)(s:St)(tp:List V)(lo:List Nat)(R:bT)(p:bB)(g:aR)(k:Nat)(x:bg)(A:Option Addr)(aA:Nat)(w:World)
  (hi:pP g p.ay.length p.funcs.length (gN p) x)(hk:k<=10000)(wu:g.regs=(tp.length:Int))(hlo:g.az.length=lo.length)(oh:In64 x.b)(U0:In64 x.n)(pZ:aD w ai x.arg (.slice A x.arg.length aA))(GD:∀c,c∈p.funcs->c.params<=4)
  (h:iH w ai own cb hb ah s)(hR:jd w rb cb hb P gv bv p.ay.length)(hF:bX w fb tb tp lv lo mb)(hO:oW ai own rb fb tb lv gv)(lq:fV (au s.mem) tp lo p.ay.length)(hI:GInv ah s)(hf:ah<=100000000)
  (hlab:fL w mb nl (gS g.ins))(hmb:¬own mb)(hP:bP w ai P p)(hL:nB w ai own w.heap.size bv p)(hC:wZ p ah s.calls R):
  Calls prog 47 #[.pointer (some ⟨rb,0,none⟩),.pointer (some ⟨fb,0,none⟩),.int .i64 (k:Int),.agg #[.int .i64 x.op,.int .i64 x.dst,.int .i64 x.a,.int .i64 x.b,.int .i64 x.n,.slice A x.arg.length aA]] w λe w'=>lQ ai cb hb ah fb tb mb lv lo own (bI R ah lo g.ins s tp k x) w e w':=by
 cases hy:(aL ah 1 s).1 with
 |false=>exact LR ai cb hb rb fb tb mb own P gv bv lv ah s tp lo p.ay.length R g.ins k x A aA w h hR hF hO hI hf hk hy
 |true=>
  by_cases p8:x.op=17
  ·exact LQ ai cb hb rb fb tb mb own P gv bv lv ah s tp lo p.ay.length R g.ins k x A aA w h hR hF hO hI hf hk hy p8
  have zk:=hi.num;by_cases iC:x.op=15
  ·have zq:dh g.ins x.n=true:=by simpa [aH,iC]using zk
   exact I6 ai cb hb rb fb tb mb own P gv bv lv ah s tp lo p.ay.length R g.ins k x A aA w h hR hF hO hI hf hk hy iC nl hlab hmb zq U0
  by_cases mL:x.op=16
  ·have zq:dh g.ins x.n=true:=by simpa [aH,mL]using zk
   have ha:=hi.a (by simp[mL]);obtain⟨ma,lh⟩:=Int.eq_ofNat_of_zero_le ha.1;have hlt:ma<tp.length:=by omega
   by_cases hz:tp.getD ma ⟨0,0⟩=⟨0,0⟩
   ·exact I5 ai cb hb rb fb tb mb own P gv bv lv ah s tp lo p.ay.length R g.ins k x A aA w h hR hF hO hI hf hk hy mL ma lh hlt hz
   by_cases hz0:0<(tp.getD ma ⟨0,0⟩).obj
   ·exact Eb ai cb hb rb fb tb mb own P gv bv lv ah s tp lo p.ay.length R g.ins k x A aA w h hR hF hO hI hf hk hy mL ma lh hlt hz0 nl hlab hmb zq U0
   ·exact Ec ai cb hb rb fb tb mb own P gv bv lv ah s tp lo p.ay.length R g.ins k x A aA w h hR hF hO hI hf hk hy mL ma lh hlt ⟨by omega,λe=>hz (by
     have e0:(tp.getD ma ⟨0,0⟩).obj=0:=by omega
     cases hv:tp.getD ma ⟨0,0⟩with
     |mk o n=>rw[hv]at e e0;simp only at e e0;rw[e,e0])⟩ nl hlab hmb zq U0
  ·refine Ob ai cb hb rb fb tb mb own P gv bv lv ah s tp lo p.ay.length R g.ins k x A aA w h hR hF hO hI hf hk hy ⟨iC,mL,p8⟩ (λW hH hRW hFW hW=>?_);obtain⟨e1,tF⟩:=hI.tick (by omega) hy;rw[e1]at hH ⊢;have hbk:=h.blocks;have hcb:=hbk.2.2 cb hbk.1;have hbW:=hW.below (B:=ai) (by omega) (λk hk=>by subst hk;omega);have hout:s.out.length<=1000000000:=by have:=hI.outs;have:=hI.hi;omega
   by_cases h10:x.op=10
   ·obtain⟨op,dst,a,b,n,arg⟩:=x;simp only at h10;subst h10;simp only at*;have hd:=hi.dst.2 rfl;simp[aH,mF,gN]at zk;obtain⟨⟨hn0,rT⟩,hrs,gH⟩:=zk;obtain⟨f,rfl⟩:=Int.eq_ofNat_of_zero_le hn0;have hfl:f<p.funcs.length:=by omega
    have hg':p.funcs[f]? =some p.funcs[f]:=List.getElem?_eq_getElem hfl;have hgd:(p.funcs[f]?.getD uK).params=(arg.length:Int):=by simpa using gH
    rw[hg']at hgd;simp only[Option.getD_some]at hgd;have TB:=GD p.funcs[f] (List.getElem_mem hfl);exact Jd ai cb hb rb fb tb mb own P gv bv lv ah _ tp lo R p f p.funcs[f] dst a b arg A aA W hH hRW hFW hO lq tF (λr hr=>by have:=hrs r hr;omega) (by omega) (pZ.below hbW (aY _)) hg' hgd.symm (hP.below hbW) ((hL.wr hW (λq hq=>aK (hq▸hbk.1)) (aY _)).mono hW.size) hC (by rw[<-wu];exact hd)
   ·exact LY ai cb hb rb fb tb mb own P gv bv lv ah _ tp lo R x A aA W hi ⟨iC,mL,p8⟩ h10 wu hlo oh (pZ.below hbW (aY _)) hout hH hRW hFW hO lq
end Go.Proofs.YtinmgbodgecoeaaGreat
namespace Go.Proofs.YtinmgbodgecoeaaGreat
open Go.RowKit
section
variable {R:bT} {ah:Int} {lo:List Nat} {l:List bg} {x:bg} {k:Nat} {s:St} {tp:List V}
theorem Bx{y:qC}(h:(aL ah 1 s).1=false):oz R ah lo s tp y=(false,(aL ah 1 s).2,tp):=by
 unfold oz;rw[if_pos h]
theorem Ir(h:x.op=13):(aW R lo s tp (aT x)).1=false:=by
 obtain⟨op,dst,a,b,n,arg⟩:=x;simp only at h;subst h;rw[show aT ⟨13,dst,a,b,n,arg⟩=⟨6,-1,0,0,[fX a]⟩from rfl,iV (r:=a) rfl];unfold kX;simp only[List.getD_cons_zero];rw[if_neg (show¬(6:Int)=1 by decide),if_neg (show¬(6:Int)=2 by decide),if_neg (show¬(6:Int)=3 by decide),if_neg (show¬(6:Int)=5 by decide)];by_cases hz:(tp.getD a.toNat ⟨0,0⟩).obj>0
 ·rw[if_pos hz]
 ·rw[if_neg hz];rfl
theorem xR(h:l[k]? =some x)(g:Nat)(hr:(bI R ah lo l s tp k x).1=false):bV R ah lo (b9 l) (g+1) (k:Nat) s tp=(none,(bI R ah lo l s tp k x).2.2.1):=by
 cases hy:(aL ah 1 s).1 with
 |false=>
  have e:(bI R ah lo l s tp k x).2.2.1=(aL ah 1 s).2:=by unfold bI;rw[if_pos hy]
  rw[e];by_cases hx:fF x
  ·rw[GY h hx g (by rw[Bx hy]),Bx hy]
  ·exact SH h hx g hy
 |true=>
  by_cases p8:x.op=17
  ·unfold bI at hr;rw[if_neg (by rw[hy];simp),if_pos p8]at hr;cases hr
  by_cases iC:x.op=15
  ·unfold bI at hr;rw[if_neg (by rw[hy];simp),if_neg p8,if_pos iC]at hr;cases hr
  by_cases mL:x.op=16
  ·unfold bI at hr;rw[if_neg (by rw[hy];simp),if_neg p8,if_neg iC,if_pos mL]at hr;cases hr
  have e:bI R ah lo l s tp k x=((aW R lo (aL ah 1 s).2 tp (aT x)).1,((k+1:Nat):Int),(aW R lo (aL ah 1 s).2 tp (aT x)).2.1,(aW R lo (aL ah 1 s).2 tp (aT x)).2.2):=by unfold bI;rw[if_neg (by rw[hy];simp),if_neg p8,if_neg iC,if_neg mL]
  rw[e]at hr ⊢;rw[GY h ⟨iC,mL,p8⟩ g (by rw[qx hy];exact hr),qx hy]
theorem LB(h:l[k]? =some x)(g:Nat)(hx:x.op=17)(hr:(bI R ah lo l s tp k x).1=true):bV R ah lo (b9 l) (g+1) (k:Nat) s tp=(some (tp.getD x.a.toNat ⟨0,0⟩),{(bI R ah lo l s tp k x).2.2.1 with mem:=dL (bI R ah lo l s tp k x).2.2.1.mem lo,calls:=(bI R ah lo l s tp k x).2.2.1.calls-1})/\(bI R ah lo l s tp k x).2.2.2=tp/\(bI R ah lo l s tp k x).2.1= -1:=by
 cases hy:(aL ah 1 s).1 with
 |false=>unfold bI at hr;rw[if_pos hy]at hr;cases hr
 |true=>
  have e:bI R ah lo l s tp k x=(true,-1,(aL ah 1 s).2,tp):=by unfold bI;rw[if_neg (by rw[hy];simp),if_pos hx]
  rw[e];exact⟨SG h hx g hy,rfl,rfl⟩
theorem GX(h:l[k]? =some x)(hlast:x.op≠15->x.op≠13->x.op≠17->k+1<l.length)(hlab:x.op=15\/x.op=16->gG l x.n<l.length)(g:Nat)(hx:x.op≠17)(hr:(bI R ah lo l s tp k x).1=true):∃(g':Nat)(k':Nat),(bI R ah lo l s tp k x).2.1=(k':Int)/\k'<l.length/\
  (fF x->g'=g+1/\k'=k+1)/\(¬fF x->g'=g)/\bV R ah lo (b9 l) (g+1) (k:Nat) s tp=bV R ah lo (b9 l) g' (k':Nat) (bI R ah lo l s tp k x).2.2.1 (bI R ah lo l s tp k x).2.2.2:=by
 cases hy:(aL ah 1 s).1 with
 |false=>unfold bI at hr;rw[if_pos hy]at hr;cases hr
 |true=>
  by_cases iC:x.op=15
  ·have e:bI R ah lo l s tp k x=(true,((gG l x.n:Nat):Int),(aL ah 1 s).2,tp):=by unfold bI;rw[if_neg (by rw[hy];simp),if_neg hx,if_pos iC]
   rw[e];exact⟨g,gG l x.n,rfl,hlab (aK iC),λhs=>absurd iC hs.1,λ_=>rfl,GZ h iC g hy⟩
  by_cases mL:x.op=16
  ·have e:bI R ah lo l s tp k x=(true,(if tp.getD x.a.toNat ⟨0,0⟩=⟨0,0⟩then((k+1:Nat):Int)else(gG l x.n:Nat)),(aL ah 1 s).2,tp):=by unfold bI;rw[if_neg (by rw[hy];simp),if_neg hx,if_neg iC,if_pos mL]
   rw[e,rU h mL g hy];by_cases hz:tp.getD x.a.toNat ⟨0,0⟩=⟨0,0⟩
   ·rw[if_pos hz];exact⟨g,k+1,rfl,hlast iC (by omega) hx,λhs=>absurd mL hs.2.1,λ_=>rfl,rfl⟩
   ·rw[if_neg hz];exact⟨g,gG l x.n,rfl,hlab (bu mL),λhs=>absurd mL hs.2.1,λ_=>rfl,rfl⟩
  have e:bI R ah lo l s tp k x=((aW R lo (aL ah 1 s).2 tp (aT x)).1,((k+1:Nat):Int),(aW R lo (aL ah 1 s).2 tp (aT x)).2.1,(aW R lo (aL ah 1 s).2 tp (aT x)).2.2):=by unfold bI;rw[if_neg (by rw[hy];simp),if_neg hx,if_neg iC,if_neg mL]
  rw[e]at hr ⊢;simp only at hr ⊢;have Lx:x.op≠13:=λLx=>by rw[Ir Lx]at hr;cases hr
  refine⟨g+1,k+1,rfl,hlast iC Lx hx,λ_=>⟨rfl,rfl⟩,λhs=>absurd ⟨iC,mL,hx⟩ hs,?_⟩;rw[EF h ⟨iC,mL,hx⟩ (hlast iC Lx hx) g,qx hy];rcases hd:aW R lo (aL ah 1 s).2 tp (aT x)with⟨ok,s',tp'⟩
  rw[hd]at hr;simp only at hr;subst hr;rfl
theorem xM{c:aR}(h:nZ c=true){x:bg}{k:Nat}(hk:c.ins[k]? =some x)(iC:x.op≠15)(Lx:x.op≠13)(p8:x.op≠17):k+1<c.ins.length:=by
 have hkl:k<c.ins.length:=(List.getElem?_eq_some_iff.1 hk).1;rcases Nat.lt_or_ge (k+1) c.ins.length with h'|h'
 ·exact h'
 ·exfalso;have hke:c.ins.length-1=k:=by omega
  unfold nZ at h;rw[hke,List.getD_eq_getElem?_getD,hk]at h;simp at h;omega
theorem Dz{c:aR}{ng nf:Nat}{par:Int->Int->Bool}{x:bg}(hi:pP c ng nf par x)(h:x.op=15\/x.op=16):gG c.ins x.n<c.ins.length:=by
 have hn:=hi.num;rcases h with h|h
 ·exact tS (by simpa [aH,h]using hn)
 ·exact tS (by simpa [aH,h]using hn)
theorem nC.Uu(hI:GInv ah s)(hy:(aL ah 1 s).1=true):nC ah s (aL ah 1 s).2:=by
 obtain⟨e1,tF⟩:=hI.tick (by omega) hy;rw[e1];exact⟨tF,rfl,aY _,show s.steps<=s.steps+1 by omega⟩
theorem Dx{p:qD}{nt nl:Nat}(hR:∀c,xe p ah c R)(hI:GInv ah s)(hF:fV (au s.mem) tp lo p.ay.length)(ht:tp.length=nt)(hl:lo.length=nl)(hx:fF x->rX p nt nl (aT x))(hr:(bI R ah lo l s tp k x).1=true):
  nC ah s (bI R ah lo l s tp k x).2.2.1/\fV (au (bI R ah lo l s tp k x).2.2.1.mem) (bI R ah lo l s tp k x).2.2.2 lo p.ay.length/\(bI R ah lo l s tp k x).2.2.2.length=tp.length/\(¬fF x->(bI R ah lo l s tp k x).2.2.1.steps=s.steps+1):=by
 cases hy:(aL ah 1 s).1 with
 |false=>unfold bI at hr;rw[if_pos hy]at hr;cases hr
 |true=>
  obtain⟨e1,tF⟩:=hI.tick (by omega) hy;have hk:=nC.Uu hI hy;have hm:au (aL ah 1 s).2.mem=au s.mem:=by rw[xE]
  have hst:(aL ah 1 s).2.steps=s.steps+1:=by rw[e1]
  by_cases p8:x.op=17
  ·have e:bI R ah lo l s tp k x=(true,-1,(aL ah 1 s).2,tp):=by unfold bI;rw[if_neg (by rw[hy];simp),if_pos p8]
   rw[e];exact⟨hk,by show fV (au (aL ah 1 s).2.mem) tp lo _;rw[hm];exact hF,rfl,λ_=>hst⟩
  by_cases iC:x.op=15
  ·have e:bI R ah lo l s tp k x=(true,((gG l x.n:Nat):Int),(aL ah 1 s).2,tp):=by unfold bI;rw[if_neg (by rw[hy];simp),if_neg p8,if_pos iC]
   rw[e];exact⟨hk,by show fV (au (aL ah 1 s).2.mem) tp lo _;rw[hm];exact hF,rfl,λ_=>hst⟩
  by_cases mL:x.op=16
  ·have e:bI R ah lo l s tp k x=(true,(if tp.getD x.a.toNat ⟨0,0⟩=⟨0,0⟩then((k+1:Nat):Int)else(gG l x.n:Nat)),(aL ah 1 s).2,tp):=by unfold bI;rw[if_neg (by rw[hy];simp),if_neg p8,if_neg iC,if_pos mL]
   rw[e];exact⟨hk,by show fV (au (aL ah 1 s).2.mem) tp lo _;rw[hm];exact hF,rfl,λ_=>hst⟩
  have hs:fF x:=⟨iC,mL,p8⟩
  have e:bI R ah lo l s tp k x=((aW R lo (aL ah 1 s).2 tp (aT x)).1,((k+1:Nat):Int),(aW R lo (aL ah 1 s).2 tp (aT x)).2.1,(aW R lo (aL ah 1 s).2 tp (aT x)).2.2):=by unfold bI;rw[if_neg (by rw[hy];simp),if_neg p8,if_neg iC,if_neg mL]
  rw[e]at hr ⊢;simp only at hr ⊢;obtain⟨q1,q2,q3⟩:=DR (x:=aT x) (s':=(aW R lo (aL ah 1 s).2 tp (aT x)).2.1) (tp':=(aW R lo (aL ah 1 s).2 tp (aT x)).2.2) hR hI hF ht hl (hx hs) (by rw[qx hy,<-hr]);exact⟨q1,q2,q3,λh=>absurd hs h⟩
end
end Go.Proofs.YtinmgbodgecoeaaGreat
