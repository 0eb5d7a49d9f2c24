/- gantletref14: put and exit that are stuck; exit. Conditions: as stated. -/
import Derived.Test.YtinmgbodgecoeaaGreatRDoesAZz
set_option linter.unusedSimpArgs false
set_option linter.unusedVariables false
set_option maxHeartbeats 8000000
set_option maxRecDepth 100000
open Go.Proofs.Tryz
namespace Go.Proofs.YtinmgbodgecoeaaGreat
open Go.RowKit
theorem Eh(ai mc fb tb:Nat)(own:Nat->Prop)(P:Value×Value×Value×Value)(lv:Value)(ah:Int)(s:St)(tp:List V)(lo:List Nat)(R:bT)(q:Nat)(x:V)(dst b n:Int)(AV:Value)(l:List Int)(w:World)
  (h:bG w ai mc own P ah s)(hF:bZ w fb tb tp lv lo)(hO:iD ai own fb tb lv)(hq:q<tp.length)(hx:tp[q]? =some x)(hz:0<x.obj)(hk:s.kind=0):
  Calls prog 54 #[.pointer (some ⟨mc,0,none⟩),.pointer (some ⟨fb,0,none⟩),.agg #[.int .i64 11,.int .i64 dst,.int .i64 (q:Int),.int .i64 b,.int .i64 n,AV]] w λe w'=>lR ai mc P ah fb tb lv lo own (aW R lo s tp (aT ⟨11,dst,(q:Int),b,n,l⟩)) w e w':=by
 have pK:aW R lo s tp (aT ⟨11,dst,(q:Int),b,n,l⟩)=(false,{s with kind:=3},tp):=by
  have hg:tp.getD q ⟨0,0⟩=x:=by rw[List.getD_eq_getElem?_getD,hx];rfl
  rw[show aT ⟨11,dst,(q:Int),b,n,l⟩=⟨4,-1,0,0,[fX (q:Int)]⟩from rfl,iV (r:=(q:Int)) rfl,Int.toNat_natCast,hg];unfold kX;simp only[List.getD_cons_zero];rw[if_neg (by decide),if_neg (by decide),if_neg (by decide),if_neg (by decide),if_pos (by omega)]
 rw[pK];clear pK;have HS:=ae (λW(hW:Below w.heap.size w W)=>iy ai mc own P ah 3 s W (h.below hW));have hst:iJ 3 s={s with kind:=3}:=by unfold iJ;rw[if_pos hk]
 rw[hst]at HS;have IK:=ae (show own mc from by obtain⟨_,_,_,_,h⟩:=h;exact h.mine);have f0:=hF.row.cell (j:=0) rfl;have hfb:=hF.row.lt;obtain⟨cs,hr,hcs,hvs⟩:=hF.bN;have htl:=hr.lt;have hv:=hvs q x hx;have x0:=hr.cell hv.1;have x1:=hr.cell hv.2;have sO:=hF.few;have Zd:(q:Int)<(tp.length:Int):=by omega
 have hf1:fb<w.heap.size+1:=by omega
 have hf2:fb<w.heap.size+1+1:=by omega
 have ht1:tb<w.heap.size+1:=by omega
 have ht2:tb<w.heap.size+1+1:=by omega
 have hpos:decide ((0:Int)<(x.obj:Int))=true:=by simp;omega
 have hsz:cs.size=tp.length*2:=hcs;clear h hF hO hr hvs hv hst hk hx;go_enter func54,ntmps54;refine aj λQ HQ=>?_;go_wp2_with fail;go_region
 all_goals go_wp2_with fail
 all_goals refine(HS _ (by first|exact(aN w _ _ _).drew|exact(aB w _ _).drew.trans ((ax _ _).mono (by simp;omega)))).mono ?_
 all_goals rintro e w' ⟨rfl,hm',hw'⟩
 all_goals have HM:=ae hm'
 all_goals have HW:=ae hw'
 all_goals clear hm' hw'
 all_goals go_wp2_with fail
 all_goals refine HQ _ _ _ ?_
 all_goals exact aS (v:= .bool false) (by simp[results,results54,go_sem]) rfl ⟨rfl,own,λ_ h=>h,λ_ h=>aK h,HM.out,(λh=>Bool.noConfusion h),(Wr.of_below (F:=λb=>own b\/b=tb) (aN w _ _ _).drew).trans HW (λi hi=>aK (aK (by have:i=mc:=hi;rw[this];exact IK.out)))⟩
theorem CT(ai mc fb tb:Nat)(own:Nat->Prop)(P:Value×Value×Value×Value)(lv:Value)(ah:Int)(s:St)(tp:List V)(lo:List Nat)(R:bT)(q:Nat)(x:V)(dst b n:Int)(AV:Value)(l:List Int)(w:World)
  (h:bG w ai mc own P ah s)(hF:bZ w fb tb tp lv lo)(hO:iD ai own fb tb lv)(hq:q<tp.length)(hx:tp[q]? =some x)(hz:0<x.obj)(hk:s.kind=0):
  Calls prog 54 #[.pointer (some ⟨mc,0,none⟩),.pointer (some ⟨fb,0,none⟩),.agg #[.int .i64 13,.int .i64 dst,.int .i64 (q:Int),.int .i64 b,.int .i64 n,AV]] w λe w'=>lR ai mc P ah fb tb lv lo own (aW R lo s tp (aT ⟨13,dst,(q:Int),b,n,l⟩)) w e w':=by
 have pK:aW R lo s tp (aT ⟨13,dst,(q:Int),b,n,l⟩)=(false,{s with kind:=3},tp):=by
  have hg:tp.getD q ⟨0,0⟩=x:=by rw[List.getD_eq_getElem?_getD,hx];rfl
  rw[show aT ⟨13,dst,(q:Int),b,n,l⟩=⟨6,-1,0,0,[fX (q:Int)]⟩from rfl,iV (r:=(q:Int)) rfl,Int.toNat_natCast,hg];unfold kX;simp only[List.getD_cons_zero];rw[if_neg (by decide),if_neg (by decide),if_neg (by decide),if_neg (by decide),if_pos (by omega)]
 rw[pK];clear pK;have HS:=ae (λW(hW:Below w.heap.size w W)=>iy ai mc own P ah 3 s W (h.below hW));have hst:iJ 3 s={s with kind:=3}:=by unfold iJ;rw[if_pos hk]
 rw[hst]at HS;have IK:=ae (show own mc from by obtain⟨_,_,_,_,h⟩:=h;exact h.mine);have f0:=hF.row.cell (j:=0) rfl;have hfb:=hF.row.lt;obtain⟨cs,hr,hcs,hvs⟩:=hF.bN;have htl:=hr.lt;have hv:=hvs q x hx;have x0:=hr.cell hv.1;have x1:=hr.cell hv.2;have sO:=hF.few;have Zd:(q:Int)<(tp.length:Int):=by omega
 have hf1:fb<w.heap.size+1:=by omega
 have hf2:fb<w.heap.size+1+1:=by omega
 have ht1:tb<w.heap.size+1:=by omega
 have ht2:tb<w.heap.size+1+1:=by omega
 have hpos:decide ((0:Int)<(x.obj:Int))=true:=by simp;omega
 have hsz:cs.size=tp.length*2:=hcs;clear h hF hO hr hvs hv hst hk hx;go_enter func54,ntmps54;refine aj λQ HQ=>?_;go_wp2_with fail;go_region
 all_goals go_wp2_with fail
 all_goals refine(HS _ (by first|exact(aN w _ _ _).drew|exact(aB w _ _).drew.trans ((ax _ _).mono (by simp;omega)))).mono ?_
 all_goals rintro e w' ⟨rfl,hm',hw'⟩
 all_goals have HM:=ae hm'
 all_goals have HW:=ae hw'
 all_goals clear hm' hw'
 all_goals go_wp2_with fail
 all_goals refine HQ _ _ _ ?_
 all_goals exact aS (v:= .bool false) (by simp[results,results54,go_sem]) rfl ⟨rfl,own,λ_ h=>h,λ_ h=>aK h,HM.out,(λh=>Bool.noConfusion h),(Wr.of_below (F:=λb=>own b\/b=tb) (aN w _ _ _).drew).trans HW (λi hi=>aK (aK (by have:i=mc:=hi;rw[this];exact IK.out)))⟩
theorem JA(ai mc fb tb:Nat)(own:Nat->Prop)(P:Value×Value×Value×Value)(lv:Value)(ah:Int)(s:St)(tp:List V)(lo:List Nat)(R:bT)(q:Nat)(x:V)(dst b n:Int)(AV:Value)(l:List Int)(w:World)
  (h:bG w ai mc own P ah s)(hF:bZ w fb tb tp lv lo)(hO:iD ai own fb tb lv)(hq:q<tp.length)(hx:tp[q]? =some x)(hz:x.obj=0)(hk:s.kind=0):
  Calls prog 54 #[.pointer (some ⟨mc,0,none⟩),.pointer (some ⟨fb,0,none⟩),.agg #[.int .i64 13,.int .i64 dst,.int .i64 (q:Int),.int .i64 b,.int .i64 n,AV]] w λe w'=>lR ai mc P ah fb tb lv lo own (aW R lo s tp (aT ⟨13,dst,(q:Int),b,n,l⟩)) w e w':=by
 have pK:aW R lo s tp (aT ⟨13,dst,(q:Int),b,n,l⟩)=(false,{s with code:=x.n,kind:=1},tp):=by
  have hg:tp.getD q ⟨0,0⟩=x:=by rw[List.getD_eq_getElem?_getD,hx];rfl
  rw[show aT ⟨13,dst,(q:Int),b,n,l⟩=⟨6,-1,0,0,[fX (q:Int)]⟩from rfl,iV (r:=(q:Int)) rfl,Int.toNat_natCast,hg];unfold kX;simp only[List.getD_cons_zero];rw[if_neg (by decide),if_neg (by decide),if_neg (by decide),if_neg (by decide),if_neg (by omega)];rfl
 rw[pK];clear pK;obtain⟨inv,outv,aU,rb,hm⟩:=h;have HS:=ae (λW(hW:Below (w.setCell ⟨mc,7,none⟩ (.int .i64 x.n)).heap.size (w.setCell ⟨mc,7,none⟩ (.int .i64 x.n)) W)=>iy ai mc own P ah 1 {s with code:=x.n} W (bG.below ⟨inv,outv,aU,rb,hm.num (s':={s with code:=x.n}) 7 (.int .i64 x.n) rfl rfl rfl rfl⟩ hW));have hst:iJ 1 {s with code:=x.n}={s with code:=x.n,kind:=1}:=by unfold iJ;rw[if_pos hk]
 rw[hst]at HS;have IK:=ae hm.mine;have m7:=hm.row.cell (j:=7) rfl;have n7:=hm.row.free 7;have uQ:=hm.lt;have U2:mc<w.heap.size+1:=by omega
 have hml2:mc<w.heap.size+1+1:=by omega
 have f0:=hF.row.cell (j:=0) rfl;have hfb:=hF.row.lt;obtain⟨cs,hr,hcs,hvs⟩:=hF.bN;have htl:=hr.lt;have hv:=hvs q x hx;have x0:=hr.cell hv.1;have x1:=hr.cell hv.2;rw[hz]at x0;have sO:=hF.few;have Zd:(q:Int)<(tp.length:Int):=by omega
 have hf1:fb<w.heap.size+1:=by omega
 have hf2:fb<w.heap.size+1+1:=by omega
 have ht1:tb<w.heap.size+1:=by omega
 have ht2:tb<w.heap.size+1+1:=by omega
 have hsz:cs.size=tp.length*2:=hcs;clear hm hF hO hr hvs hv hst hk hx;go_enter func54,ntmps54;refine aj λQ HQ=>?_;go_wp2_with fail;go_region
 all_goals go_wp2_with fail
 all_goals refine(HS _ (by first|exact(aN (w.setCell ⟨mc,7,none⟩ (.int .i64 x.n)) _ _ _).drew|exact(aB (w.setCell ⟨mc,7,none⟩ (.int .i64 x.n)) _ _).drew.trans ((ax _ _).mono (by simp;omega)))).mono ?_
 all_goals rintro e w' ⟨rfl,hm',hw'⟩
 all_goals have HM:=ae hm'
 all_goals have HW:=ae hw'
 all_goals clear hm' hw'
 all_goals go_wp2_with fail
 all_goals refine HQ _ _ _ ?_
 all_goals exact aS (v:= .bool false) (by simp[results,results54,go_sem]) rfl ⟨rfl,own,λ_ h=>h,λ_ h=>aK h,HM.out,(λh=>Bool.noConfusion h),(((Wr.cell1 w mc 7 _).trans (eW (aN (w.setCell ⟨mc,7,none⟩ (.int .i64 x.n)) _ _ _).drew) (λi hi=>hi.elim)).trans HW (λi hi=>aK hi)).mono (λi hi=>aK (aK (by have:i=mc:=hi;rw[this];exact IK.out)))⟩
end Go.Proofs.YtinmgbodgecoeaaGreat
