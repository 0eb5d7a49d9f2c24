/- gantletref14: put and exit that are stuck; exit. Conditions: as stated. -/
import Derived.Test.YtlenilbkifofjaaGreatDoorRDoesAZz
import Derived.Test.YtlenilbkifofjaaGreatDoorQ10Zz
import Derived.BigRegion
set_option linter.unusedVariables false
set_option linter.unusedSimpArgs false
set_option maxHeartbeats 8000000
set_option maxRecDepth 100000
namespace Go.Proofs.YtlenilbkifofjaaGreatDoor
open Go.RowKit
theorem rdoes_badput(base mc fb tb:Nat)(own:Nat→Prop)(P:Value×Value×Value×Value)(lv:Value)(fuel:Int)(s:St)(tp:List V)(lo:List Nat)(R:CallR)(q:Nat)(x:V)(dst b n:Int)(AV:Value)(l:List Int)(w:World)
  (h:RMach w base mc own P fuel s)(hF:RFrame w fb tb tp lv lo)(hO:OffAt base own fb tb lv)(hq:q<tp.length)(hx:tp[q]? =some x)(hz:0<x.obj)(hk:s.kind=0):
  Calls Tryz.prog 39 #[.pointer (some ⟨mc,0,none⟩),.pointer (some ⟨fb,0,none⟩),.agg #[.int .i64 11,.int .i64 dst,.int .i64 (q:Int),.int .i64 b,.int .i64 n,AV]] w fun e w'=>RSays base mc P fuel fb tb lv lo own (afterF R lo s tp (stepI ⟨11,dst,(q:Int),b,n,l⟩)) w e w':=by
 have haf:afterF R lo s tp (stepI ⟨11,dst,(q:Int),b,n,l⟩)=(false,{s with kind:=3},tp):=by
  have hg:tp.getD q ⟨0,0⟩=x:=by rw[List.getD_eq_getElem?_getD,hx];rfl
  rw[show stepI ⟨11,dst,(q:Int),b,n,l⟩=⟨4,-1,0,0,[tmpT (q:Int)]⟩from rfl,afterF_one (r:=(q:Int)) rfl,Int.toNat_natCast,hg];unfold actF;simp only[List.getD_cons_zero];rw[if_neg (by decide),if_neg (by decide),if_neg (by decide),if_neg (by decide),if_pos (by omega)]
 rw[haf];clear haf;have HS:=Lib.hid (fun W(hW:Below w.heap.size w W)=>rstop_any base mc own P fuel 3 s W (h.below hW));have hst:stopF 3 s={s with kind:=3}:=by unfold stopF;rw[if_pos hk]
 rw[hst]at HS;have HMI:=Lib.hid (show own mc from by obtain⟨_,_,_,_,h⟩:=h;exact h.mine);have f0:=hF.row.cell (j:=0) rfl;have hfb:=hF.row.lt;obtain⟨cs,hr,hcs,hvs⟩:=hF.temps;have htl:=hr.lt;have hv:=hvs q x hx;have x0:=hr.cell hv.1;have x1:=hr.cell hv.2;have hfew:=hF.few;have hql:(q:Int)<(tp.length:Int):=by omega
 have hf1:fb<w.heap.size+1:=by omega
 have hf2:fb<w.heap.size+1+1:=by omega
 have ht1:tb<w.heap.size+1:=by omega
 have ht2:tb<w.heap.size+1+1:=by omega
 have hpos:decide ((0:Int)<(x.obj:Int))=true:=by simp;omega
 have hsz:cs.size=tp.length*2:=hcs;clear h hF hO hr hvs hv hst hk hx;go_enter Tryz.func39,Tryz.ntmps39;refine wp_letter (fun Q hQ=>?_);have HQ:=Lib.hid hQ;clear hQ;go_wp2_with fail;go_region
 all_goals go_wp2_with fail
 all_goals refine(HS.out _ (by first|exact(below3 w _ _ _).drew|exact(below2 w _ _).drew.trans ((below1 _ _).mono (by simp;omega)))).mono ?_
 all_goals rintro e w' ⟨rfl,hm',hw'⟩
 all_goals have HM:=Lib.hid hm'
 all_goals have HW:=Lib.hid hw'
 all_goals clear hm' hw'
 all_goals go_wp2_with fail
 all_goals refine HQ.out _ _ _ ?_
 all_goals exact bodyPost_ret (v:= .bool false) (by simp[results,Tryz.results39,go_sem]) rfl ⟨rfl,own,fun _ h=>h,fun _ h=>Or.inl h,HM.out,(fun h=>Bool.noConfusion h),(Wr.of_below (F:=fun b=>own b∨b=tb) (below3 w _ _ _).drew).trans HW.out (fun i hi=>Or.inl (Or.inl (by have:i=mc:=hi;rw[this];exact HMI.out)))⟩
theorem rdoes_badexit(base mc fb tb:Nat)(own:Nat→Prop)(P:Value×Value×Value×Value)(lv:Value)(fuel:Int)(s:St)(tp:List V)(lo:List Nat)(R:CallR)(q:Nat)(x:V)(dst b n:Int)(AV:Value)(l:List Int)(w:World)
  (h:RMach w base mc own P fuel s)(hF:RFrame w fb tb tp lv lo)(hO:OffAt base own fb tb lv)(hq:q<tp.length)(hx:tp[q]? =some x)(hz:0<x.obj)(hk:s.kind=0):
  Calls Tryz.prog 39 #[.pointer (some ⟨mc,0,none⟩),.pointer (some ⟨fb,0,none⟩),.agg #[.int .i64 13,.int .i64 dst,.int .i64 (q:Int),.int .i64 b,.int .i64 n,AV]] w fun e w'=>RSays base mc P fuel fb tb lv lo own (afterF R lo s tp (stepI ⟨13,dst,(q:Int),b,n,l⟩)) w e w':=by
 have haf:afterF R lo s tp (stepI ⟨13,dst,(q:Int),b,n,l⟩)=(false,{s with kind:=3},tp):=by
  have hg:tp.getD q ⟨0,0⟩=x:=by rw[List.getD_eq_getElem?_getD,hx];rfl
  rw[show stepI ⟨13,dst,(q:Int),b,n,l⟩=⟨6,-1,0,0,[tmpT (q:Int)]⟩from rfl,afterF_one (r:=(q:Int)) rfl,Int.toNat_natCast,hg];unfold actF;simp only[List.getD_cons_zero];rw[if_neg (by decide),if_neg (by decide),if_neg (by decide),if_neg (by decide),if_pos (by omega)]
 rw[haf];clear haf;have HS:=Lib.hid (fun W(hW:Below w.heap.size w W)=>rstop_any base mc own P fuel 3 s W (h.below hW));have hst:stopF 3 s={s with kind:=3}:=by unfold stopF;rw[if_pos hk]
 rw[hst]at HS;have HMI:=Lib.hid (show own mc from by obtain⟨_,_,_,_,h⟩:=h;exact h.mine);have f0:=hF.row.cell (j:=0) rfl;have hfb:=hF.row.lt;obtain⟨cs,hr,hcs,hvs⟩:=hF.temps;have htl:=hr.lt;have hv:=hvs q x hx;have x0:=hr.cell hv.1;have x1:=hr.cell hv.2;have hfew:=hF.few;have hql:(q:Int)<(tp.length:Int):=by omega
 have hf1:fb<w.heap.size+1:=by omega
 have hf2:fb<w.heap.size+1+1:=by omega
 have ht1:tb<w.heap.size+1:=by omega
 have ht2:tb<w.heap.size+1+1:=by omega
 have hpos:decide ((0:Int)<(x.obj:Int))=true:=by simp;omega
 have hsz:cs.size=tp.length*2:=hcs;clear h hF hO hr hvs hv hst hk hx;go_enter Tryz.func39,Tryz.ntmps39;refine wp_letter (fun Q hQ=>?_);have HQ:=Lib.hid hQ;clear hQ;go_wp2_with fail;go_region
 all_goals go_wp2_with fail
 all_goals refine(HS.out _ (by first|exact(below3 w _ _ _).drew|exact(below2 w _ _).drew.trans ((below1 _ _).mono (by simp;omega)))).mono ?_
 all_goals rintro e w' ⟨rfl,hm',hw'⟩
 all_goals have HM:=Lib.hid hm'
 all_goals have HW:=Lib.hid hw'
 all_goals clear hm' hw'
 all_goals go_wp2_with fail
 all_goals refine HQ.out _ _ _ ?_
 all_goals exact bodyPost_ret (v:= .bool false) (by simp[results,Tryz.results39,go_sem]) rfl ⟨rfl,own,fun _ h=>h,fun _ h=>Or.inl h,HM.out,(fun h=>Bool.noConfusion h),(Wr.of_below (F:=fun b=>own b∨b=tb) (below3 w _ _ _).drew).trans HW.out (fun i hi=>Or.inl (Or.inl (by have:i=mc:=hi;rw[this];exact HMI.out)))⟩
theorem rdoes_exit(base mc fb tb:Nat)(own:Nat→Prop)(P:Value×Value×Value×Value)(lv:Value)(fuel:Int)(s:St)(tp:List V)(lo:List Nat)(R:CallR)(q:Nat)(x:V)(dst b n:Int)(AV:Value)(l:List Int)(w:World)
  (h:RMach w base mc own P fuel s)(hF:RFrame w fb tb tp lv lo)(hO:OffAt base own fb tb lv)(hq:q<tp.length)(hx:tp[q]? =some x)(hz:x.obj=0)(hk:s.kind=0):
  Calls Tryz.prog 39 #[.pointer (some ⟨mc,0,none⟩),.pointer (some ⟨fb,0,none⟩),.agg #[.int .i64 13,.int .i64 dst,.int .i64 (q:Int),.int .i64 b,.int .i64 n,AV]] w fun e w'=>RSays base mc P fuel fb tb lv lo own (afterF R lo s tp (stepI ⟨13,dst,(q:Int),b,n,l⟩)) w e w':=by
 have haf:afterF R lo s tp (stepI ⟨13,dst,(q:Int),b,n,l⟩)=(false,{s with code:=x.n,kind:=1},tp):=by
  have hg:tp.getD q ⟨0,0⟩=x:=by rw[List.getD_eq_getElem?_getD,hx];rfl
  rw[show stepI ⟨13,dst,(q:Int),b,n,l⟩=⟨6,-1,0,0,[tmpT (q:Int)]⟩from rfl,afterF_one (r:=(q:Int)) rfl,Int.toNat_natCast,hg];unfold actF;simp only[List.getD_cons_zero];rw[if_neg (by decide),if_neg (by decide),if_neg (by decide),if_neg (by decide),if_neg (by omega)];rfl
 rw[haf];clear haf;obtain⟨inv,outv,memv,rb,hm⟩:=h;have HS:=Lib.hid (fun W(hW:Below (w.setCell ⟨mc,7,none⟩ (.int .i64 x.n)).heap.size (w.setCell ⟨mc,7,none⟩ (.int .i64 x.n)) W)=>rstop_any base mc own P fuel 1 {s with code:=x.n} W (RMach.below ⟨inv,outv,memv,rb,hm.num (s':={s with code:=x.n}) 7 (.int .i64 x.n) rfl rfl rfl rfl⟩ hW));have hst:stopF 1 {s with code:=x.n}={s with code:=x.n,kind:=1}:=by unfold stopF;rw[if_pos hk]
 rw[hst]at HS;have HMI:=Lib.hid hm.mine;have m7:=hm.row.cell (j:=7) rfl;have n7:=hm.row.free 7;have hml:=hm.lt;have hml1:mc<w.heap.size+1:=by omega
 have hml2:mc<w.heap.size+1+1:=by omega
 have f0:=hF.row.cell (j:=0) rfl;have hfb:=hF.row.lt;obtain⟨cs,hr,hcs,hvs⟩:=hF.temps;have htl:=hr.lt;have hv:=hvs q x hx;have x0:=hr.cell hv.1;have x1:=hr.cell hv.2;rw[hz]at x0;have hfew:=hF.few;have hql:(q:Int)<(tp.length:Int):=by omega
 have hf1:fb<w.heap.size+1:=by omega
 have hf2:fb<w.heap.size+1+1:=by omega
 have ht1:tb<w.heap.size+1:=by omega
 have ht2:tb<w.heap.size+1+1:=by omega
 have hsz:cs.size=tp.length*2:=hcs;clear hm hF hO hr hvs hv hst hk hx;go_enter Tryz.func39,Tryz.ntmps39;refine wp_letter (fun Q hQ=>?_);have HQ:=Lib.hid hQ;clear hQ;go_wp2_with fail;go_region
 all_goals go_wp2_with fail
 all_goals refine(HS.out _ (by first|exact(below3 (w.setCell ⟨mc,7,none⟩ (.int .i64 x.n)) _ _ _).drew|exact(below2 (w.setCell ⟨mc,7,none⟩ (.int .i64 x.n)) _ _).drew.trans ((below1 _ _).mono (by simp;omega)))).mono ?_
 all_goals rintro e w' ⟨rfl,hm',hw'⟩
 all_goals have HM:=Lib.hid hm'
 all_goals have HW:=Lib.hid hw'
 all_goals clear hm' hw'
 all_goals go_wp2_with fail
 all_goals refine HQ.out _ _ _ ?_
 all_goals exact bodyPost_ret (v:= .bool false) (by simp[results,Tryz.results39,go_sem]) rfl ⟨rfl,own,fun _ h=>h,fun _ h=>Or.inl h,HM.out,(fun h=>Bool.noConfusion h),(((Wr.cell1 w mc 7 _).trans (Wr.of_below (F:=fun _=>False) (below3 (w.setCell ⟨mc,7,none⟩ (.int .i64 x.n)) _ _ _).drew) (fun i hi=>hi.elim)).trans HW.out (fun i hi=>Or.inl hi)).mono (fun i hi=>Or.inl (Or.inl (by have:i=mc:=hi;rw[this];exact HMI.out)))⟩
end Go.Proofs.YtlenilbkifofjaaGreatDoor
