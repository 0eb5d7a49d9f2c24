/- gantletref14: get, nothing more coming in. Conditions: as stated. -/
import Derived.Test.YtlenilbkifofjaaGreatDoorRDoesBZz
import Derived.Test.YtlenilbkifofjaaGreatDoorQ10Zz
import Derived.BigRegion
set_option linter.unusedVariables false
set_option linter.unusedSimpArgs false
set_option maxHeartbeats 8000000
set_option maxRecDepth 100000
namespace Go.Proofs.YtlenilbkifofjaaGreatDoor
open Go.RowKit
theorem rdoes_get0(base mc fb tb:Nat)(own:Nat→Prop)(P:Value×Value×Value×Value)(lv:Value)(fuel:Int)(s:St)(tp:List V)(lo:List Nat)(R:CallR)(m:Nat)(a b n:Int)(AV:Value)(l:List Int)(w:World)
  (h:RMach w base mc own P fuel s)(hF:RFrame w fb tb tp lv lo)(hO:OffAt base own fb tb lv)(hmt:m<tp.length)(hi:s.inp=[]):
  Calls Tryz.prog 39 #[.pointer (some ⟨mc,0,none⟩),.pointer (some ⟨fb,0,none⟩),.agg #[.int .i64 12,.int .i64 (m:Int),.int .i64 a,.int .i64 b,.int .i64 n,AV]] w fun e w'=>RSays base mc P fuel fb tb lv lo own (afterF R lo s tp (stepI ⟨12,(m:Int),a,b,n,l⟩)) w e w':=by
 rw[afterF_get];have hg:getF s=(0,s):=by unfold getF;rw[hi]
 rw[hg];clear hg;have HE:=Lib.hid (fun W=>rend_new (W:=W) h hF hO m (⟨0,0⟩:V) (.int .i64 0) (by first|rfl|simp));have f0:=hF.row.cell (j:=0) rfl;have hfb:=hF.row.lt;obtain⟨cs,hr,hcs,hvs⟩:=hF.temps;have t0:=hr.free (m*2);have t1:=hr.free (m*2+1);have hv:=hvs m _ (List.getElem?_eq_getElem hmt);have v0:=hr.cell hv.1;have v1:=hr.cell hv.2;have htl:=hr.lt;have hne:fb≠tb:=fun e=>hF.row.ne hr (by decide) e;have hfew:=hF.few;have hml:(m:Int)<(tp.length:Int):=by omega
 have hm0:decide ((0:Int)≤(m:Int))=true:=by simp
 have hsz:cs.size=tp.length*2:=hcs;obtain⟨inv,outv,memv,rb,hm⟩:=id h;obtain⟨A,cap,hv2,_,_,_⟩:=id hm.rest.inp;rw[hi,List.length_nil]at hv2;subst hv2;have m4:w.cell? ⟨mc,4,none⟩=some (.slice A 0 cap):=hm.row.cell rfl;have hml:=hm.lt;have hml1:mc<w.heap.size+1:=by omega
 clear hm hi;clear h hF hO hr hvs hv;go_enter Tryz.func39,Tryz.ntmps39;refine wp_letter (fun Q hQ=>?_);have HQ:=Lib.hid hQ;clear hQ;go_wp2_with fail;go_region
 all_goals go_wp2_with fail
 all_goals refine HQ.out _ _ _ ?_
 all_goals exact bodyPost_ret (v:= .bool true) (by simp[results,Tryz.results39,go_sem]) rfl (by have E:=HE.out _ (below2 _ (.cells #[.int .i64 12,.int .i64 (m:Int),.int .i64 a,.int .i64 b,.int .i64 n,AV] 43) (.cells #[.int .i64 0,.int .i64 0] 70)).drew;exact⟨rfl,own,fun _ h=>h,fun _ h=>Or.inl h,E.1,fun _=>E.2.1,E.2.2⟩)
end Go.Proofs.YtlenilbkifofjaaGreatDoor
