/- gantletref14: get, a number coming in. Conditions: as stated. -/
import Derived.Test.YtlenilbkifofjaaGreatDoorRDoesCZz
import Derived.BigRegion
set_option linter.unusedVariables false
set_option linter.unusedSimpArgs false
set_option maxHeartbeats 8000000
set_option maxRecDepth 100000
namespace Go.Proofs.YtlenilbkifofjaaGreatDoor
open Go.RowKit
theorem RMachAt.setIn{w:World}{base mc:Nat}{own:Nat→Prop}{P:Value×Value×Value×Value}{fuel:Int}{s:St}{inv outv memv:Value}{rb:Nat→Nat}(h:RMachAt w base mc own P fuel s inv outv memv rb)(v:Value)(l:List Int)
  (hl:InW w base v l):RMachAt (w.setCell ⟨mc,4,none⟩ v) base mc own P fuel {s with inp:=l} v outv memv rb:=by
 obtain⟨hr,hm,hs⟩:=h;have hb:=(hs.own mc hm)
 have hw:Wr (fun k=>k=mc) w (w.setCell ⟨mc,4,none⟩ v):=Wr.setCell w ⟨mc,4,none⟩ v rfl;have h':=hs.wrR hw (fun k hk=>by subst hk;exact⟨hb.1,fun _=>⟨_,hr⟩⟩) (by omega);exact⟨hr.set 4 v,hm,⟨hl.below (fun b o hb'=>World.cell?_of_block (a:=⟨b,o,none⟩) (hw.block b (by omega) (fun hf=>by omega))),h'.out,h'.outo,h'.mem,h'.memo,h'.own⟩⟩
theorem rend_in{base mc fb tb:Nat}{own:Nat→Prop}{P:Value×Value×Value×Value}{fuel:Int}{s:St}{tp:List V}{inv outv memv lv:Value}{rb:Nat→Nat}{lo:List Nat}{w W:World}(h:RMachAt w base mc own P fuel s inv outv memv rb)(hF:RFrame w fb tb tp lv lo)(hO:OffAt base own fb tb lv)(m:Nat)(v:V)(a iv:Value)(l:List Int)(hl:InW w base iv l)(ha:a= .int .i64 v.obj)(hb:Below (((w.setCell ⟨mc,4,none⟩ iv).setCell ⟨tb,m*2,none⟩ a).setCell ⟨tb,m*2+1,none⟩ (.int .i64 v.n)).heap.size (((w.setCell ⟨mc,4,none⟩ iv).setCell ⟨tb,m*2,none⟩ a).setCell ⟨tb,m*2+1,none⟩ (.int .i64 v.n)) W):
  RMach W base mc own P fuel {s with inp:=l}∧RFrame W fb tb (tp.set m v) lv lo∧Wr (fun b=>own b∨b=tb) w W:=by
 have hmi:=h.mine;have hw:=Wr.cell1 w mc 4 iv;have hF1:=hF.wr hw (fun e=>hO.fb.1 (by rw[e];exact hmi)) (fun e=>hO.tb.1 (by rw[e];exact hmi)) (fun g hg e=>(hO.lv g hg).1 (by rw[e];exact hmi));have E:=rend_new ⟨_,_,_,_,h.setIn iv l hl⟩ hF1 hO m v a ha hb;exact⟨E.1,E.2.1,(hw.mono (G:=fun b=>own b∨b=tb) (fun i hi=>Or.inl (Or.inl (by have:i=mc:=hi;rw[this];exact hmi)))).trans E.2.2 (fun i hi=>Or.inl hi)⟩
theorem rdoes_get1(base mc fb tb:Nat)(own:Nat→Prop)(P:Value×Value×Value×Value)(lv:Value)(fuel:Int)(s:St)(tp:List V)(lo:List Nat)(R:CallR)(m:Nat)(y:Int)(r:List Int)(a b n:Int)(AV:Value)(l:List Int)(w:World)
  (h:RMach w base mc own P fuel s)(hF:RFrame w fb tb tp lv lo)(hO:OffAt base own fb tb lv)(hmt:m<tp.length)(hi:s.inp=y::r):
  Calls Tryz.prog 39 #[.pointer (some ⟨mc,0,none⟩),.pointer (some ⟨fb,0,none⟩),.agg #[.int .i64 12,.int .i64 (m:Int),.int .i64 a,.int .i64 b,.int .i64 n,AV]] w fun e w'=>RSays base mc P fuel fb tb lv lo own (afterF R lo s tp (stepI ⟨12,(m:Int),a,b,n,l⟩)) w e w':=by
 rw[afterF_get];have hg:getF s=(y,{s with inp:=r}):=by unfold getF;rw[hi]
 rw[hg];clear hg;obtain⟨inv,outv,memv,rb,hm⟩:=h;obtain⟨A,cap,hv2,hle,hcap,h3⟩:=id hm.rest.inp;rw[hi]at hv2 hle h3;obtain⟨ib,ioff,rfl,hib,hce⟩:=h3 (by simp);simp only[List.length_cons]at hv2 hle;subst hv2;have m4:w.cell? ⟨mc,4,none⟩=some (.slice (some ⟨ib,ioff,none⟩) (r.length+1) cap):=hm.row.cell rfl;have n4:=hm.row.free 4;have hml:=hm.lt;have hml1:mc<w.heap.size+1:=by omega
 have hmo:=hm.rest.own mc hm.mine;have i0:=(hce 0 y rfl).1;simp only[Nat.add_zero]at i0;have hibl:ib<w.heap.size:=by omega
 have hibl1:ib<w.heap.size+1:=by omega
 have hne1:¬ib=mc:=by omega
 have hrl:r.length≤9223372036854775806:=by omega
 have hlp:decide ((0:Int)<((r.length+1:Nat):Int))=true:=by simp
 have f0:=hF.row.cell (j:=0) rfl;have hfb:=hF.row.lt;obtain⟨cs,hr,hcs,hvs⟩:=hF.temps;have t0:=hr.free (m*2);have t1:=hr.free (m*2+1);have hv:=hvs m _ (List.getElem?_eq_getElem hmt);have v0:=hr.cell hv.1;have v1:=hr.cell hv.2;have htl:=hr.lt;have hne:fb≠tb:=fun e=>hF.row.ne hr (by decide) e;have hne2:¬fb=mc:=fun e=>hO.fb.1 (by rw[e];exact hm.mine);have hne3:¬tb=mc:=fun e=>hO.tb.1 (by rw[e];exact hm.mine);have hfew:=hF.few;have hml2:(m:Int)<(tp.length:Int):=by omega
 have hm0:decide ((0:Int)≤(m:Int))=true:=by simp
 have hsz:cs.size=tp.length*2:=hcs;by_cases hc1:cap=1
 ·subst hc1;obtain rfl:r=[]:=List.eq_nil_of_length_eq_zero (by omega);have HE:=Lib.hid (fun W=>rend_in (W:=W) hm hF hO m ⟨0,y⟩ (.int .i64 0) (.slice (some ⟨ib,ioff,none⟩) 0 0) [] InW.empty rfl);simp only[List.length_nil,Nat.zero_add]at m4 hle;clear hm hF hO hr hvs hv hce hi h3 hmo;go_enter Tryz.func39,Tryz.ntmps39;refine wp_letter (fun Q hQ=>?_);have HQ:=Lib.hid hQ;clear hQ;go_wp2_with fail;go_region
  all_goals go_wp2_with fail
  all_goals refine HQ.out _ _ _ ?_
  all_goals exact bodyPost_ret (v:= .bool true) (by simp[results,Tryz.results39,go_sem]) rfl (by have E:=HE.out _ (below2 _ (.cells #[.int .i64 12,.int .i64 (m:Int),.int .i64 a,.int .i64 b,.int .i64 n,AV] 43) (.cells #[.int .i64 0,.int .i64 y] 70)).drew;exact⟨rfl,own,fun _ h=>h,fun _ h=>Or.inl h,E.1,fun _=>E.2.1,E.2.2⟩)
 ·have HE:=Lib.hid (fun W=>rend_in (W:=W) hm hF hO m ⟨0,y⟩ (.int .i64 0) (.slice (some ⟨ib,ioff+1,none⟩) r.length (cap-1)) r (InW.tail hce hib rfl hle hcap) rfl);clear hm hF hO hr hvs hv hce hi h3 hmo;go_enter Tryz.func39,Tryz.ntmps39;refine wp_letter (fun Q hQ=>?_);have HQ:=Lib.hid hQ;clear hQ;go_wp2_with fail;go_region
  all_goals go_wp2_with fail
  all_goals refine HQ.out _ _ _ ?_
  all_goals exact bodyPost_ret (v:= .bool true) (by simp[results,Tryz.results39,go_sem]) rfl (by have E:=HE.out _ (below2 _ (.cells #[.int .i64 12,.int .i64 (m:Int),.int .i64 a,.int .i64 b,.int .i64 n,AV] 43) (.cells #[.int .i64 0,.int .i64 y] 70)).drew;exact⟨rfl,own,fun _ h=>h,fun _ h=>Or.inl h,E.1,fun _=>E.2.1,E.2.2⟩)
end Go.Proofs.YtlenilbkifofjaaGreatDoor
