/- gantletref14: get, a number coming in. Conditions: as stated. -/
import Derived.Test.YtinmgbodgecoeaaGreatQ13Zz
set_option linter.unusedSimpArgs false
set_option linter.unusedVariables false
set_option maxHeartbeats 8000000
set_option maxRecDepth 100000
open Go.Proofs.Tryz
namespace Go.Proofs.YtinmgbodgecoeaaGreat
open Go.RowKit
theorem bK.YF{w:World}{ai mc:Nat}{own:Nat->Prop}{P:Value×Value×Value×Value}{ah:Int}{s:St}{inv outv aU:Value}{rb:Nat->Nat}(h:bK w ai mc own P ah s inv outv aU rb)(v:Value)(l:List Int)
  (hl:uB w ai v l):bK (w.setCell ⟨mc,4,none⟩ v) ai mc own P ah {s with inp:=l} v outv aU rb:=by
 obtain⟨hr,hm,hs⟩:=h;have hb:=(hs.own mc hm)
 have hw:Wr (λk=>k=mc) w (w.setCell ⟨mc,4,none⟩ v):=Wr.setCell w ⟨mc,4,none⟩ v rfl;have h':=hs.TX hw (λk hk=>by subst hk;exact⟨hb.1,λ_=>⟨_,hr⟩⟩) (by omega);exact⟨hr.set 4 v,hm,⟨hl.below (λb o hb'=>World.cell?_of_block (a:=⟨b,o,none⟩) (hw.block b (by omega) (λhf=>by omega))),h'.out,h'.sI,h'.mem,h'.memo,h'.own⟩⟩
theorem Li{ai mc fb tb:Nat}{own:Nat->Prop}{P:Value×Value×Value×Value}{ah:Int}{s:St}{tp:List V}{inv outv aU lv:Value}{rb:Nat->Nat}{lo:List Nat}{w W:World}(h:bK w ai mc own P ah s inv outv aU rb)(hF:bZ w fb tb tp lv lo)(hO:iD ai own fb tb lv)(m:Nat)(v:V)(a iv:Value)(l:List Int)(hl:uB w ai iv l)(ha:a= .int .i64 v.obj)(hb:Below (((w.setCell ⟨mc,4,none⟩ iv).setCell ⟨tb,m*2,none⟩ a).setCell ⟨tb,m*2+1,none⟩ (.int .i64 v.n)).heap.size (((w.setCell ⟨mc,4,none⟩ iv).setCell ⟨tb,m*2,none⟩ a).setCell ⟨tb,m*2+1,none⟩ (.int .i64 v.n)) W):
  bG W ai mc own P ah {s with inp:=l}/\bZ W fb tb (tp.set m v) lv lo/\Wr (λb=>own b\/b=tb) w W:=by
 have PD:=h.mine;have hw:=Wr.cell1 w mc 4 iv;have zx:=hF.wr hw (λe=>hO.fb.1 (by rw[e];exact PD)) (λe=>hO.tb.1 (by rw[e];exact PD)) (λg hg e=>(hO.lv g hg).1 (by rw[e];exact PD));have E:=rq ⟨_,_,_,_,h.YF iv l hl⟩ zx hO m v a ha hb;exact⟨E.1,E.2.1,(hw.mono (G:=λb=>own b\/b=tb) (λi hi=>aK (aK (by have:i=mc:=hi;rw[this];exact PD)))).trans E.2.2 (λi hi=>aK hi)⟩
theorem Jy(ai mc fb tb:Nat)(own:Nat->Prop)(P:Value×Value×Value×Value)(lv:Value)(ah:Int)(s:St)(tp:List V)(lo:List Nat)(R:bT)(m:Nat)(y:Int)(r:List Int)(a b n:Int)(AV:Value)(l:List Int)(w:World)
  (h:bG w ai mc own P ah s)(hF:bZ w fb tb tp lv lo)(hO:iD ai own fb tb lv)(xu:m<tp.length)(hi:s.inp=y::r):
  Calls prog 54 #[.pointer (some ⟨mc,0,none⟩),.pointer (some ⟨fb,0,none⟩),.agg #[.int .i64 12,.int .i64 (m:Int),.int .i64 a,.int .i64 b,.int .i64 n,AV]] w λe w'=>lR ai mc P ah fb tb lv lo own (aW R lo s tp (aT ⟨12,(m:Int),a,b,n,l⟩)) w e w':=by
 rw[uX];have hg:zy s=(y,{s with inp:=r}):=by unfold zy;rw[hi]
 rw[hg];clear hg;obtain⟨inv,outv,aU,rb,hm⟩:=h;obtain⟨A,aA,hv2,hle,hcap,h3⟩:=id hm.rest.inp;rw[hi]at hv2 hle h3;obtain⟨ib,ioff,rfl,hib,hce⟩:=h3 (by simp);simp only[List.length_cons]at hv2 hle;subst hv2;have m4:w.cell? ⟨mc,4,none⟩=some (.slice (some ⟨ib,ioff,none⟩) (r.length+1) aA):=hm.row.cell rfl;have n4:=hm.row.free 4;have uQ:=hm.lt;have U2:mc<w.heap.size+1:=by omega
 have hmo:=hm.rest.own mc hm.mine;have i0:=(hce 0 y rfl).1;simp only[Nat.add_zero]at i0;have hibl:ib<w.heap.size:=by omega
 have hibl1:ib<w.heap.size+1:=by omega
 have GF:¬ib=mc:=by omega
 have hrl:r.length<=9223372036854775806:=by omega
 have hlp:decide ((0:Int)<((r.length+1:Nat):Int))=true:=by simp
 have f0:=hF.row.cell (j:=0) rfl;have hfb:=hF.row.lt;obtain⟨cs,hr,hcs,hvs⟩:=hF.bN;have t0:=hr.free (m*2);have t1:=hr.free (m*2+1);have hv:=hvs m _ (List.getElem?_eq_getElem xu);have v0:=hr.cell hv.1;have v1:=hr.cell hv.2;have htl:=hr.lt;have hne:fb≠tb:=λe=>hF.row.ne hr (by decide) e;have CY:¬fb=mc:=λe=>hO.fb.1 (by rw[e];exact hm.mine);have hne3:¬tb=mc:=λe=>hO.tb.1 (by rw[e];exact hm.mine);have sO:=hF.few;have hml2:(m:Int)<(tp.length:Int):=by omega
 have hm0:decide ((0:Int)<=(m:Int))=true:=by simp
 have hsz:cs.size=tp.length*2:=hcs;by_cases hc1:aA=1
 ·subst hc1;obtain rfl:r=[]:=List.eq_nil_of_length_eq_zero (by omega);have HE:=ae (λW=>Li (W:=W) hm hF hO m ⟨0,y⟩ (.int .i64 0) (.slice (some ⟨ib,ioff,none⟩) 0 0) [] uB.empty rfl);simp only[List.length_nil,Nat.zero_add]at m4 hle;clear hm hF hO hr hvs hv hce hi h3 hmo;go_enter func54,ntmps54;refine aj λQ HQ=>?_;go_wp2_with fail;go_region
  all_goals go_wp2_with fail
  all_goals refine HQ _ _ _ ?_
  all_goals exact aS (v:= .bool true) (by simp[results,results54,go_sem]) rfl (by have E:=HE _ (aB _ (.cells #[.int .i64 12,.int .i64 (m:Int),.int .i64 a,.int .i64 b,.int .i64 n,AV] 94) (.cells #[.int .i64 0,.int .i64 y] 75)).drew;exact⟨rfl,own,λ_ h=>h,λ_ h=>aK h,E.1,λ_=>E.2.1,E.2.2⟩)
 ·have HE:=ae (λW=>Li (W:=W) hm hF hO m ⟨0,y⟩ (.int .i64 0) (.slice (some ⟨ib,ioff+1,none⟩) r.length (aA-1)) r (uB.tail hce hib rfl hle hcap) rfl);clear hm hF hO hr hvs hv hce hi h3 hmo;go_enter func54,ntmps54;refine aj λQ HQ=>?_;go_wp2_with fail;go_region
  all_goals go_wp2_with fail
  all_goals refine HQ _ _ _ ?_
  all_goals exact aS (v:= .bool true) (by simp[results,results54,go_sem]) rfl (by have E:=HE _ (aB _ (.cells #[.int .i64 12,.int .i64 (m:Int),.int .i64 a,.int .i64 b,.int .i64 n,AV] 94) (.cells #[.int .i64 0,.int .i64 y] 75)).drew;exact⟨rfl,own,λ_ h=>h,λ_ h=>aK h,E.1,λ_=>E.2.1,E.2.2⟩)
end Go.Proofs.YtinmgbodgecoeaaGreat
