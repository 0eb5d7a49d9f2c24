/- gantletref14: a call's frame; what an instruction answers; a label; a number, a global's place. Conditions: as stated. -/
import Derived.Test.YtlenilbkifofjaaGreatDoorQ08Zz
import Derived.Test.YtlenilbkifofjaaGreatDoorQ10Zz
import Derived.Test.YtlenilbkifofjaaGreatDoorQ02Zz
import Derived.BigRegion
set_option linter.unusedVariables false
set_option linter.unusedSimpArgs false
set_option maxHeartbeats 8000000
set_option maxRecDepth 100000
namespace Go.Proofs.YtlenilbkifofjaaGreatDoor
open Go.RowKit
structure RFrame (w:World) (fb tb:Nat) (tp:List V) (lv:Value) (lo:List Nat):Prop where
 row:Row w fb #[.slice (some ⟨tb,0,none⟩) tp.length tp.length,lv] 107
 temps:VRow w tb tp
 locs:w.ownsRow 0 3 1 lv lo.length (lo.map fun x=> .int .i64 (x:Nat))
 apart:∀g,lv.ownBlock=some g→g≠tb
 few:tp.length≤1000000
 fewl:lo.length≤1000000
theorem RFrame.below{w w':World}{fb tb:Nat}{tp:List V}{lv:Value}{lo:List Nat}(h:RFrame w fb tb tp lv lo)(hb:Below w.heap.size w w'):RFrame w' fb tb tp lv lo:=by
 obtain⟨h1,⟨cs,h2,h3⟩,h4,h5,h6,h7⟩:=h;exact⟨h1.below hb h1.lt,⟨cs,h2.below hb h2.lt,h3⟩,ownsRow_wr h4 (Wr.of_below (F:=fun _=>False) hb) (fun _ _ h=>h),h5,h6,h7⟩
theorem RFrame.wr{F:Nat→Prop}{w w':World}{fb tb:Nat}{tp:List V}{lv:Value}{lo:List Nat}(h:RFrame w fb tb tp lv lo)(hb:Wr F w w')(h1:¬F fb)(h2:¬F tb)(h3:∀g,lv.ownBlock=some g→¬F g):RFrame w' fb tb tp lv lo:=by
 obtain⟨r1,⟨cs,r2,r3⟩,r4,r5,r6,r7⟩:=h;exact⟨r1.wr hb h1,⟨cs,r2.wr hb h2,r3⟩,ownsRow_wr r4 hb h3,r5,r6,r7⟩
def RSays(base mc:Nat)(P:Value×Value×Value×Value)(fuel:Int)(fb tb:Nat)(lv:Value)(lo:List Nat)(own:Nat→Prop)(r:Bool×St×List V)(w:World)(e:Ending)(w':World):Prop:=
 e= .returned (.bool r.1)∧∃own':Nat→Prop,(∀k,own k→own' k)∧(∀k,own' k→own k∨w.heap.size≤k)∧RMach w' base mc own' P fuel r.2.1∧(r.1=true→RFrame w' fb tb r.2.2 lv lo)∧Wr (fun b=>own b∨b=tb) w w'
theorem RFrame.set{w:World}{fb tb:Nat}{tp:List V}{lv:Value}{lo:List Nat}(h:RFrame w fb tb tp lv lo)(k:Nat)(v:V):
  RFrame ((w.setCell ⟨tb,k*2,none⟩ (.int .i64 v.obj)).setCell ⟨tb,k*2+1,none⟩ (.int .i64 v.n)) fb tb (tp.set k v) lv lo:=by
 obtain⟨h1,h2,h3,h4,h5,h6⟩:=h;have hw:=wr_pair w tb (k*2) (k*2+1) (.int .i64 v.obj) (.int .i64 v.n);obtain⟨cs,hr,hv⟩:=id h2;refine⟨?_,h2.set k v,ownsRow_wr h3 hw h4,h4,by simpa using h5,h6⟩;rw[List.length_set];exact h1.wr hw (fun e=>h1.ne hr (by decide) e)
theorem rend_set{base mc fb tb:Nat}{own:Nat→Prop}{P:Value×Value×Value×Value}{fuel:Int}{s:St}{tp:List V}{lv:Value}{lo:List Nat}{w W:World}(h:RMach w base mc own P fuel s)(hF:RFrame w fb tb tp lv lo)(hO:OffAt base own fb tb lv)(hb2:Below w.heap.size w W)(m:Nat)(v:V):
  RMach ((W.setCell ⟨tb,m*2,none⟩ (.int .i64 v.obj)).setCell ⟨tb,m*2+1,none⟩ (.int .i64 v.n)) base mc own P fuel s∧RFrame ((W.setCell ⟨tb,m*2,none⟩ (.int .i64 v.obj)).setCell ⟨tb,m*2+1,none⟩ (.int .i64 v.n)) fb tb (tp.set m v) lv lo∧
  Wr (fun b=>own b∨b=tb) w ((W.setCell ⟨tb,m*2,none⟩ (.int .i64 v.obj)).setCell ⟨tb,m*2+1,none⟩ (.int .i64 v.n)):=by
 have hwp:=wr_pair W tb (m*2) (m*2+1) (.int .i64 v.obj) (.int .i64 v.n);exact⟨(h.below hb2).wr hwp (fun k hk=>(by subst hk;exact⟨hO.tb.2,hO.tb.1⟩)),(hF.below hb2).set m v,
  (Wr.of_below (F:=fun b=>own b∨b=tb) hb2).trans hwp (fun i hi=>Or.inl (Or.inr hi))⟩
theorem rend_new{base mc fb tb:Nat}{own:Nat→Prop}{P:Value×Value×Value×Value}{fuel:Int}{s:St}{tp:List V}{lv:Value}{lo:List Nat}{w W:World}(h:RMach w base mc own P fuel s)(hF:RFrame w fb tb tp lv lo)(hO:OffAt base own fb tb lv)(m:Nat)(v:V)(a:Value)(ha:a= .int .i64 v.obj)(hb:Below ((w.setCell ⟨tb,m*2,none⟩ a).setCell ⟨tb,m*2+1,none⟩ (.int .i64 v.n)).heap.size ((w.setCell ⟨tb,m*2,none⟩ a).setCell ⟨tb,m*2+1,none⟩ (.int .i64 v.n)) W):
  RMach W base mc own P fuel s∧RFrame W fb tb (tp.set m v) lv lo∧Wr (fun b=>own b∨b=tb) w W:=by
 subst ha;have E:=rend_set h hF hO (Below.refl _ _) m v;exact⟨E.1.below hb,E.2.1.below hb,E.2.2.trans (Wr.of_below (F:=fun _=>False) hb) (fun _ h=>h.elim)⟩
theorem rdoes_label(base mc fb tb:Nat)(own:Nat→Prop)(P:Value×Value×Value×Value)(lv:Value)(fuel:Int)(s:St)(tp:List V)(lo:List Nat)(R:CallR)(dst a b n:Int)(AV:Value)(l:List Int)(w:World)
  (h:RMach w base mc own P fuel s)(hF:RFrame w fb tb tp lv lo)(hO:OffAt base own fb tb lv):
  Calls Tryz.prog 39 #[.pointer (some ⟨mc,0,none⟩),.pointer (some ⟨fb,0,none⟩),.agg #[.int .i64 14,.int .i64 dst,.int .i64 a,.int .i64 b,.int .i64 n,AV]] w fun e w'=>RSays base mc P fuel fb tb lv lo own (afterF R lo s tp (stepI ⟨14,dst,a,b,n,l⟩)) w e w':=by
 have haf:afterF R lo s tp (stepI ⟨14,dst,a,b,n,l⟩)=(true,s,tp):=by
  unfold afterF;rw[show(stepI ⟨14,dst,a,b,n,l⟩).args=[conT 0]from rfl,evalTs_one,evalT_con];rfl
 rw[haf];clear haf;have HB1:=Lib.hid (below2 w (.cells #[.int .i64 14,.int .i64 dst,.int .i64 a,.int .i64 b,.int .i64 n,AV] 43) (.cells #[.int .i64 0,.int .i64 0] 70));have HH:=Lib.hid h;have HF:=Lib.hid hF;clear h hF hO;go_enter Tryz.func39,Tryz.ntmps39;refine wp_letter (fun Q hQ=>?_);have HQ:=Lib.hid hQ;clear hQ;go_wp2_with fail;refine HQ.out _ _ _ ?_;exact bodyPost_ret (v:= .bool true) (by simp[results,Tryz.results39,go_sem]) rfl ⟨rfl,own,fun _ h=>h,fun _ h=>Or.inl h,HH.out.below HB1.out,fun _=>HF.out.below HB1.out,Wr.of_below HB1.out⟩
theorem rdoes_li(base mc fb tb:Nat)(own:Nat→Prop)(P:Value×Value×Value×Value)(lv:Value)(fuel:Int)(s:St)(tp:List V)(lo:List Nat)(R:CallR)(m:Nat)(a b n:Int)(AV:Value)(l:List Int)(w:World)
  (h:RMach w base mc own P fuel s)(hF:RFrame w fb tb tp lv lo)(hO:OffAt base own fb tb lv)(hmt:m<tp.length):
  Calls Tryz.prog 39 #[.pointer (some ⟨mc,0,none⟩),.pointer (some ⟨fb,0,none⟩),.agg #[.int .i64 1,.int .i64 (m:Int),.int .i64 a,.int .i64 b,.int .i64 n,AV]] w fun e w'=>RSays base mc P fuel fb tb lv lo own (afterF R lo s tp (stepI ⟨1,(m:Int),a,b,n,l⟩)) w e w':=by
 have haf:afterF R lo s tp (stepI ⟨1,(m:Int),a,b,n,l⟩)=(true,s,tp.set m (⟨0,n⟩:V)):=by
  unfold afterF;rw[show stepI ⟨1,(m:Int),a,b,n,l⟩=⟨1,(m:Int),0,0,[conT n]⟩from rfl,evalTs_one];rw[evalT_con];show actF R s tp _ [_]=_;unfold actF;rw[if_pos rfl,setT_natV];rfl
 rw[haf];clear haf;have HE:=Lib.hid (fun W=>rend_new (W:=W) h hF hO m (⟨0,n⟩:V) (.int .i64 0) (by first|rfl|simp));have f0:=hF.row.cell (j:=0) rfl;have hfb:=hF.row.lt;obtain⟨cs,hr,hcs,hvs⟩:=hF.temps;have t0:=hr.free (m*2);have t1:=hr.free (m*2+1);have hv:=hvs m _ (List.getElem?_eq_getElem hmt);have v0:=hr.cell hv.1;have v1:=hr.cell hv.2;have htl:=hr.lt;have hne:fb≠tb:=fun e=>hF.row.ne hr (by decide) e;have hfew:=hF.few;have hml:(m:Int)<(tp.length:Int):=by omega
 have hm0:decide ((0:Int)≤(m:Int))=true:=by simp
 have hsz:cs.size=tp.length*2:=hcs;clear h hF hO hr hvs hv;go_enter Tryz.func39,Tryz.ntmps39;refine wp_letter (fun Q hQ=>?_);have HQ:=Lib.hid hQ;clear hQ;go_wp2_with fail;go_region
 all_goals go_wp2_with fail
 all_goals refine HQ.out _ _ _ ?_
 all_goals exact bodyPost_ret (v:= .bool true) (by simp[results,Tryz.results39,go_sem]) rfl (by have E:=HE.out _ (below2 _ (.cells #[.int .i64 1,.int .i64 (m:Int),.int .i64 a,.int .i64 b,.int .i64 n,AV] 43) (.cells #[.int .i64 0,.int .i64 n] 70)).drew;exact⟨rfl,own,fun _ h=>h,fun _ h=>Or.inl h,E.1,fun _=>E.2.1,E.2.2⟩)
theorem rdoes_glo(base mc fb tb:Nat)(own:Nat→Prop)(P:Value×Value×Value×Value)(lv:Value)(fuel:Int)(s:St)(tp:List V)(lo:List Nat)(R:CallR)(m q:Nat)(a b:Int)(AV:Value)(l:List Int)(w:World)
  (h:RMach w base mc own P fuel s)(hF:RFrame w fb tb tp lv lo)(hO:OffAt base own fb tb lv)(hmt:m<tp.length)(hq:q≤1000000):
  Calls Tryz.prog 39 #[.pointer (some ⟨mc,0,none⟩),.pointer (some ⟨fb,0,none⟩),.agg #[.int .i64 4,.int .i64 (m:Int),.int .i64 a,.int .i64 b,.int .i64 (q:Int),AV]] w fun e w'=>RSays base mc P fuel fb tb lv lo own (afterF R lo s tp (stepI ⟨4,(m:Int),a,b,(q:Int),l⟩)) w e w':=by
 have haf:afterF R lo s tp (stepI ⟨4,(m:Int),a,b,(q:Int),l⟩)=(true,s,tp.set m (⟨q+1,0⟩:V)):=by
  unfold afterF;rw[show stepI ⟨4,(m:Int),a,b,(q:Int),l⟩=⟨1,(m:Int),0,0,[.node 4 (q:Int) []]⟩from rfl,evalTs_one];rw[evalT,evalTs];show actF R s tp _ [_]=_;unfold actF;rw[if_pos rfl,setT_natV];rfl
 rw[haf];clear haf;have HE:=Lib.hid (fun W=>rend_new (W:=W) h hF hO m (⟨q+1,0⟩:V) (.int .i64 ((q:Int)+1)) (by first|rfl|simp));have f0:=hF.row.cell (j:=0) rfl;have hfb:=hF.row.lt;obtain⟨cs,hr,hcs,hvs⟩:=hF.temps;have t0:=hr.free (m*2);have t1:=hr.free (m*2+1);have hv:=hvs m _ (List.getElem?_eq_getElem hmt);have v0:=hr.cell hv.1;have v1:=hr.cell hv.2;have htl:=hr.lt;have hne:fb≠tb:=fun e=>hF.row.ne hr (by decide) e;have hfew:=hF.few;have hml:(m:Int)<(tp.length:Int):=by omega
 have hm0:decide ((0:Int)≤(m:Int))=true:=by simp
 have hsz:cs.size=tp.length*2:=hcs;clear h hF hO hr hvs hv;go_enter Tryz.func39,Tryz.ntmps39;refine wp_letter (fun Q hQ=>?_);have HQ:=Lib.hid hQ;clear hQ;go_wp2_with fail;go_region
 all_goals go_wp2_with fail
 all_goals refine HQ.out _ _ _ ?_
 all_goals exact bodyPost_ret (v:= .bool true) (by simp[results,Tryz.results39,go_sem]) rfl (by have E:=HE.out _ (below2 _ (.cells #[.int .i64 4,.int .i64 (m:Int),.int .i64 a,.int .i64 b,.int .i64 (q:Int),AV] 43) (.cells #[.int .i64 ((q:Int)+1),.int .i64 0] 70)).drew;exact⟨rfl,own,fun _ h=>h,fun _ h=>Or.inl h,E.1,fun _=>E.2.1,E.2.2⟩)
theorem rdoes_move(base mc fb tb:Nat)(own:Nat→Prop)(P:Value×Value×Value×Value)(lv:Value)(fuel:Int)(s:St)(tp:List V)(lo:List Nat)(R:CallR)(m q:Nat)(x:V)(b n:Int)(AV:Value)(l:List Int)(w:World)
  (h:RMach w base mc own P fuel s)(hF:RFrame w fb tb tp lv lo)(hO:OffAt base own fb tb lv)(hmt:m<tp.length)(hq:q<tp.length)(hx:tp[q]? =some x):
  Calls Tryz.prog 39 #[.pointer (some ⟨mc,0,none⟩),.pointer (some ⟨fb,0,none⟩),.agg #[.int .i64 2,.int .i64 (m:Int),.int .i64 (q:Int),.int .i64 b,.int .i64 n,AV]] w fun e w'=>RSays base mc P fuel fb tb lv lo own (afterF R lo s tp (stepI ⟨2,(m:Int),(q:Int),b,n,l⟩)) w e w':=by
 have haf:afterF R lo s tp (stepI ⟨2,(m:Int),(q:Int),b,n,l⟩)=(true,s,tp.set m x):=by
  unfold afterF;rw[show stepI ⟨2,(m:Int),(q:Int),b,n,l⟩=⟨1,(m:Int),0,0,[tmpT (q:Int)]⟩from rfl,evalTs_one];rw[evalT_tmp,Int.toNat_natCast,List.getD_eq_getElem?_getD,hx];show actF R s tp _ [_]=_;unfold actF;rw[if_pos rfl,setT_natV];rfl
 rw[haf];clear haf;have HE:=Lib.hid (fun W=>rend_new (W:=W) h hF hO m x (.int .i64 (x.obj:Int)) (by first|rfl|simp));have f0:=hF.row.cell (j:=0) rfl;have hfb:=hF.row.lt;obtain⟨cs,hr,hcs,hvs⟩:=hF.temps;have t0:=hr.free (m*2);have t1:=hr.free (m*2+1);have hv:=hvs m _ (List.getElem?_eq_getElem hmt);have v0:=hr.cell hv.1;have v1:=hr.cell hv.2;have htl:=hr.lt;have hne:fb≠tb:=fun e=>hF.row.ne hr (by decide) e;have hfew:=hF.few;have hml:(m:Int)<(tp.length:Int):=by omega
 have hm0:decide ((0:Int)≤(m:Int))=true:=by simp
 have hsz:cs.size=tp.length*2:=hcs;have hx:=hvs q x hx;have x0:=hr.cell hx.1;have x1:=hr.cell hx.2;have hql:(q:Int)<(tp.length:Int):=by omega
 clear h hF hO hr hvs hv;go_enter Tryz.func39,Tryz.ntmps39;refine wp_letter (fun Q hQ=>?_);have HQ:=Lib.hid hQ;clear hQ;go_wp2_with fail;go_region
 all_goals go_wp2_with fail
 all_goals go_region
 all_goals go_wp2_with fail
 all_goals refine HQ.out _ _ _ ?_
 all_goals exact bodyPost_ret (v:= .bool true) (by simp[results,Tryz.results39,go_sem]) rfl (by have E:=HE.out _ (below2 _ (.cells #[.int .i64 2,.int .i64 (m:Int),.int .i64 (q:Int),.int .i64 b,.int .i64 n,AV] 43) (.cells #[.int .i64 (x.obj:Int),.int .i64 x.n] 70)).drew.drew;exact⟨rfl,own,fun _ h=>h,fun _ h=>Or.inl h,E.1,fun _=>E.2.1,E.2.2⟩)
theorem rdoes_loc(base mc fb tb:Nat)(own:Nat→Prop)(P:Value×Value×Value×Value)(lv:Value)(fuel:Int)(s:St)(tp:List V)(lo:List Nat)(R:CallR)(m q y:Nat)(a b:Int)(AV:Value)(l:List Int)(w:World)
  (h:RMach w base mc own P fuel s)(hF:RFrame w fb tb tp lv lo)(hO:OffAt base own fb tb lv)(hmt:m<tp.length)(hq:q<lo.length)(hy:lo[q]? =some y):
  Calls Tryz.prog 39 #[.pointer (some ⟨mc,0,none⟩),.pointer (some ⟨fb,0,none⟩),.agg #[.int .i64 3,.int .i64 (m:Int),.int .i64 a,.int .i64 b,.int .i64 (q:Int),AV]] w fun e w'=>RSays base mc P fuel fb tb lv lo own (afterF R lo s tp (stepI ⟨3,(m:Int),a,b,(q:Int),l⟩)) w e w':=by
 have haf:afterF R lo s tp (stepI ⟨3,(m:Int),a,b,(q:Int),l⟩)=(true,s,tp.set m (⟨y,0⟩:V)):=by
  unfold afterF;rw[show stepI ⟨3,(m:Int),a,b,(q:Int),l⟩=⟨1,(m:Int),0,0,[.node 3 (q:Int) []]⟩from rfl,evalTs_one];rw[evalT,evalTs];have hg:lo.getD ((q:Int).toNat) 0=y:=by rw[Int.toNat_natCast,List.getD_eq_getElem?_getD,hy];rfl
  rw[←hg];show actF R s tp _ [_]=_;unfold actF;rw[if_pos rfl,setT_natV];rfl
 rw[haf];clear haf;have HE:=Lib.hid (fun W=>rend_new (W:=W) h hF hO m (⟨y,0⟩:V) (.int .i64 (y:Int)) (by first|rfl|simp));have f0:=hF.row.cell (j:=0) rfl;have hfb:=hF.row.lt;obtain⟨cs,hr,hcs,hvs⟩:=hF.temps;have t0:=hr.free (m*2);have t1:=hr.free (m*2+1);have hv:=hvs m _ (List.getElem?_eq_getElem hmt);have v0:=hr.cell hv.1;have v1:=hr.cell hv.2;have htl:=hr.lt;have hne:fb≠tb:=fun e=>hF.row.ne hr (by decide) e;have hfew:=hF.few;have hml:(m:Int)<(tp.length:Int):=by omega
 have hm0:decide ((0:Int)≤(m:Int))=true:=by simp
 have hsz:cs.size=tp.length*2:=hcs;obtain⟨LA,lc,hlv⟩:=slice_of_own hF.locs;subst hlv;obtain⟨lb,hLA,_,hlb,l0⟩:=own_cell1 hF.locs (f:=q) (v:= .int .i64 (y:Nat)) (by rw[List.getElem?_map,hy];rfl);subst hLA;simp only[Nat.zero_add]at l0;have f1:=hF.row.cell (j:=1) rfl;have hql:(q:Int)<(lo.length:Int):=by omega
 clear h hF hO hr hvs hv;go_enter Tryz.func39,Tryz.ntmps39;refine wp_letter (fun Q hQ=>?_);have HQ:=Lib.hid hQ;clear hQ;go_wp2_with fail;go_region
 all_goals go_wp2_with fail
 all_goals go_region
 all_goals go_wp2_with fail
 all_goals refine HQ.out _ _ _ ?_
 all_goals exact bodyPost_ret (v:= .bool true) (by simp[results,Tryz.results39,go_sem]) rfl (by have E:=HE.out _ (below2 _ (.cells #[.int .i64 3,.int .i64 (m:Int),.int .i64 a,.int .i64 b,.int .i64 (q:Int),AV] 43) (.cells #[.int .i64 (y:Int),.int .i64 0] 70)).drew.drew;exact⟨rfl,own,fun _ h=>h,fun _ h=>Or.inl h,E.1,fun _=>E.2.1,E.2.2⟩)
end Go.Proofs.YtlenilbkifofjaaGreatDoor
