/- gantletref14: a call's frame; what an instruction answers; a label; a number, a global's place. Conditions: as stated. -/
import Derived.Test.YtinmgbodgecoeaaGreatVRunBZz
import Derived.BigRegion
set_option linter.unusedSimpArgs false
set_option linter.unusedVariables false
set_option maxHeartbeats 8000000
set_option maxRecDepth 100000
open Go.Proofs.Tryz
namespace Go.Proofs.YtinmgbodgecoeaaGreat
open Go.RowKit
structure bZ (w:World) (fb tb:Nat) (tp:List V) (lv:Value) (lo:List Nat):Prop where
 row:Row w fb #[.slice (some ⟨tb,0,none⟩) tp.length tp.length,lv] 120
 bN:iG w tb tp
 az:w.ownsRow 0 3 1 lv lo.length (lo.map λx=> .int .i64 (x:Nat))
 apart:∀g,lv.ownBlock=some g->g≠tb
 few:tp.length<=1000000
 Z7:lo.length<=1000000
theorem bZ.below{w w':World}{fb tb:Nat}{tp:List V}{lv:Value}{lo:List Nat}(h:bZ w fb tb tp lv lo)(hb:Below w.heap.size w w'):bZ w' fb tb tp lv lo:=by
 obtain⟨h1,⟨cs,h2,h3⟩,h4,h5,h6,h7⟩:=h;exact⟨h1.below hb h1.lt,⟨cs,h2.below hb h2.lt,h3⟩,aF h4 (eW hb) (λ_ _ h=>h),h5,h6,h7⟩
theorem bZ.wr{F:Nat->Prop}{w w':World}{fb tb:Nat}{tp:List V}{lv:Value}{lo:List Nat}(h:bZ w fb tb tp lv lo)(hb:Wr F w w')(h1:¬F fb)(h2:¬F tb)(h3:∀g,lv.ownBlock=some g->¬F g):bZ w' fb tb tp lv lo:=by
 obtain⟨r1,⟨cs,r2,r3⟩,r4,r5,r6,r7⟩:=h;exact⟨r1.wr hb h1,⟨cs,r2.wr hb h2,r3⟩,aF r4 hb h3,r5,r6,r7⟩
def lR(ai mc:Nat)(P:Value×Value×Value×Value)(ah:Int)(fb tb:Nat)(lv:Value)(lo:List Nat)(own:Nat->Prop)(r:Bool×St×List V)(w:World)(e:Ending)(w':World):Prop:=
 e= .returned (.bool r.1)/\∃own':Nat->Prop,(∀k,own k->own' k)/\(∀k,own' k->own k\/w.heap.size<=k)/\bG w' ai mc own' P ah r.2.1/\(r.1=true->bZ w' fb tb r.2.2 lv lo)/\Wr (λb=>own b\/b=tb) w w'
theorem bZ.set{w:World}{fb tb:Nat}{tp:List V}{lv:Value}{lo:List Nat}(h:bZ w fb tb tp lv lo)(k:Nat)(v:V):
  bZ ((w.setCell ⟨tb,k*2,none⟩ (.int .i64 v.obj)).setCell ⟨tb,k*2+1,none⟩ (.int .i64 v.n)) fb tb (tp.set k v) lv lo:=by
 obtain⟨h1,h2,h3,h4,h5,h6⟩:=h;have hw:=gI w tb (k*2) (k*2+1) (.int .i64 v.obj) (.int .i64 v.n);obtain⟨cs,hr,hv⟩:=id h2;refine⟨?_,h2.set k v,aF h3 hw h4,h4,by simpa using h5,h6⟩;rw[List.length_set];exact h1.wr hw (λe=>h1.ne hr (by decide) e)
theorem rf{ai mc fb tb:Nat}{own:Nat->Prop}{P:Value×Value×Value×Value}{ah:Int}{s:St}{tp:List V}{lv:Value}{lo:List Nat}{w W:World}(h:bG w ai mc own P ah s)(hF:bZ w fb tb tp lv lo)(hO:iD ai own fb tb lv)(hb2:Below w.heap.size w W)(m:Nat)(v:V):
  bG ((W.setCell ⟨tb,m*2,none⟩ (.int .i64 v.obj)).setCell ⟨tb,m*2+1,none⟩ (.int .i64 v.n)) ai mc own P ah s/\bZ ((W.setCell ⟨tb,m*2,none⟩ (.int .i64 v.obj)).setCell ⟨tb,m*2+1,none⟩ (.int .i64 v.n)) fb tb (tp.set m v) lv lo/\
  Wr (λb=>own b\/b=tb) w ((W.setCell ⟨tb,m*2,none⟩ (.int .i64 v.obj)).setCell ⟨tb,m*2+1,none⟩ (.int .i64 v.n)):=by
 have Pk:=gI W tb (m*2) (m*2+1) (.int .i64 v.obj) (.int .i64 v.n);exact⟨(h.below hb2).wr Pk (λk hk=>(by subst hk;exact⟨hO.tb.2,hO.tb.1⟩)),(hF.below hb2).set m v,
  (Wr.of_below (F:=λb=>own b\/b=tb) hb2).trans Pk (λi hi=>aK (bu hi))⟩
theorem rq{ai mc fb tb:Nat}{own:Nat->Prop}{P:Value×Value×Value×Value}{ah:Int}{s:St}{tp:List V}{lv:Value}{lo:List Nat}{w W:World}(h:bG w ai mc own P ah s)(hF:bZ w fb tb tp lv lo)(hO:iD ai own fb tb lv)(m:Nat)(v:V)(a:Value)(ha:a= .int .i64 v.obj)(hb:Below ((w.setCell ⟨tb,m*2,none⟩ a).setCell ⟨tb,m*2+1,none⟩ (.int .i64 v.n)).heap.size ((w.setCell ⟨tb,m*2,none⟩ a).setCell ⟨tb,m*2+1,none⟩ (.int .i64 v.n)) W):
  bG W ai mc own P ah s/\bZ W fb tb (tp.set m v) lv lo/\Wr (λb=>own b\/b=tb) w W:=by
 subst ha;have E:=rf h hF hO (aV _ _) m v;exact⟨E.1.below hb,E.2.1.below hb,E.2.2.trans (eW hb) (λ_ h=>h.elim)⟩
theorem FV(ai mc fb tb:Nat)(own:Nat->Prop)(P:Value×Value×Value×Value)(lv:Value)(ah:Int)(s:St)(tp:List V)(lo:List Nat)(R:bT)(dst a b n:Int)(AV:Value)(l:List Int)(w:World)
  (h:bG w ai mc own P ah s)(hF:bZ w fb tb tp lv lo)(hO:iD ai own fb tb lv):
  Calls prog 54 #[.pointer (some ⟨mc,0,none⟩),.pointer (some ⟨fb,0,none⟩),.agg #[.int .i64 14,.int .i64 dst,.int .i64 a,.int .i64 b,.int .i64 n,AV]] w λe w'=>lR ai mc P ah fb tb lv lo own (aW R lo s tp (aT ⟨14,dst,a,b,n,l⟩)) w e w':=by
 have pK:aW R lo s tp (aT ⟨14,dst,a,b,n,l⟩)=(true,s,tp):=by
  unfold aW;rw[show(aT ⟨14,dst,a,b,n,l⟩).args=[qc 0]from rfl,cE,nT];rfl
 rw[pK];clear pK;have bQ:=ae (aB w (.cells #[.int .i64 14,.int .i64 dst,.int .i64 a,.int .i64 b,.int .i64 n,AV] 94) (.cells #[.int .i64 0,.int .i64 0] 75));have HH:=ae h;have HF:=ae hF;clear h hF hO;go_enter func54,ntmps54;refine aj λQ HQ=>?_;go_wp2_with fail;refine HQ _ _ _ ?_;exact aS (v:= .bool true) (by simp[results,results54,go_sem]) rfl ⟨rfl,own,λ_ h=>h,λ_ h=>aK h,HH.below bQ.out,λ_=>HF.below bQ.out,Wr.of_below bQ.out⟩
theorem OL(ai mc fb tb:Nat)(own:Nat->Prop)(P:Value×Value×Value×Value)(lv:Value)(ah:Int)(s:St)(tp:List V)(lo:List Nat)(R:bT)(m:Nat)(a b n:Int)(AV:Value)(l:List Int)(w:World)
  (h:bG w ai mc own P ah s)(hF:bZ w fb tb tp lv lo)(hO:iD ai own fb tb lv)(xu:m<tp.length):
  Calls prog 54 #[.pointer (some ⟨mc,0,none⟩),.pointer (some ⟨fb,0,none⟩),.agg #[.int .i64 1,.int .i64 (m:Int),.int .i64 a,.int .i64 b,.int .i64 n,AV]] w λe w'=>lR ai mc P ah fb tb lv lo own (aW R lo s tp (aT ⟨1,(m:Int),a,b,n,l⟩)) w e w':=by
 have pK:aW R lo s tp (aT ⟨1,(m:Int),a,b,n,l⟩)=(true,s,tp.set m (⟨0,n⟩:V)):=by
  unfold aW;rw[show aT ⟨1,(m:Int),a,b,n,l⟩=⟨1,(m:Int),0,0,[qc n]⟩from rfl,cE];rw[nT];show kX R s tp _ [_]=_;unfold kX;rw[if_pos rfl,iw];rfl
 rw[pK];clear pK;have HE:=ae (λW=>rq (W:=W) h hF hO m (⟨0,n⟩:V) (.int .i64 0) (by first|rfl|simp));have f0:=hF.row.cell (j:=0) rfl;have hfb:=hF.row.lt;obtain⟨cs,hr,hcs,hvs⟩:=hF.bN;have t0:=hr.free (m*2);have t1:=hr.free (m*2+1);have hv:=hvs m _ (List.getElem?_eq_getElem xu);have v0:=hr.cell hv.1;have v1:=hr.cell hv.2;have htl:=hr.lt;have hne:fb≠tb:=λe=>hF.row.ne hr (by decide) e;have sO:=hF.few;have uQ:(m:Int)<(tp.length:Int):=by omega
 have hm0:decide ((0:Int)<=(m:Int))=true:=by simp
 have hsz:cs.size=tp.length*2:=hcs;clear h hF hO hr hvs hv;go_enter func54,ntmps54;refine aj λQ HQ=>?_;go_wp2_with fail;go_region
 all_goals go_wp2_with fail
 all_goals refine HQ _ _ _ ?_
 all_goals exact aS (v:= .bool true) (by simp[results,results54,go_sem]) rfl (by have E:=HE _ (aB _ (.cells #[.int .i64 1,.int .i64 (m:Int),.int .i64 a,.int .i64 b,.int .i64 n,AV] 94) (.cells #[.int .i64 0,.int .i64 n] 75)).drew;exact⟨rfl,own,λ_ h=>h,λ_ h=>aK h,E.1,λ_=>E.2.1,E.2.2⟩)
theorem Ml(ai mc fb tb:Nat)(own:Nat->Prop)(P:Value×Value×Value×Value)(lv:Value)(ah:Int)(s:St)(tp:List V)(lo:List Nat)(R:bT)(m q:Nat)(a b:Int)(AV:Value)(l:List Int)(w:World)
  (h:bG w ai mc own P ah s)(hF:bZ w fb tb tp lv lo)(hO:iD ai own fb tb lv)(xu:m<tp.length)(hq:q<=1000000):
  Calls prog 54 #[.pointer (some ⟨mc,0,none⟩),.pointer (some ⟨fb,0,none⟩),.agg #[.int .i64 4,.int .i64 (m:Int),.int .i64 a,.int .i64 b,.int .i64 (q:Int),AV]] w λe w'=>lR ai mc P ah fb tb lv lo own (aW R lo s tp (aT ⟨4,(m:Int),a,b,(q:Int),l⟩)) w e w':=by
 have pK:aW R lo s tp (aT ⟨4,(m:Int),a,b,(q:Int),l⟩)=(true,s,tp.set m (⟨q+1,0⟩:V)):=by
  unfold aW;rw[show aT ⟨4,(m:Int),a,b,(q:Int),l⟩=⟨1,(m:Int),0,0,[.node 4 (q:Int) []]⟩from rfl,cE];rw[gB,cF];show kX R s tp _ [_]=_;unfold kX;rw[if_pos rfl,iw];rfl
 rw[pK];clear pK;have HE:=ae (λW=>rq (W:=W) h hF hO m (⟨q+1,0⟩:V) (.int .i64 ((q:Int)+1)) (by first|rfl|simp));have f0:=hF.row.cell (j:=0) rfl;have hfb:=hF.row.lt;obtain⟨cs,hr,hcs,hvs⟩:=hF.bN;have t0:=hr.free (m*2);have t1:=hr.free (m*2+1);have hv:=hvs m _ (List.getElem?_eq_getElem xu);have v0:=hr.cell hv.1;have v1:=hr.cell hv.2;have htl:=hr.lt;have hne:fb≠tb:=λe=>hF.row.ne hr (by decide) e;have sO:=hF.few;have uQ:(m:Int)<(tp.length:Int):=by omega
 have hm0:decide ((0:Int)<=(m:Int))=true:=by simp
 have hsz:cs.size=tp.length*2:=hcs;clear h hF hO hr hvs hv;go_enter func54,ntmps54;refine aj λQ HQ=>?_;go_wp2_with fail;go_region
 all_goals go_wp2_with fail
 all_goals refine HQ _ _ _ ?_
 all_goals exact aS (v:= .bool true) (by simp[results,results54,go_sem]) rfl (by have E:=HE _ (aB _ (.cells #[.int .i64 4,.int .i64 (m:Int),.int .i64 a,.int .i64 b,.int .i64 (q:Int),AV] 94) (.cells #[.int .i64 ((q:Int)+1),.int .i64 0] 75)).drew;exact⟨rfl,own,λ_ h=>h,λ_ h=>aK h,E.1,λ_=>E.2.1,E.2.2⟩)
theorem Jv(ai mc fb tb:Nat)(own:Nat->Prop)(P:Value×Value×Value×Value)(lv:Value)(ah:Int)(s:St)(tp:List V)(lo:List Nat)(R:bT)(m q:Nat)(x:V)(b n:Int)(AV:Value)(l:List Int)(w:World)
  (h:bG w ai mc own P ah s)(hF:bZ w fb tb tp lv lo)(hO:iD ai own fb tb lv)(xu:m<tp.length)(hq:q<tp.length)(hx:tp[q]? =some x):
  Calls prog 54 #[.pointer (some ⟨mc,0,none⟩),.pointer (some ⟨fb,0,none⟩),.agg #[.int .i64 2,.int .i64 (m:Int),.int .i64 (q:Int),.int .i64 b,.int .i64 n,AV]] w λe w'=>lR ai mc P ah fb tb lv lo own (aW R lo s tp (aT ⟨2,(m:Int),(q:Int),b,n,l⟩)) w e w':=by
 have pK:aW R lo s tp (aT ⟨2,(m:Int),(q:Int),b,n,l⟩)=(true,s,tp.set m x):=by
  unfold aW;rw[show aT ⟨2,(m:Int),(q:Int),b,n,l⟩=⟨1,(m:Int),0,0,[fX (q:Int)]⟩from rfl,cE];rw[fH,Int.toNat_natCast,List.getD_eq_getElem?_getD,hx];show kX R s tp _ [_]=_;unfold kX;rw[if_pos rfl,iw];rfl
 rw[pK];clear pK;have HE:=ae (λW=>rq (W:=W) h hF hO m x (.int .i64 (x.obj:Int)) (by first|rfl|simp));have f0:=hF.row.cell (j:=0) rfl;have hfb:=hF.row.lt;obtain⟨cs,hr,hcs,hvs⟩:=hF.bN;have t0:=hr.free (m*2);have t1:=hr.free (m*2+1);have hv:=hvs m _ (List.getElem?_eq_getElem xu);have v0:=hr.cell hv.1;have v1:=hr.cell hv.2;have htl:=hr.lt;have hne:fb≠tb:=λe=>hF.row.ne hr (by decide) e;have sO:=hF.few;have uQ:(m:Int)<(tp.length:Int):=by omega
 have hm0:decide ((0:Int)<=(m:Int))=true:=by simp
 have hsz:cs.size=tp.length*2:=hcs;have hx:=hvs q x hx;have x0:=hr.cell hx.1;have x1:=hr.cell hx.2;have Zd:(q:Int)<(tp.length:Int):=by omega
 clear h hF hO hr hvs hv;go_enter func54,ntmps54;refine aj λQ HQ=>?_;go_wp2_with fail;go_region
 all_goals go_wp2_with fail
 all_goals go_region
 all_goals go_wp2_with fail
 all_goals refine HQ _ _ _ ?_
 all_goals exact aS (v:= .bool true) (by simp[results,results54,go_sem]) rfl (by have E:=HE _ (aB _ (.cells #[.int .i64 2,.int .i64 (m:Int),.int .i64 (q:Int),.int .i64 b,.int .i64 n,AV] 94) (.cells #[.int .i64 (x.obj:Int),.int .i64 x.n] 75)).drew.drew;exact⟨rfl,own,λ_ h=>h,λ_ h=>aK h,E.1,λ_=>E.2.1,E.2.2⟩)
theorem Mk(ai mc fb tb:Nat)(own:Nat->Prop)(P:Value×Value×Value×Value)(lv:Value)(ah:Int)(s:St)(tp:List V)(lo:List Nat)(R:bT)(m q y:Nat)(a b:Int)(AV:Value)(l:List Int)(w:World)
  (h:bG w ai mc own P ah s)(hF:bZ w fb tb tp lv lo)(hO:iD ai own fb tb lv)(xu:m<tp.length)(hq:q<lo.length)(hy:lo[q]? =some y):
  Calls prog 54 #[.pointer (some ⟨mc,0,none⟩),.pointer (some ⟨fb,0,none⟩),.agg #[.int .i64 3,.int .i64 (m:Int),.int .i64 a,.int .i64 b,.int .i64 (q:Int),AV]] w λe w'=>lR ai mc P ah fb tb lv lo own (aW R lo s tp (aT ⟨3,(m:Int),a,b,(q:Int),l⟩)) w e w':=by
 have pK:aW R lo s tp (aT ⟨3,(m:Int),a,b,(q:Int),l⟩)=(true,s,tp.set m (⟨y,0⟩:V)):=by
  unfold aW;rw[show aT ⟨3,(m:Int),a,b,(q:Int),l⟩=⟨1,(m:Int),0,0,[.node 3 (q:Int) []]⟩from rfl,cE];rw[gB,cF];have hg:lo.getD ((q:Int).toNat) 0=y:=by rw[Int.toNat_natCast,List.getD_eq_getElem?_getD,hy];rfl
  rw[<-hg];show kX R s tp _ [_]=_;unfold kX;rw[if_pos rfl,iw];rfl
 rw[pK];clear pK;have HE:=ae (λW=>rq (W:=W) h hF hO m (⟨y,0⟩:V) (.int .i64 (y:Int)) (by first|rfl|simp));have f0:=hF.row.cell (j:=0) rfl;have hfb:=hF.row.lt;obtain⟨cs,hr,hcs,hvs⟩:=hF.bN;have t0:=hr.free (m*2);have t1:=hr.free (m*2+1);have hv:=hvs m _ (List.getElem?_eq_getElem xu);have v0:=hr.cell hv.1;have v1:=hr.cell hv.2;have htl:=hr.lt;have hne:fb≠tb:=λe=>hF.row.ne hr (by decide) e;have sO:=hF.few;have uQ:(m:Int)<(tp.length:Int):=by omega
 have hm0:decide ((0:Int)<=(m:Int))=true:=by simp
 have hsz:cs.size=tp.length*2:=hcs;obtain⟨LA,lc,hlv⟩:=gQ hF.az;subst hlv;obtain⟨lb,hLA,_,hlb,l0⟩:=ru hF.az (f:=q) (v:= .int .i64 (y:Nat)) (by rw[List.getElem?_map,hy];rfl);subst hLA;simp only[Nat.zero_add]at l0;have f1:=hF.row.cell (j:=1) rfl;have Zd:(q:Int)<(lo.length:Int):=by omega
 clear h hF hO hr hvs hv;go_enter func54,ntmps54;refine aj λQ HQ=>?_;go_wp2_with fail;go_region
 all_goals go_wp2_with fail
 all_goals go_region
 all_goals go_wp2_with fail
 all_goals refine HQ _ _ _ ?_
 all_goals exact aS (v:= .bool true) (by simp[results,results54,go_sem]) rfl (by have E:=HE _ (aB _ (.cells #[.int .i64 3,.int .i64 (m:Int),.int .i64 a,.int .i64 b,.int .i64 (q:Int),AV] 94) (.cells #[.int .i64 (y:Int),.int .i64 0] 75)).drew.drew;exact⟨rfl,own,λ_ h=>h,λ_ h=>aK h,E.1,λ_=>E.2.1,E.2.2⟩)
end Go.Proofs.YtinmgbodgecoeaaGreat
