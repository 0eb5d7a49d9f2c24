/- gantletref14's machine: Store on its memory. Conditions: as stated. -/
import Derived.Test.YtlenilbkifofjaaGreatDoorRDoesFZz
import Derived.Test.YtlenilbkifofjaaGreatDoorQ08Zz
import Derived.Test.YtlenilbkifofjaaGreatDoorQ04Zz
set_option linter.unusedVariables false
set_option linter.unusedSimpArgs false
set_option maxHeartbeats 8000000
namespace Go.Proofs.YtlenilbkifofjaaGreatDoor
open Go.RowKit
theorem RMachAt.storeObj{w w':World}{base mc:Nat}{own:Nat→Prop}{P:Value×Value×Value×Value}{fuel:Int}{s:St}{inv outv memv:Value}{rb:Nat→Nat}(h:RMachAt w base mc own P fuel s inv outv memv rb){k j:Nat}{o:MO}{v:V}(hk:1≤k)(ho:s.mem[k]? =some o)
  (hw:Wr (fun i=>i=rb k) w w')(hv:VRow w' (rb k) (o.l.set j v))(hok:MemOk (s.mem.modify k fun o=>{o with l:=o.l.set j v})):RMachAt w' base mc own P fuel {s with mem:=s.mem.modify k fun o=>{o with l:=o.l.set j v}} inv outv memv rb:=by
 obtain⟨hr,hm,hs⟩:=h;obtain⟨hrb,cs0,hr0,_⟩:=hs.mem.mine k o hk ho;have hb:=hs.own _ hrb;have hne:∀g cs t,Row w g cs t→t≠70→¬g=rb k:=fun g cs t hr' ht hg=>by subst hg;exact hr'.ne hr0 ht rfl
 refine⟨hr.wr hw (hne mc _ _ hr (by decide)),hm,⟨hs.inp.below (fun b o hb'=>World.cell?_of_block (a:=⟨b,o,none⟩) (hw.block b (by omega) (by omega))),ownsRow_wr hs.out hw (fun g hg=>?_),hs.outo,?_,hs.memo,fun i hi=>⟨(hs.own i hi).1,Nat.lt_of_lt_of_le (hs.own i hi).2 hw.size⟩⟩⟩
 ·obtain⟨_,cs,hr'⟩:=ownsRow_row hs.out hg;exact hne g cs _ hr' (by decide)
 ·obtain⟨⟨xs,hx,hox⟩,hmm,hi,_⟩:=hs.mem;refine⟨⟨xs,?_,fun i o' ho'=>?_⟩,fun i o' h1 ho'=>?_,fun i i' h1 h2 h3 h4=>hi i i' h1 (by simpa using h2) h3 (by simpa using h4),hok⟩
  ·simp only[List.length_modify];exact ownsRow_wr hx hw (fun g hg=>by obtain⟨_,cs,hr'⟩:=ownsRow_row hx hg;exact hne g cs _ hr' (by decide))
  ·obtain⟨o0,h0,rfl⟩:=modify_get ho';have:=hox i o0 h0;split
   ·unfold ObjIn at this ⊢;simpa using this
   ·exact this
  ·obtain⟨o0,h0,rfl⟩:=modify_get ho';by_cases hik:k=i
   ·subst hik;rw[if_pos rfl];obtain rfl:o0=o:=by rw[ho]at h0;exact(Option.some.inj h0).symm
    exact⟨hrb,hv⟩
   ·rw[if_neg hik];obtain⟨ho2,cs,hr',hvv⟩:=hmm i o0 h1 h0;have hlt:∀{m:Nat}{q:MO},s.mem[m]? =some q→m<s.mem.length:=fun{m q}hq=>by
     rcases Nat.lt_or_ge m s.mem.length with h|h
     ·exact h
     ·rw[List.getElem?_eq_none h]at hq;cases hq
    exact⟨ho2,cs,hr'.wr hw (fun e=>hik (hi i k h1 (hlt h0) hk (hlt ho) e).symm),hvv⟩
theorem rstore_mach(base mc:Nat)(own:Nat→Prop)(P:Value×Value×Value×Value)(fuel:Int)(s:St)(sz:Nat)(r x:V)(w:World)(hM:RMach w base mc own P fuel s)(hsz2:sz=1∨sz=2∨sz=4∨sz=8)(hvk:VOkW s.mem.length r)(hgood:∀M',storeF s.mem sz r x=some M'→MemOk M'):
  Calls Tryz.prog 58 #[.pointer (some ⟨mc,11,none⟩),.int .i64 sz,.agg #[.int .i64 r.obj,.int .i64 r.n],.agg #[.int .i64 x.obj,.int .i64 x.n]] w fun e w'=>e= .returned (.bool (storeF s.mem sz r x).isSome)∧RMach w' base mc own P fuel {s with mem:=(storeF s.mem sz r x).getD s.mem}∧Wr own w w':=by
 obtain⟨A',cap',hc10,hMR,hmcl⟩:=hM.memR;cases hF:atF s.mem r sz with
 |none=>
  have e0:storeF s.mem sz r x=none:=by unfold storeF;rw[Int.toNat_natCast,hF]
  rw[e0];refine(rstore_bad mc 11 sz r x _ false w (fun W hb=>at_none mc 11 A' s.mem.length cap' w.heap.size sz r s.mem W hb.size (by have:=hb.size;omega) (cell_below hc10 hb hmcl) (hMR.below hb (Nat.le_refl _)) hvk.1 hvk.2.1 (by omega) (by omega) hF) (Or.inl rfl)).mono ?_;rintro e w' ⟨rfl,hb⟩;exact⟨rfl,hM.below hb,Wr.of_below hb⟩
 |some j=>
  obtain⟨hx0,hx1⟩:=hvk.2.1 (atF_pos hF);have hklt:=hvk.1 (atF_pos hF);obtain⟨hkp,_,_,hj⟩:=atF_lt hF hx0;by_cases hbad:0<x.obj∧sz≠8
  ·have e0:storeF s.mem sz r x=none:=by unfold storeF;rw[Int.toNat_natCast,hF];simp only;rw[if_pos ⟨hbad.1,by omega⟩]
   rw[e0];obtain⟨mb,mo,rfl,hmb,A2,len,cap2,_,c1,_,hl,_,_,_,hrow⟩:=hMR.get hklt;have hget:(mget s.mem r.obj).l[j]? =some ((mget s.mem r.obj).l.getD j ⟨0,0⟩):=by rw[List.getD_eq_getElem?_getD,List.getElem?_eq_getElem hj];rfl
   obtain⟨ob,oo,rfl,hob,hv⟩:=hrow j _ hget;refine(rstore_bad mc 11 sz r x _ true w (fun W hb=>at_some mc 11 mb mo ob oo s.mem.length cap' w.heap.size len cap2 sz r s.mem W j hb.size (by have:=hb.size;omega) (cell_below hc10 hb hmcl) (hMR.below hb (Nat.le_refl _)) hklt hx0 hx1 (by omega) (by omega) (cell_below c1 hb hmb) hF) (Or.inr hbad)).mono ?_;rintro e w' ⟨rfl,hb⟩;exact⟨rfl,hM.below hb,Wr.of_below hb⟩
  ·have e0:storeF s.mem sz r x=some (s.mem.modify r.obj fun o=>{o with l:=o.l.set j (if x.obj=0 then⟨0,storedF sz x.n⟩else x)}):=by unfold storeF;rw[Int.toNat_natCast,hF];simp only;rw[if_neg (fun h=>hbad ⟨h.1,by omega⟩)]
   have hok:=hgood _ e0;rw[e0];have hmo:=mget_of (M:=s.mem) (k:=r.obj) hklt;obtain⟨inv,outv,memv,rb,hMA⟩:=id hM;obtain⟨hownk,cs,hrow,hvi⟩:=hMA.rest.mem.mine r.obj _ (by omega) hmo;obtain⟨⟨xs,hxs,hox⟩,_⟩:=id hMA.rest.mem;obtain⟨_,hc1,_⟩:=hox r.obj _ hmo;rw[if_neg (by omega)]at hc1;have hmv:memv= .slice A' s.mem.length cap':=by have:=hMA.row.cell (j:=11) rfl;exact Option.some.inj (this.symm.trans hc10)
   subst hmv;obtain⟨mg,hmg,hmgl⟩:∃mg,A'=some ⟨mg,0,none⟩∧mg<w.heap.size:=(by
    obtain⟨_,h|⟨g,c,cur,h,_,hh,_⟩⟩:=id hxs
    ·have:=h.2;omega
    ·injection h with h;exact⟨g,h,Row.lt hh⟩)
   subst hmg;have c1:w.cell? ⟨mg,0+r.obj*3+1,none⟩=some (.slice (some ⟨rb r.obj,0,none⟩) (mget s.mem r.obj).l.length (mget s.mem r.obj).l.length):=by
    rw[show 0+r.obj*3+1=r.obj*3+1 by omega,hxs.cellAt (r.obj*3+1) (by omega)];exact hc1
   have hcs:cs.size=(mget s.mem r.obj).l.length*2:=hvi.1;refine(rstore_yes mc 11 (rb r.obj) j sz r x cs w hsz2 (fun W hW=>by
    have:=at_some mc 11 mg 0 (rb r.obj) 0 s.mem.length cap' w.heap.size _ _ sz r s.mem W j hW.size (by have:=hW.size;omega) (cell_below hc10 hW hmcl) (hMR.below hW (Nat.le_refl _)) hklt hx0 hx1 (by omega) (by omega) (cell_below c1 hW hmgl) hF;simpa using this) hbad hrow (by omega)).mono ?_
   rintro e w' ⟨rfl,hw4,hr4⟩;have hvr:VRow w' (rb r.obj) ((mget s.mem r.obj).l.set j (if x.obj=0 then⟨0,storedF sz x.n⟩else x)):=⟨_,hr4,hvi.set j (storedV sz x)⟩
   exact⟨rfl,⟨_,_,_,_,hMA.storeObj (by omega) hmo hw4 hvr hok⟩,hw4.mono (fun i hi=>Or.inl (hi▸hownk))⟩
end Go.Proofs.YtlenilbkifofjaaGreatDoor
