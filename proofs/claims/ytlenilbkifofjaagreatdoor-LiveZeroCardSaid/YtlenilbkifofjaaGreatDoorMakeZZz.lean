/- The page's memory: its first object is made. Conditions: as stated. -/
import Derived.Test.YtlenilbkifofjaaGreatDoorMakeZz
import Derived.Deep.DeepCutAuto
set_option linter.unusedVariables false
set_option linter.unusedSimpArgs false
set_option maxHeartbeats 8000000
set_option maxRecDepth 100000
namespace Go.Proofs.YtlenilbkifofjaaGreatDoor
open Go.RowKit
attribute [local go_sem ↓] Go.wp_at_zero Go.wp_at_succ
theorem make_first(pb po base:Nat)(own:Nat→Prop)(memv:Value)(rb:Nat→Nat)(M:List MO)(cs:Array Value)(t:TypeId)(o:ObS)(ct:Nat)(A:Option Addr)(n cap:Nat)(w:World)
  (hR:Row w pb cs t)(hp:cs[po]? =some memv)(ht:t≠70∧t≠103)(hM:MemW w base own memv rb M)(hmo:∀g,memv.ownBlock=some g→own g)(hown:∀k,own k→base≤k∧k<w.heap.size)(hbs:base≤w.heap.size)(hpb:base≤pb)
  (hct:o.count=ct)(hct1:1≤ct)(hct2:ct≤64)(hn:n≤ct)(hl:LongsAt w base o.init (.slice A n cap))(hsz:o.size=1∨o.size=2∨o.size=4∨o.size=8)(hin:∀x,x∈o.init→In64 x)(hmany:(memBase M).length+1≤1000000000)(hMe:M=[]):
  Calls Tryz.prog 23 #[.pointer (some ⟨pb,po,none⟩),.agg #[.int .i64 o.size,.int .i64 ct,.slice A n cap]] w fun e w'=>MakeSays base own pb po cs t M o w e w':=by
 have hpl:=hR.lt;have HR:=Lib.hid hR;have HO:=Lib.hid hown;have HMO:=Lib.hid hmo;have HP:=Lib.hid hp;have HT:=Lib.hid ht;obtain⟨sz,hsz',hsz0⟩:∃sz:Nat,o.size=sz∧(sz=1∨sz=2∨sz=4∨sz=8):=(by rcases hsz with h|h|h|h;exact⟨1,h,by omega⟩;exact⟨2,h,by omega⟩;exact⟨4,h,by omega⟩;exact⟨8,h,by omega⟩)
 have HL:=Lib.hid hl;have hln:=hl.len;have HLN:=Lib.hid hln.1;have HSZ:=Lib.hid hsz;have HIN:=Lib.hid hin;have HM:=Lib.hid hM;have HCT:=Lib.hid hct;have HSZ':=Lib.hid hsz';rw[hsz'];have HNS:=Lib.hid (show∀k,own k→k≠w.heap.size∧k<w.heap.size from fun k hk=>by have:=hown k hk;omega);subst hMe;obtain⟨xs,hx,hox⟩:=hM.row;obtain⟨A1,cap1,hmv⟩:∃A1 cap1,memv= .slice A1 0 cap1:=(by obtain⟨_,h|⟨g,c,cur,h,_⟩⟩:=id hx;exact⟨_,_,h.1⟩;exact⟨_,_,h⟩)
 subst hmv;obtain rfl:xs=[]:=List.eq_nil_of_length_eq_zero (by simpa using hx.1);simp only[List.length_nil]at hx;have p0:w.cell? ⟨pb,po,none⟩=some (.slice A1 0 cap1):=hR.cell hp;obtain⟨i0,hi,hz0,hz1,hz2⟩:=info_parts obj_info;have HHX:=Lib.hid hx;have hro1:(Value.slice A1 0 cap1).ownBlock≠some pb:=by
  intro e;obtain⟨_,cs',hr'⟩:=ownsRow_row hx e;exact hr'.ne hR (fun h=>ht.2 h.symm) rfl
 have HR1':=Lib.hid hro1;have HR2':=Lib.hid (show(Value.slice A1 0 cap1).ownBlock≠some w.heap.size from fun e=>by obtain⟨_,cs',hr'⟩:=ownsRow_row hx e;exact absurd hr'.lt (by omega));have HPOS:=Lib.hid (lt_of_get hp);clear hM hR hp ht hmo hown hx hox hct hl hln hsz hin hsz' hro1;obtain⟨Z,hZ,hmk⟩:=make_vals ct (by omega);have HZ:=Lib.hid hZ;clear hZ;go_enter Tryz.func23,Tryz.ntmps23
 go_upto_region 3 with(at_builtin;(refine wpList_append_lies _ rfl (.tmp 17) (.tmp 19) 60 rfl base 103 i0 (.agg #[.int .i64 0,.slice none 0 0,.bool false]) 3 40 Tryz.underlying60 hi hz0 hz1 hz2 rfl (by decide) _ _ _ rfl (own_two' HHX.out _ _) ⟨w.heap.size+1,0,none⟩ 1 1 [.int .i64 0,.slice none 0 0,.bool false] rfl rfl (row_cells1 _ _ _ _ (by simp)) (obj_one _ _ _ _ _) (by omega) (by unfold maxLen;omega) (by omega) (by simp;omega) (w.heap.size+1+1) (by simp) ?_;intro gg cap3 w2 hown2 hgrow hat hlt2;have hq:=(((HR.out.alloc (.cells #[.int .i64 sz,.int .i64 ct,.slice A n cap] 68)).alloc (.cells #[.int .i64 0,.slice none 0 0,.bool false] 103))).wr (Wr.grown (F:=fun k=>(Value.slice A1 0 cap1).ownBlock=some k) hgrow (fun k hk=>hk)) HR1'.out;have hq1:w2.cell? ⟨pb,po,none⟩=some (.slice A1 0 cap1):=hq.cell HP.out;have hq2:=hq.free po;have HQ:=Lib.hid hq;have HGW:=Lib.hid hgrow;have HOW2:=Lib.hid hown2;have HAT:=Lib.hid hat;have HBXR:=Lib.hid (((Row.new w #[.int .i64 sz,.int .i64 ct,.slice A n cap] 68).alloc (.cells #[.int .i64 0,.slice none 0 0,.bool false] 103)).wr (Wr.grown (F:=fun k=>(Value.slice A1 0 cap1).ownBlock=some k) hgrow (fun k hk=>hk)) HR2'.out);have hzz:=hgrow.size;clear hq hgrow hown2 hat))
 simp only[World.size_alloc]at hzz;have b0:w2.cell? ⟨w.heap.size,0,none⟩=some (.int .i64 sz):=HBXR.out.cell (j:=0) rfl;have b1:w2.cell? ⟨w.heap.size,1,none⟩=some (.int .i64 ct):=HBXR.out.cell (j:=1) rfl;have hne0:¬w.heap.size=pb:=by omega
 have hne1:¬pb=w.heap.size:=by omega
 have hlt3:w.heap.size<w2.heap.size:=by omega
 go_cut [5] (fun v5 wx=>∃(xb ob:Nat)(own1:Nat→Prop)(memv1:Value),v5= .pointer (some ⟨xb,0,none⟩)∧Row wx xb #[.int .i64 sz,.slice (some ⟨ob,0,none⟩) ct ct,.bool true] 103∧VRow wx ob (fillK o 0)∧¬xb=ob∧w.heap.size<xb∧w.heap.size<ob∧
   Row wx w.heap.size #[.int .i64 sz,.int .i64 ct,.slice A n cap] 68∧MemW wx base own1 memv1 rb (memBase ([]:List MO))∧(∀g,memv1.ownBlock=some g→own1 g)∧Row wx pb (cs.setIfInBounds po memv1) t∧Wr (fun k=>own k∨k=pb) w wx∧(∀k,own k→own1 k)∧(∀k,own1 k→own k∨w.heap.size<k)∧¬own1 ob∧¬own1 xb∧(∀k,own1 k→k<wx.heap.size))
 case first=>
  go_region
  all_goals go_wp2_with fail
  all_goals go_meet
  all_goals
   have hfin:∀wx,Below (w2.setCell ⟨pb,po,none⟩ (.slice (some ⟨gg,0,none⟩) 1 cap3)).heap.size (w2.setCell ⟨pb,po,none⟩ (.slice (some ⟨gg,0,none⟩) 1 cap3)) wx→MemW wx base (fun k=>own k∨k=gg) (.slice (some ⟨gg,0,none⟩) 1 cap3) rb (memBase [])∧Row wx pb (cs.setIfInBounds po (.slice (some ⟨gg,0,none⟩) 1 cap3)) t∧Wr (fun k=>own k∨k=pb) w wx∧(∀k,own k∨k=gg→k<wx.heap.size)∧Row wx w.heap.size #[.int .i64 sz,.int .i64 ct,.slice A n cap] 68:=fun wx hb=>(by
    have hws:=Wr.cell1 w2 pb po (.slice (some ⟨gg,0,none⟩) 1 cap3);have hbw:Wr (fun _=>False) (w2.setCell ⟨pb,po,none⟩ (.slice (some ⟨gg,0,none⟩) 1 cap3)) wx:=Wr.of_below hb;have hsz:=hb.size;simp only[World.size_setCell]at hsz;have hgt:¬gg=pb:=(by intro e;obtain⟨_,cs',hr⟩:=ownsRow_row HOW2.out (g:=gg) rfl;exact hr.ne HQ.out (fun h=>HT.out.2 h.symm) e)
    have ho:=ownsRow_wr (ownsRow_wr HOW2.out hws (fun g hg=>by simp only[Value.ownBlock,Option.some.injEq]at hg;subst hg;exact hgt)) hbw (fun _ _ h=>h);have hggl:gg<w2.heap.size:=hlt2;refine⟨MemW.first HM.out ho,(HQ.out.set po _).wr hbw (fun h=>h),?_,fun k hk=>?_,((HBXR.out.wr hws hne0).wr hbw (fun h=>h))⟩
    ·refine(((Wr.of_below (below2 w (.cells #[.int .i64 sz,.int .i64 ct,.slice A n cap] 68) (.cells #[.int .i64 0,.slice none 0 0,.bool false] 103))).trans (Wr.grown (F:=fun k=>(Value.slice A1 0 cap1).ownBlock=some k) HGW.out (fun k hk=>hk)) (fun i hi=>Or.inl (Or.inl (HMO.out i hi)))).trans hws (fun i hi=>Or.inl (Or.inr hi))).trans hbw (fun i hi=>hi.elim)
    ·rcases hk with hk|rfl
     ·have:=(HO.out k hk).2;omega
     ·omega)
   have hnob:∀k,w2.heap.size≤k→¬(own k∨k=gg):=fun k hk h=>(by rcases h with h|h;have:=(HO.out k h).2;omega;omega)
   have hmo2:∀g,(Value.slice (some ⟨gg,0,none⟩) 1 cap3).ownBlock=some g→own g∨g=gg:=fun g hg=>(by simp only[Value.ownBlock,Option.some.injEq]at hg;exact Or.inr hg.symm)
   have hggr:∀k,own k∨k=gg→own k∨w.heap.size<k:=fun k hk=>(by rcases hk with h|rfl;exact Or.inl h;rcases HAT.out with h|h;exact Or.inl (HMO.out _ h);exact Or.inr (by omega))
  ·obtain⟨f1,f2,f3,f4,f5⟩:=hfin _ ((below2 (w2.setCell ⟨pb,po,none⟩ (.slice (some ⟨gg,0,none⟩) 1 cap3)) (.cells Z 70) (.cells #[.int .i64 sz,.slice (some ⟨w2.heap.size,0,none⟩) ct ct,.bool true] 103)).drew);exact⟨w2.heap.size+1,w2.heap.size,_,.slice (some ⟨gg,0,none⟩) 1 cap3,rfl,(Row.new' _ _ (by simp)).drew,⟨Z,((Row.new' _ _ (by simp)).alloc _).drew,by rw[fillK_zero,HCT.out,Int.toNat_natCast];exact HZ.out⟩,by omega,by omega,by omega,
    f5,f1,hmo2,f2,f3,fun _ h=>Or.inl h,hggr,hnob _ (by omega),hnob _ (by omega),f4⟩
  ·obtain⟨f1,f2,f3,f4,f5⟩:=hfin _ ((below2 (w2.setCell ⟨pb,po,none⟩ (.slice (some ⟨gg,0,none⟩) 1 cap3)) (.cells #[.int .i64 sz,.slice (some ⟨w2.heap.size+1,0,none⟩) ct ct,.bool true] 103) (.cells Z 70)).drew);exact⟨w2.heap.size,w2.heap.size+1,_,.slice (some ⟨gg,0,none⟩) 1 cap3,rfl,((Row.new' _ _ (by simp)).alloc _).drew,⟨Z,(Row.new' _ _ (by simp)).drew,by rw[fillK_zero,HCT.out,Int.toNat_natCast];exact HZ.out⟩,by omega,by omega,by omega,
    f5,f1,hmo2,f2,f3,fun _ h=>Or.inl h,hggr,hnob _ (by omega),hnob _ (by omega),f4⟩
 case rest=>
  obtain⟨xb,ob,own1,memv1,rfl,hX,hV,hne,hx1,hx2,hbx,hM1,hmo1,hR1,hW1,ho1,ho2,hn1,hn2,ho3⟩:=hcut;have HX:=Lib.hid hX;have HV:=Lib.hid hV;have HBX:=Lib.hid hbx;have HM1:=Lib.hid hM1;have HMO1:=Lib.hid hmo1;have HR1:=Lib.hid hR1;have HW1:=Lib.hid hW1;have HO1:=Lib.hid (And.intro ho1 (And.intro ho2 ho3));have HN:=Lib.hid (And.intro hn1 hn2);have hxl:=hX.lt;have hol:=(by obtain⟨_,h,_⟩:=hV;exact h.lt:ob<wc.heap.size)
  clear hX hV hbx hM1 hmo1 hR1 hW1 ho1 ho2 ho3 hn1 hn2;go_wp2_with fail;go_loopw [6] (fun i wr=>∃k:Nat,k≤n∧i= .int .i64 k∧VRow wr ob (fillK o k)∧Wr (fun b=>b=ob) wc wr) (fun i _=>n-(intOf i).toNat)
  case atStart=>exact⟨0,by omega,rfl,HV.out,Wr.refl _ _⟩
  case round=>
   obtain⟨k,hk,rfl,hVk,hwr⟩:=hrel;have hxr:=HX.out.wr hwr hne;have hbr:=HBX.out.wr hwr (show¬w.heap.size=ob by omega);have hB':Below base w wr:=(HW1.out.below hbs (fun k hk=>by rcases hk with h|h;exact(HO.out k h).1;exact h▸hpb)).trans (hwr.below (by have:=HW1.out.size;omega) (fun k hk=>by omega));have c0:wr.cell? ⟨w.heap.size,0,none⟩=some (.int .i64 sz):=hbr.cell (j:=0) rfl;have c2:wr.cell? ⟨w.heap.size,2,none⟩=some (.slice A n cap):=hbr.cell (j:=2) rfl;have d1:wr.cell? ⟨xb,1,none⟩=some (.slice (some ⟨ob,0,none⟩) ct ct):=hxr.cell (j:=1) rfl;have hzw:=hwr.size;have HWR:=Lib.hid hwr;by_cases hlt:k<n
   ·obtain⟨b,off,y,rfl,hb,hy,hy0,_⟩:=(HL.out.below hB' (Nat.le_refl _)).get hlt;simp only[Nat.mul_one,Nat.add_zero]at hy0;have hkc:k<(fillK o k).length:=by rw[fillK_length,HCT.out];simp;omega
    have hg:=fillK_get o k (by rw[HCT.out];simp;omega);obtain⟨cv,hvr,hvi⟩:=hVk;have e1:=hvr.cell (hvi.2 k _ hg).2;have e2:=hvr.free (k*2+1);have HVK:=Lib.hid (show VRow wr ob (fillK o k)from⟨cv,hvr,hvi⟩);have HY:=Lib.hid hy;have HG:=Lib.hid hg;have hk1:(k:Int)<(n:Int):=by omega
    have hk2:(k:Int)<(ct:Int):=by omega
    have hbl:b<wr.heap.size:=by have:=hB'.size;omega
    clear hvr hvi hy hg hwr hkc hxr hbr hB';go_wp2_with fail;refine still_tail 13 (by kernel_rfl) (by kernel_rfl) ?_;simp only[List.take_succ_cons,List.take_zero,List.drop_succ_cons,List.drop_zero]
    repeat still_step
    still_call ((stored_any sz y _ hsz0).mono fun _ _ h=>⟨h.1,h.2.symm⟩)
    repeat still_step
    try refine wpStill_nil ?_
    go_wp2_with fail;go_roundw
    case rel=>
     refine⟨k+1,by omega,by go_num,?_,?_⟩
     ·have h1:=HVK.out.setN k ⟨0,0⟩ (storedF sz y) HG.out;have h2:=fillK_succ o k (by rw[HCT.out];simp;omega);rw[HSZ'.out,Int.toNat_natCast,List.getD_eq_getElem?_getD,HY.out]at h2;rw[←h2];exact h1
     ·exact(HWR.out.trans (Wr.cell1 _ _ _ _) (fun i h=>Or.inl h)).trans (Wr.of_below (F:=fun _=>False) (Below.refl _ _).drew) (fun i h=>h.elim)
    case measure=>simp[intOf];omega
   ·obtain rfl:k=n:=by omega
    obtain⟨xs,hx,hox⟩:=(HM1.out.wr HMO1.out hwr (fun i hi ho=>HN.out.1 (hi▸ho))).row;obtain⟨cv,hvr,hvi⟩:=id hVk;have hpne:¬pb=ob:=(by obtain⟨_,h,_⟩:=HV.out;exact HR1.out.ne h HT.out.1)
    have hpne2:¬pb=xb:=HR1.out.ne HX.out HT.out.2;have hRr:=HR1.out.wr hwr hpne;have HPOS:=Lib.hid (lt_of_get HP.out);have hpos:po<cs.size:=lt_of_get HP.out;have p0:wr.cell? ⟨pb,po,none⟩=some memv1:=hRr.cell (by rw[Array.getElem?_setIfInBounds_self_of_lt hpos]);have p1:=hRr.free po;have d0:wr.cell? ⟨xb,0,none⟩=some (.int .i64 sz):=hxr.cell (j:=0) rfl;have d2:wr.cell? ⟨xb,2,none⟩=some (.bool true):=hxr.cell (j:=2) rfl;have hpl2:pb<wr.heap.size:=hRr.lt;have hmp:=memBase_pos ([]:List MO);obtain⟨A2,cap2,hmv2⟩:∃A2 cap2,memv1= .slice A2 (memBase ([]:List MO)).length cap2:=(by obtain⟨_,h|⟨g,c,cur,h,_⟩⟩:=id hx;exact absurd h.2 (by omega);exact⟨_,_,h⟩)
    obtain⟨i0,hi,hz0,hz1,hz2⟩:=info_parts obj_info;have HB':=Lib.hid hB';have HRR:=Lib.hid hRr;have HVK:=Lib.hid hVk;have HOX:=Lib.hid hox;have HHX:=Lib.hid hx;have hmn:(memBase ([]:List MO)).length≤1000000000:=by omega
    subst hmv2;clear hxr hbr hB' hwr hVk hvr hvi hRr hx hox;go_wp2_with fail;have hro1:(Value.slice A2 (memBase ([]:List MO)).length cap2).ownBlock≠some pb:=by
     intro e;obtain⟨_,cs',hr'⟩:=ownsRow_row HHX.out e;exact hr'.ne HRR.out (fun h=>HT.out.2 h.symm) rfl
    have hro2:(Value.slice A2 (memBase ([]:List MO)).length cap2).ownBlock≠some xb:=fun e=>HN.out.2 (HMO1.out _ e);have HR1':=Lib.hid hro1;have HR2':=Lib.hid hro2;clear hro1 hro2;have hfz1:∀o,(wr.alloc o).frozen? ⟨pb,po,none⟩=false:=fun o=>(HRR.out.alloc o).free po;have hfz2:∀o,(wr.alloc o).drew.frozen? ⟨pb,po,none⟩=false:=fun o=>((HRR.out.alloc o).drew).free po;go_region_law
     ((refine step_append_lies _ (by rfl) _ _ _ (by rfl) base 103 i0 _ 3 40 Tryz.underlying60 hi hz0 hz1 hz2 rfl (by omega) _ _ _ (by rfl) (own_drew HHX.out _) ⟨wr.heap.size,0,none⟩ 1 1 [.int .i64 sz,.slice (some ⟨ob,0,none⟩) ct ct,.bool true] (by rfl) (by rfl) (row_cells _ _ _ _ rfl) (obj_one _ _ _ _ _) (by omega) (by unfold maxLen;omega) (by omega) (by simp;omega) (wr.heap.size+1) (by simp) ?_;intro gg cap3 w2 hown2 hgrow hat hlt2;have hq:=((HRR.out.alloc (.cells #[.int .i64 sz,.slice (some ⟨ob,0,none⟩) ct ct,.bool true] 103)).drew).wr (Wr.grown (F:=fun k=>(Value.slice A2 (memBase ([]:List MO)).length cap2).ownBlock=some k) hgrow (fun k hk=>hk)) HR1'.out;have hq1:w2.cell? ⟨pb,po,none⟩=some (.slice A2 (memBase ([]:List MO)).length cap2):=hq.cell (by rw[Array.getElem?_setIfInBounds_self_of_lt HPOS.out]);have hq2:=hq.free po;have HQ:=Lib.hid hq;have HGW:=Lib.hid hgrow;have HOW2:=Lib.hid hown2;have HAT:=Lib.hid hat;clear hq hgrow hown2 hat))
    all_goals go_wp2_with fail
    all_goals go_ret
    all_goals exact make_end HT.out HSZ.out HIN.out (by rw[HCT.out];simpa using hct2) hmany HSZ'.out HCT.out HM1.out HMO1.out HR1.out HW1.out HO1.out.1 HO1.out.2.1 HO1.out.2.2 hx2 HN.out.1 HWR.out (by rw[←fillK_all o,HLN.out];exact HVK.out) HHX.out HOX.out HGW.out HOW2.out HAT.out hlt2 HQ.out hbs hpb hpl HO.out
end Go.Proofs.YtlenilbkifofjaaGreatDoor
