/- The page's memory: an object is made. Conditions: as stated. -/
import Derived.Test.YtlenilbkifofjaaGreatDoorQ02Zz
import Derived.Deep.RegionHeld3
import Derived.Deep.AppendLies
import Derived.Deep.RegionLaw
import Derived.Deep.DrawnRows
import Derived.Deep.DeepCutAuto
set_option linter.unusedVariables false
set_option linter.unusedSimpArgs false
set_option maxHeartbeats 8000000
set_option maxRecDepth 100000
namespace Go.Proofs.YtlenilbkifofjaaGreatDoor
open Go.RowKit
attribute [local go_sem ↓] Go.wp_at_zero Go.wp_at_succ
theorem set_same{cs:Array Value}{j:Nat}{v:Value}(h:cs[j]? =some v):cs.setIfInBounds j v=cs:=by
 apply Array.ext_getElem?;intro i;by_cases e:j=i
 ·subst e;rw[Array.getElem?_setIfInBounds_self,h];have:j<cs.size:=by
   rcases Nat.lt_or_ge j cs.size with h'|h'
   ·exact h'
   ·rw[Array.getElem?_eq_none h']at h;cases h
  simp[this]
 ·rw[Array.getElem?_setIfInBounds_ne e]
theorem lt_of_get{cs:Array Value}{j:Nat}{v:Value}(h:cs[j]? =some v):j<cs.size:=by
 rcases Nat.lt_or_ge j cs.size with h'|h'
 ·exact h'
 ·rw[Array.getElem?_eq_none h']at h;cases h
theorem obj_info:(Tryz.prog.info? 103).map (fun i=>(i.zero,i.size,i.bytes))=some (some (.agg #[.int .i64 0,.slice none 0 0,.bool false]),3,40):=by kernel_rfl
theorem own_drew{w:World}{base:Nat}{e:TypeId}{size:Nat}{v:Value}{n:Nat}{xs:List Value}(h:w.ownsRow base e size v n xs)(o:Obj):(w.alloc o).drew.ownsRow base e size v n xs:=
 ownsRow_wr h (Wr.of_below (F:=fun _=>False) (below1 w o).drew) (fun _ _ h=>h)
theorem row_cells(w:World)(cs:List Value)(t:TypeId)(r:Nat)(hr:r=w.heap.size):∀(j:Nat)(u:Value),cs[j]? =some u→(w.alloc (.cells cs.toArray t)).drew.cell? ((⟨r,0,none⟩:Addr).add j)=some u:=by
 subst hr;intro j u hj;rw[addr0];exact(Row.new w cs.toArray t).drew.cell (by simpa using hj)
theorem row_cells1(w:World)(cs:List Value)(t:TypeId)(r:Nat)(hr:r=w.heap.size):∀(j:Nat)(u:Value),cs[j]? =some u→(w.alloc (.cells cs.toArray t)).cell? ((⟨r,0,none⟩:Addr).add j)=some u:=row_cells w cs t r hr
theorem own_two'{w:World}{base:Nat}{e:TypeId}{size:Nat}{v:Value}{n:Nat}{xs:List Value}(h:w.ownsRow base e size v n xs)(o o':Obj):((w.alloc o).alloc o').ownsRow base e size v n xs:=
 ownsRow_wr h (Wr.of_below (F:=fun _=>False) (below2 w o o')) (fun _ _ h=>h)
theorem obj_one(a:Int)(v:Option Addr)(n m:Nat)(b:Bool):∀u:Value,u∈[Value.int .i64 a,.slice v n m,.bool b]→u.oneCell'=true:=by
 intro u hu;simp at hu;rcases hu with rfl|rfl|rfl<;>rfl
def MakeSays(base:Nat)(own:Nat→Prop)(pb po:Nat)(cs:Array Value)(t:TypeId)(M:List MO)(o:ObS)(w:World)(e:Ending)(w':World):Prop:=
 e= .returned (.int .i64 (memBase M).length)∧∃(own':Nat→Prop)(memv':Value)(rb':Nat→Nat),(∀k,own k→own' k)∧(∀k,own' k→own k∨w.heap.size≤k)∧(∀k,own' k→k<w'.heap.size)∧
  MemW w' base own' memv' rb' (makeF M o)∧(∀g,memv'.ownBlock=some g→own' g)∧Row w' pb (cs.setIfInBounds po memv') t∧Wr (fun k=>own k∨k=pb) w w'
theorem make_end{w wc wr w2:World}{base pb po ob ct sz gg cap2 cap3:Nat}{own own1:Nat→Prop}{cs:Array Value}{t:TypeId}{M:List MO}{o:ObS}{rb:Nat→Nat}{A2:Option Addr}{xs:List Value}{X:Obj}
  (ht:t≠70∧t≠103)(hsz:o.size=1∨o.size=2∨o.size=4∨o.size=8)(hin:∀x,x∈o.init→In64 x)(hc:o.count.toNat≤64)(hmany:(memBase M).length+1≤1000000000)(hsz':o.size=sz)(hct:o.count=ct)
  (hM1:MemW wc base own1 (.slice A2 (memBase M).length cap2) rb (memBase M))(hmo:∀g,(Value.slice A2 (memBase M).length cap2).ownBlock=some g→own1 g)(hR1:Row wc pb (cs.setIfInBounds po (.slice A2 (memBase M).length cap2)) t)
  (hW1:Wr (fun k=>own k∨k=pb) w wc)(ho1:∀k,own k→own1 k)(ho2:∀k,own1 k→own k∨w.heap.size<k)(ho3:∀k,own1 k→k<wc.heap.size)(hob:w.heap.size<ob)(hnob:¬own1 ob)(hwr:Wr (fun b=>b=ob) wc wr)(hV:VRow wr ob (fillF o))
  (hx:wr.ownsRow base 103 3 (.slice A2 (memBase M).length cap2) (memBase M).length xs)(hox:∀k x,(memBase M)[k]? =some x→ObjIn xs rb k x)
  (hg:(wr.alloc X).drew.grownBy w2 (Value.slice A2 (memBase M).length cap2).ownBlock)(hown2:w2.ownsRow base 103 3 (.slice (some ⟨gg,0,none⟩) ((memBase M).length+1) cap3) ((memBase M).length+1) (xs++[.int .i64 sz,.slice (some ⟨ob,0,none⟩) ct ct,.bool true]))
  (hat:(Value.slice A2 (memBase M).length cap2).ownBlock=some gg∨gg=wr.heap.size+1)(hlt2:gg<w2.heap.size)(hq:Row w2 pb (cs.setIfInBounds po (.slice A2 (memBase M).length cap2)) t)(hbs:base≤w.heap.size)(hpb:base≤pb)(hpl:pb<w.heap.size)(hown:∀k,own k→base≤k∧k<w.heap.size):
  MakeSays base own pb po cs t M o w (.returned (.int .i64 (memBase M).length)) (w2.setCell ⟨pb,po,none⟩ (.slice (some ⟨gg,0,none⟩) ((memBase M).length+1) cap3)):=by
 have hMr:=hM1.wr hmo hwr (fun k hk ho=>hnob (hk▸ho));have hmp:=memBase_pos M;have hz1:=hW1.size;have hz2:=hwr.size;have hz3:=hg.size;simp only[World.size_drew,World.size_alloc]at hz3;have hrowo:∀g,(Value.slice A2 (memBase M).length cap2).ownBlock=some g→∃cs',Row wr g cs' 103:=fun g h=>(ownsRow_row hx h).2;have hwg:Wr (fun k=>(Value.slice A2 (memBase M).length cap2).ownBlock=some k) (wr.alloc X).drew w2:=Wr.grown hg (fun k hk=>hk);have hws:=Wr.cell1 w2 pb po (.slice (some ⟨gg,0,none⟩) ((memBase M).length+1) cap3);have keepV:∀g l,VRow wr g l→VRow (w2.setCell ⟨pb,po,none⟩ (.slice (some ⟨gg,0,none⟩) ((memBase M).length+1) cap3)) g l:=by
  rintro g l ⟨cv,hr,hv⟩;have h1:Row w2 g cv 70:=((hr.alloc X).drew).wr hwg (fun h=>by obtain⟨cs',h'⟩:=hrowo g h;exact hr.ne h' (by decide) rfl);exact⟨cv,h1.wr hws (fun h=>h1.ne hq (fun h=>ht.1 h.symm) h),hv⟩
 have hok:=makeF_ok hM1.ok;have hmok:MemOk (makeF M o):=by
  have h:=memBase_ok (M:=M);have hb:=hM1.ok;rw[makeF_eq];have h3:=makeF_ok hb o hsz hc hin (by
   have:memBase (memBase M)=memBase M:=by unfold memBase;split<;>simp_all
   rw[this];omega)
  rw[makeF_eq]at h3;have:memBase (memBase M)=memBase M:=by unfold memBase;split<;>simp_all
  rw[this]at h3;exact h3
 have hfl:(fillF o).length=ct:=by simp[fillF,hct]
 refine⟨rfl,fun k=>own1 k∨k=ob∨k=gg,.slice (some ⟨gg,0,none⟩) ((memBase M).length+1) cap3,fun k=>if k=(memBase M).length then ob else rb k,fun k hk=>Or.inl (ho1 k hk),fun k hk=>?_,fun k hk=>?_,?_,fun g h=>?_,?_,?_⟩
 ·rcases hk with hk|rfl|rfl
  ·rcases ho2 k hk with h|h
   ·exact Or.inl h
   ·exact Or.inr (by omega)
  ·exact Or.inr (by omega)
  ·rcases hat with h|h
   ·rcases ho2 _ (hmo _ h)with h|h
    ·exact Or.inl h
    ·exact Or.inr (by omega)
   ·exact Or.inr (by omega)
 ·simp only[World.size_setCell];rcases hk with hk|rfl|rfl
  ·have:=ho3 k hk;omega
  ·obtain⟨_,h,_⟩:=hV;have:=h.lt;omega
  ·exact hlt2
 ·refine MemW.push (M:=memBase M) (o:=⟨o.size,fillF o,true⟩) hMr hmp hox ?_ ?_ (fun k x hk hx'=>keepV _ _ (hMr.mine k x hk hx').2) (keepV _ _ hV) hnob (fun k hk=>Or.inl hk) (Or.inr (Or.inl rfl)) hmok
  ·exact hx.1
  ·simp only[hfl,hsz'];exact ownsRow_wr hown2 hws (fun g h h'=>by obtain⟨_,cs',hr⟩:=ownsRow_row hown2 h;exact hr.ne hq (fun h=>ht.2 h.symm) h')
 ·simp only[Value.ownBlock,Option.some.injEq]at h;exact Or.inr (Or.inr h.symm)
 ·have:=hq.set po (.slice (some ⟨gg,0,none⟩) ((memBase M).length+1) cap3);rw[Array.setIfInBounds_setIfInBounds]at this;exact this
 ·refine(((hW1.trans hwr (fun i hi=>Or.inr (by omega))).trans (Wr.of_below (F:=fun _=>False) (below1 wr X).drew) (fun i hi=>hi.elim)).trans hwg (fun i hi=>?_)).trans hws (fun i hi=>Or.inl (Or.inr hi));rcases ho2 i (hmo i hi)with h|h
  ·exact Or.inl (Or.inl h)
  ·exact Or.inr (by omega)
theorem make_more(pb po base:Nat)(own:Nat→Prop)(memv:Value)(rb:Nat→Nat)(M:List MO)(cs:Array Value)(t:TypeId)(o:ObS)(ct:Nat)(A:Option Addr)(n cap:Nat)(w:World)
  (hR:Row w pb cs t)(hp:cs[po]? =some memv)(ht:t≠70∧t≠103)(hM:MemW w base own memv rb M)(hmo:∀g,memv.ownBlock=some g→own g)(hown:∀k,own k→base≤k∧k<w.heap.size)(hbs:base≤w.heap.size)(hpb:base≤pb)
  (hct:o.count=ct)(hct1:1≤ct)(hct2:ct≤64)(hn:n≤ct)(hl:LongsAt w base o.init (.slice A n cap))(hsz:o.size=1∨o.size=2∨o.size=4∨o.size=8)(hin:∀x,x∈o.init→In64 x)(hmany:(memBase M).length+1≤1000000000)(hMe:M≠[]):
  Calls Tryz.prog 23 #[.pointer (some ⟨pb,po,none⟩),.agg #[.int .i64 o.size,.int .i64 ct,.slice A n cap]] w fun e w'=>MakeSays base own pb po cs t M o w e w':=by
 have hpl:=hR.lt;have HR:=Lib.hid hR;have HO:=Lib.hid hown;have HMO:=Lib.hid hmo;have HP:=Lib.hid hp;have HT:=Lib.hid ht;obtain⟨sz,hsz',hsz0⟩:∃sz:Nat,o.size=sz∧(sz=1∨sz=2∨sz=4∨sz=8):=(by rcases hsz with h|h|h|h;exact⟨1,h,by omega⟩;exact⟨2,h,by omega⟩;exact⟨4,h,by omega⟩;exact⟨8,h,by omega⟩)
 have HL:=Lib.hid hl;have hln:=hl.len;have HLN:=Lib.hid hln.1;have HSZ:=Lib.hid hsz;have HIN:=Lib.hid hin;have HM:=Lib.hid hM;have HCT:=Lib.hid hct;have HSZ':=Lib.hid hsz';rw[hsz'];have HNS:=Lib.hid (show∀k,own k→k≠w.heap.size∧k<w.heap.size from fun k hk=>by have:=hown k hk;omega);obtain⟨xs,hx,hox⟩:=hM.row;have hml:0<M.length:=by cases M with|nil=>exact absurd rfl hMe|cons a l=>simp
 have hmb:memBase M=M:=by unfold memBase;rw[if_neg hMe]
 obtain⟨A1,cap1,hmv⟩:∃A1 cap1,memv= .slice A1 M.length cap1:=(by obtain⟨_,h|⟨g,c,cur,h,_⟩⟩:=hx;exact absurd h.2 (by omega);exact⟨_,_,h⟩)
 subst hmv;have p0:w.cell? ⟨pb,po,none⟩=some (.slice A1 M.length cap1):=hR.cell hp;have hm1:((M.length:Int)==0)=false:=by simp;omega
 have HMB:=Lib.hid hmb;clear hM hMe hR hp ht hmo hown hx hox hmb hct hl hln hsz hin hsz';obtain⟨Z,hZ,hmk⟩:=make_vals ct (by omega);have HZ:=Lib.hid hZ;clear hZ;go_enter Tryz.func23,Tryz.ntmps23;go_upto_region 3 with fail;go_cut [5] (fun v5 wx=>∃(xb ob:Nat)(own1:Nat→Prop)(memv1:Value),v5= .pointer (some ⟨xb,0,none⟩)∧Row wx xb #[.int .i64 sz,.slice (some ⟨ob,0,none⟩) ct ct,.bool true] 103∧VRow wx ob (fillK o 0)∧¬xb=ob∧w.heap.size<xb∧w.heap.size<ob∧
   Row wx w.heap.size #[.int .i64 sz,.int .i64 ct,.slice A n cap] 68∧MemW wx base own1 memv1 rb (memBase M)∧(∀g,memv1.ownBlock=some g→own1 g)∧Row wx pb (cs.setIfInBounds po memv1) t∧Wr (fun k=>own k∨k=pb) w wx∧(∀k,own k→own1 k)∧(∀k,own1 k→own k∨w.heap.size<k)∧¬own1 ob∧¬own1 xb∧(∀k,own1 k→k<wx.heap.size))
 case first=>
  go_region
  all_goals go_wp2_with fail
  all_goals go_meet
  all_goals
   have hfin:∀wx,Below w.heap.size w wx→MemW wx base own (.slice A1 M.length cap1) rb (memBase M)∧Row wx pb (cs.setIfInBounds po (.slice A1 M.length cap1)) t∧Wr (fun k=>own k∨k=pb) w wx∧(∀k,own k→k<wx.heap.size):=fun wx hb=>
    ⟨HMB.out.symm▸HM.out.wr HMO.out (Wr.of_below (F:=fun _=>False) hb) (fun _ h=>h.elim),(set_same HP.out).symm▸HR.out.below hb hpl,Wr.of_below hb,fun k hk=>by have:=(HO.out k hk).2;have:=hb.size;omega⟩
  ·obtain⟨f1,f2,f3,f4⟩:=hfin _ ((below3 w (.cells #[.int .i64 sz,.int .i64 ct,.slice A n cap] 68) (.cells Z 70) (.cells #[.int .i64 sz,.slice (some ⟨w.heap.size+1,0,none⟩) ct ct,.bool true] 103)).drew);exact⟨w.heap.size+1+1,w.heap.size+1,own,.slice A1 M.length cap1,rfl,(Row.new' _ _ (by simp)).drew,⟨Z,((Row.new' _ _ (by simp)).alloc _).drew,by rw[fillK_zero,HCT.out,Int.toNat_natCast];exact HZ.out⟩,by omega,by omega,by omega,
    (((Row.new _ _ _).alloc _).alloc _).drew,f1,HMO.out,f2,f3,fun _ h=>h,fun _ h=>Or.inl h,fun h=>by have:=(HO.out _ h).2;omega,fun h=>by have:=(HO.out _ h).2;omega,f4⟩
  ·obtain⟨f1,f2,f3,f4⟩:=hfin _ ((below3 w (.cells #[.int .i64 sz,.int .i64 ct,.slice A n cap] 68) (.cells #[.int .i64 sz,.slice (some ⟨w.heap.size+1+1,0,none⟩) ct ct,.bool true] 103) (.cells Z 70)).drew);exact⟨w.heap.size+1,w.heap.size+1+1,own,.slice A1 M.length cap1,rfl,((Row.new' _ _ (by simp)).alloc _).drew,⟨Z,(Row.new' _ _ (by simp)).drew,by rw[fillK_zero,HCT.out,Int.toNat_natCast];exact HZ.out⟩,by omega,by omega,by omega,
    (((Row.new _ _ _).alloc _).alloc _).drew,f1,HMO.out,f2,f3,fun _ h=>h,fun _ h=>Or.inl h,fun h=>by have:=(HO.out _ h).2;omega,fun h=>by have:=(HO.out _ h).2;omega,f4⟩
 case rest=>
  obtain⟨xb,ob,own1,memv1,rfl,hX,hV,hne,hx1,hx2,hbx,hM1,hmo1,hR1,hW1,ho1,ho2,hn1,hn2,ho3⟩:=hcut;have HX:=Lib.hid hX;have HV:=Lib.hid hV;have HBX:=Lib.hid hbx;have HM1:=Lib.hid hM1;have HMO1:=Lib.hid hmo1;have HR1:=Lib.hid hR1;have HW1:=Lib.hid hW1;have HO1:=Lib.hid (And.intro ho1 (And.intro ho2 ho3));have HN:=Lib.hid (And.intro hn1 hn2);have hxl:=hX.lt;have hol:=(by obtain⟨_,h,_⟩:=hV;exact h.lt:ob<wc.heap.size)
  clear hX hV hbx hM1 hmo1 hR1 hW1 ho1 ho2 ho3 hn1 hn2;go_wp2_with fail;go_loopw [6] (fun i wr=>∃k:Nat,k≤n∧i= .int .i64 k∧VRow wr ob (fillK o k)∧Wr (fun b=>b=ob) wc wr) (fun i _=>n-(intOf i).toNat)
  case atStart=>exact⟨0,by omega,rfl,HV.out,Wr.refl _ _⟩
  case round=>
   obtain⟨k,hk,rfl,hVk,hwr⟩:=hrel;have hxr:=HX.out.wr hwr hne;have hbr:=HBX.out.wr hwr (show¬w.heap.size=ob by omega);have hB':Below base w wr:=(HW1.out.below hbs (fun k hk=>by rcases hk with h|h;exact(HO.out k h).1;exact h▸hpb)).trans (hwr.below (by have:=HW1.out.size;omega) (fun k hk=>by omega));have c0:wr.cell? ⟨w.heap.size,0,none⟩=some (.int .i64 sz):=hbr.cell (j:=0) rfl;have c2:wr.cell? ⟨w.heap.size,2,none⟩=some (.slice A n cap):=hbr.cell (j:=2) rfl;have d1:wr.cell? ⟨xb,1,none⟩=some (.slice (some ⟨ob,0,none⟩) ct ct):=hxr.cell (j:=1) rfl;have hzw:=hwr.size;have HWR:=Lib.hid hwr;by_cases hlt:k<n
   ·obtain⟨b,off,y,rfl,hb,hy,hy0,_⟩:=(HL.out.below hB' (Nat.le_refl _)).get hlt;simp only[Nat.mul_one,Nat.add_zero]at hy0;have hkc:k<(fillK o k).length:=by rw[fillK_length,HCT.out];simp;omega
    have hg:=fillK_get o k (by rw[HCT.out];simp;omega);obtain⟨cv,hvr,hvi⟩:=hVk;have e1:=hvr.cell (hvi.2 k _ hg).2;have e2:=hvr.free (k*2+1);have HVK:=Lib.hid (show VRow wr ob (fillK o k)from⟨cv,hvr,hvi⟩);have HY:=Lib.hid hy;have HG:=Lib.hid hg;have hk1:(k:Int)<(n:Int):=by omega
    have hk2:(k:Int)<(ct:Int):=by omega
    have hbl:b<wr.heap.size:=by have:=hB'.size;omega
    clear hvr hvi hy hg hwr hkc hxr hbr hB';go_wp2_with fail;refine still_tail 13 (by kernel_rfl) (by kernel_rfl) ?_;simp only[List.take_succ_cons,List.take_zero,List.drop_succ_cons,List.drop_zero]
    repeat still_step
    still_call ((stored_any sz y _ hsz0).mono fun _ _ h=>⟨h.1,h.2.symm⟩)
    repeat still_step
    try refine wpStill_nil ?_
    go_wp2_with fail;go_roundw
    case rel=>
     refine⟨k+1,by omega,by go_num,?_,?_⟩
     ·have h1:=HVK.out.setN k ⟨0,0⟩ (storedF sz y) HG.out;have h2:=fillK_succ o k (by rw[HCT.out];simp;omega);rw[HSZ'.out,Int.toNat_natCast,List.getD_eq_getElem?_getD,HY.out]at h2;rw[←h2];exact h1
     ·exact(HWR.out.trans (Wr.cell1 _ _ _ _) (fun i h=>Or.inl h)).trans (Wr.of_below (F:=fun _=>False) (Below.refl _ _).drew) (fun i h=>h.elim)
    case measure=>simp[intOf];omega
   ·obtain rfl:k=n:=by omega
    obtain⟨xs,hx,hox⟩:=(HM1.out.wr HMO1.out hwr (fun i hi ho=>HN.out.1 (hi▸ho))).row;obtain⟨cv,hvr,hvi⟩:=id hVk;have hpne:¬pb=ob:=(by obtain⟨_,h,_⟩:=HV.out;exact HR1.out.ne h HT.out.1)
    have hpne2:¬pb=xb:=HR1.out.ne HX.out HT.out.2;have hRr:=HR1.out.wr hwr hpne;have HPOS:=Lib.hid (lt_of_get HP.out);have hpos:po<cs.size:=lt_of_get HP.out;have p0:wr.cell? ⟨pb,po,none⟩=some memv1:=hRr.cell (by rw[Array.getElem?_setIfInBounds_self_of_lt hpos]);have p1:=hRr.free po;have d0:wr.cell? ⟨xb,0,none⟩=some (.int .i64 sz):=hxr.cell (j:=0) rfl;have d2:wr.cell? ⟨xb,2,none⟩=some (.bool true):=hxr.cell (j:=2) rfl;have hpl2:pb<wr.heap.size:=hRr.lt;have hmp:=memBase_pos M;obtain⟨A2,cap2,hmv2⟩:∃A2 cap2,memv1= .slice A2 (memBase M).length cap2:=(by obtain⟨_,h|⟨g,c,cur,h,_⟩⟩:=id hx;exact absurd h.2 (by omega);exact⟨_,_,h⟩)
    obtain⟨i0,hi,hz0,hz1,hz2⟩:=info_parts obj_info;have HB':=Lib.hid hB';have HRR:=Lib.hid hRr;have HVK:=Lib.hid hVk;have HOX:=Lib.hid hox;have HHX:=Lib.hid hx;have hmn:(memBase M).length≤1000000000:=by omega
    subst hmv2;clear hxr hbr hB' hwr hVk hvr hvi hRr hx hox;go_wp2_with fail;have hro1:(Value.slice A2 (memBase M).length cap2).ownBlock≠some pb:=by
     intro e;obtain⟨_,cs',hr'⟩:=ownsRow_row HHX.out e;exact hr'.ne HRR.out (fun h=>HT.out.2 h.symm) rfl
    have hro2:(Value.slice A2 (memBase M).length cap2).ownBlock≠some xb:=fun e=>HN.out.2 (HMO1.out _ e);have HR1':=Lib.hid hro1;have HR2':=Lib.hid hro2;clear hro1 hro2;have hfz1:∀o,(wr.alloc o).frozen? ⟨pb,po,none⟩=false:=fun o=>(HRR.out.alloc o).free po;have hfz2:∀o,(wr.alloc o).drew.frozen? ⟨pb,po,none⟩=false:=fun o=>((HRR.out.alloc o).drew).free po;go_region_law
     ((refine step_append_lies _ (by rfl) _ _ _ (by rfl) base 103 i0 _ 3 40 Tryz.underlying60 hi hz0 hz1 hz2 rfl (by omega) _ _ _ (by rfl) (own_drew HHX.out _) ⟨wr.heap.size,0,none⟩ 1 1 [.int .i64 sz,.slice (some ⟨ob,0,none⟩) ct ct,.bool true] (by rfl) (by rfl) (row_cells _ _ _ _ rfl) (obj_one _ _ _ _ _) (by omega) (by unfold maxLen;omega) (by omega) (by simp;omega) (wr.heap.size+1) (by simp) ?_;intro gg cap3 w2 hown2 hgrow hat hlt2;have hq:=((HRR.out.alloc (.cells #[.int .i64 sz,.slice (some ⟨ob,0,none⟩) ct ct,.bool true] 103)).drew).wr (Wr.grown (F:=fun k=>(Value.slice A2 (memBase M).length cap2).ownBlock=some k) hgrow (fun k hk=>hk)) HR1'.out;have hq1:w2.cell? ⟨pb,po,none⟩=some (.slice A2 (memBase M).length cap2):=hq.cell (by rw[Array.getElem?_setIfInBounds_self_of_lt HPOS.out]);have hq2:=hq.free po;have HQ:=Lib.hid hq;have HGW:=Lib.hid hgrow;have HOW2:=Lib.hid hown2;have HAT:=Lib.hid hat;clear hq hgrow hown2 hat))
    all_goals go_wp2_with fail
    all_goals go_ret
    all_goals exact make_end HT.out HSZ.out HIN.out (by rw[HCT.out];simpa using hct2) hmany HSZ'.out HCT.out HM1.out HMO1.out HR1.out HW1.out HO1.out.1 HO1.out.2.1 HO1.out.2.2 hx2 HN.out.1 HWR.out (by rw[←fillK_all o,HLN.out];exact HVK.out) HHX.out HOX.out HGW.out HOW2.out HAT.out hlt2 HQ.out hbs hpb hpl HO.out
end Go.Proofs.YtlenilbkifofjaaGreatDoor
