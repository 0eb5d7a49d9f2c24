/- gantletref14: the labels' rows; an instruction that calls. Conditions: as stated. -/
import Derived.Test.YtlenilbkifofjaaGreatDoorRDoesFZz
import Derived.Test.YtlenilbkifofjaaGreatDoorQ11Zz
import Derived.Test.YtlenilbkifofjaaGreatDoorQ10Zz
import Derived.Test.YtlenilbkifofjaaGreatDoorQ07Zz
import Derived.Deep.AppendLies
import Derived.Deep.RegionHeld3
import Derived.Deep.DrawnRows
import Derived.BigRegion
import Derived.Outline
set_option linter.unusedVariables false
set_option linter.unusedSimpArgs false
set_option maxHeartbeats 8000000
set_option maxRecDepth 100000
namespace Go.Proofs.YtlenilbkifofjaaGreatDoor
open Go.RowKit
structure RLabs (w:World) (own:Nat→Prop) (B:Nat) (v:Value) (p:VirtS):Prop where
 lie:∃ab ac,v= .slice (some ⟨ab,0,none⟩) p.funcs.length ac∧¬own ab∧ab<B∧∀f c,p.funcs[f]? =some c→∃lb lc,w.cell? ⟨ab,f,none⟩=some (.slice (some ⟨lb,0,none⟩) 8000 lc)∧IntsAt w lb 8000 (labK c.ins c.ins.length)∧¬own lb∧lb<B
theorem RLabs.wr{F:Nat→Prop}{w w':World}{B:Nat}{own:Nat→Prop}{v:Value}{p:VirtS}(h:RLabs w own B v p)(hw:Wr F w w')(hF:∀k,F k→own k∨B≤k)(hB:B≤w.heap.size):RLabs w' own B v p:=by
 obtain⟨ab,ac,h1,h2,h3,h4⟩:=h.lie;have hn:∀k,¬own k→k<B→¬F k:=fun k h1 h2 h3=>(hF k h3).elim h1 (fun h=>by omega);refine⟨ab,ac,h1,h2,h3,fun f c hf=>?_⟩;obtain⟨lb,lc,g1,g2,g3,g4⟩:=h4 f c hf;exact⟨lb,lc,(World.cell?_of_block (a:=⟨ab,f,none⟩) (hw.block ab (by omega) (hn ab h2 h3))).trans g1,g2.wr hw (hn lb g3 g4),g3,g4⟩
theorem RLabs.up{w:World}{B:Nat}{own own':Nat→Prop}{v:Value}{p:VirtS}(h:RLabs w own B v p)(hu:∀k,own' k→own k∨B≤k):RLabs w own' B v p:=by
 obtain⟨ab,ac,h1,h2,h3,h4⟩:=h.lie;have hn:∀k,¬own k→k<B→¬own' k:=fun k h1 h2 h3=>(hu k h3).elim h1 (fun h=>by omega);refine⟨ab,ac,h1,hn ab h2 h3,h3,fun f c hf=>?_⟩;obtain⟨lb,lc,g1,g2,g3,g4⟩:=h4 f c hf;exact⟨lb,lc,g1,g2,hn lb g3 g4,g4⟩
theorem RLabs.mono{w:World}{B B':Nat}{own:Nat→Prop}{v:Value}{p:VirtS}(h:RLabs w own B v p)(hB:B≤B'):RLabs w own B' v p:=by
 obtain⟨ab,ac,h1,h2,h3,h4⟩:=h.lie;refine⟨ab,ac,h1,h2,by omega,fun f c hf=>?_⟩;obtain⟨lb,lc,g1,g2,g3,g4⟩:=h4 f c hf;exact⟨lb,lc,g1,g2,g3,by omega⟩
def RCallOk(p:VirtS)(fuel c:Int)(R:CallR):Prop:=
 ∀(f:Nat)(g:CodeS)(args:List V)(s:St)(base mc:Nat)(own:Nat→Prop)(P:Value×Value×Value×Value)(AA:Option Addr)(an acap:Nat)(w:World),
  p.funcs[f]? =some g→(args.length:Int)=g.params→RMach w base mc own P fuel s→VirtAt w base (P.1,P.2.1,P.2.2.1) p→RLabs w own w.heap.size P.2.2.2 p→GInv fuel s→s.calls=c→p.globs.length<(memBase s.mem).length→(∀v,v∈args→VOk (memBase s.mem).length v)→args.length=an→
  (∀j v,args[j]? =some v→∃b off,AA=some ⟨b,off,none⟩∧b<w.heap.size∧¬own b∧ValCells w b (off+j*2) v)→
  Calls Tryz.prog 24 #[.pointer (some ⟨mc,0,none⟩),.int .i64 f,.slice AA an acap] w fun e w'=>RCallSays base mc own P fuel (R f args s) w e w'
theorem RMach.base{w:World}{base mc:Nat}{own:Nat→Prop}{P:Value×Value×Value×Value}{fuel:Int}{s:St}(h:RMach w base mc own P fuel s):own mc∧base≤mc∧mc<w.heap.size∧∀k,own k→base≤k∧k<w.heap.size:=by
 obtain⟨_,_,_,_,h⟩:=h;exact⟨h.mine,(h.rest.own mc h.mine).1,(h.rest.own mc h.mine).2,h.rest.own⟩
theorem rdoes_call(base mc fb tb:Nat)(own:Nat→Prop)(P:Value×Value×Value×Value)(lv:Value)(fuel:Int)(s:St)(tp:List V)(lo:List Nat)(R:CallR)(p:VirtS)(f:Nat)(g:CodeS)(dst a b:Int)(arg:List Int)(A:Option Addr)(cap:Nat)(w:World)
  (h:RMach w base mc own P fuel s)(hF:RFrame w fb tb tp lv lo)(hO:OffAt base own fb tb lv)(hFr:FrOk (memBase s.mem) tp lo p.globs.length)(hI:GInv fuel s)
  (hreg:∀r,r∈arg→0≤r∧r<tp.length)(hal:arg.length≤1000)(harg:LongsAt w base arg (.slice A arg.length cap))(hfn:p.funcs[f]? =some g)(hpar:(arg.length:Int)=g.params)(hP:VirtAt w base (P.1,P.2.1,P.2.2.1) p)(hL:RLabs w own w.heap.size P.2.2.2 p)(hC:RCallOk p fuel s.calls R)(hd:dst= -1∨0≤dst∧dst<(tp.length:Int)):
  Calls Tryz.prog 39 #[.pointer (some ⟨mc,0,none⟩),.pointer (some ⟨fb,0,none⟩),.agg #[.int .i64 10,.int .i64 dst,.int .i64 a,.int .i64 b,.int .i64 (f:Int),.slice A arg.length cap]] w fun e w'=>RSays base mc P fuel fb tb lv lo own (callR (R f (argV tp arg) s) tp dst) w e w':=by
 have hbk:=h.base;have hbs:base≤w.heap.size:=by omega
 obtain⟨i0,hi,hz0,hz1,hz2⟩:=info_parts val_info;have HH:=Lib.hid h;have HF:=Lib.hid hF;have HO:=Lib.hid hO;have HFR:=Lib.hid hFr;have HI:=Lib.hid hI;have HREG:=Lib.hid hreg;have HARG:=Lib.hid harg;have HFN:=Lib.hid (And.intro hfn hpar);have HP:=Lib.hid hP;have HL:=Lib.hid hL;have HC:=Lib.hid hC;have HD:=Lib.hid hd;have HBK:=Lib.hid hbk;obtain⟨n,hn⟩:∃n,n=arg.length:=⟨_,rfl⟩
 have HN:=Lib.hid hn;rw[←hn]at hal ⊢;have HX0:=Lib.hid ((Row.new w #[.int .i64 10,.int .i64 dst,.int .i64 a,.int .i64 b,.int .i64 (f:Int),.slice A n cap] 43).alloc (.cells #[.int .i64 0,.int .i64 0] 70));have HT0:=Lib.hid (Row.new' (w:=w.alloc (.cells #[.int .i64 10,.int .i64 dst,.int .i64 a,.int .i64 b,.int .i64 (f:Int),.slice A n cap] 43)) (g:=w.heap.size+1) #[.int .i64 0,.int .i64 0] 70 (by simp));have HB1:=Lib.hid (below2 w (.cells #[.int .i64 10,.int .i64 dst,.int .i64 a,.int .i64 b,.int .i64 (f:Int),.slice A n cap] 43) (.cells #[.int .i64 0,.int .i64 0] 70));have hfb:=hF.row.lt;clear h hF hO hFr hI hreg harg hfn hpar hP hL hC hd hbk hn;go_enter Tryz.func39,Tryz.ntmps39;refine wp_letter (fun Q hQ=>?_);have HQ:=Lib.hid hQ;clear hQ;go_wp2_with fail
 go_loopw [11,12] (fun pv0 i wr=>∃(k:Nat)(pv:Value),pv=pv0∧k≤n∧i= .int .i64 k∧wr.ownsRow (w.heap.size+2) 70 2 pv k (flatV (argV tp (arg.take k)))∧Below (w.heap.size+2) ((w.alloc (.cells #[.int .i64 10,.int .i64 dst,.int .i64 a,.int .i64 b,.int .i64 (f:Int),.slice A n cap] 43)).alloc (.cells #[.int .i64 0,.int .i64 0] 70)) wr) (fun _ i _=>n-(intOf i).toNat)
 case atStart=>exact⟨0,_,rfl,by omega,rfl,World.ownsRow_nil _ _ _ _,Below.refl _ _⟩
 case round=>
  obtain⟨k,pv,rfl,hk,rfl,hown,hbw⟩:=hrel;have hzw:=hbw.size;simp only[World.size_alloc]at hzw;have hx1:=HX0.out.below hbw (by omega);have x5:wr.cell? ⟨w.heap.size,5,none⟩=some (.slice A n cap):=hx1.cell (j:=5) rfl;have hxl:=hx1.lt;by_cases hlt:k<n
  ·obtain⟨ab,aof,r,rfl,hab,hr,hc0,_⟩:=SliceAt.get HARG.out (k:=k) (by rw[←HN.out];exact hlt);simp only[Nat.mul_one,Nat.add_zero]at hc0;obtain⟨hr0,hr1⟩:=HREG.out r (List.mem_of_getElem? hr);obtain⟨rm,rfl⟩:=Int.eq_ofNat_of_zero_le hr0;have hbw0:=HB1.out.trans (hbw.mono (show w.heap.size≤w.heap.size+2 by omega));have HBW:=Lib.hid hbw0;have HOWN:=Lib.hid hown;have HR1:=Lib.hid hr;have hF1:=HF.out.below hbw0;have ft:=hF1.row.cell (j:=0) rfl;have hfb1:=hF1.row.lt;obtain⟨v,hv⟩:∃v,tp[rm]? =some v:=⟨_,List.getElem?_eq_getElem (by omega)⟩
   obtain⟨cs,htr,hvi⟩:=id hF1.temps;have htb1:=htr.lt;have htb0:=(by obtain⟨cs,h,_⟩:=id HF.out.temps;exact h.lt:tb<w.heap.size)
   obtain⟨tv0,tv1⟩:=hvi.2 rm v hv;have t0:=htr.cell tv0;have t1:=htr.cell tv1;have hgd:tp.getD (rm:Int).toNat ⟨0,0⟩=v:=by rw[Int.toNat_natCast,List.getD_eq_getElem?_getD,hv];rfl
   have HGD:=Lib.hid hgd;have c0:=cell_below hc0 (hbw0.mono (show base≤w.heap.size from hbs)) hab;have habl:ab<wr.heap.size:=by omega
   have hklt:(k:Int)<(n:Int):=by omega
   have hk0:(0:Int)≤(k:Int):=by omega
   have htpl:(tp.length:Int)≤1000000:=by have:=hF1.few;omega
   have hr00:(0:Int)≤(rm:Int):=by omega
   have KS:=Lib.hid (fun(W:World)(hW:Below (w.heap.size+2) wr W)=>(⟨cell_below ft hW (by omega),cell_below x5 hW (by omega),cell_below c0 hW (by omega),cell_below t0 hW (by omega),cell_below t1 hW (by omega)⟩:W.cell? ⟨fb,0,none⟩=some (.slice (some ⟨tb,0,none⟩) tp.length tp.length)∧W.cell? ⟨w.heap.size,5,none⟩=some (.slice (some ⟨ab,aof,none⟩) n cap)∧W.cell? ⟨ab,aof+k,none⟩=some (.int .i64 (rm:Int))∧W.cell? ⟨tb,rm*2,none⟩=some (.int .i64 v.obj)∧W.cell? ⟨tb,rm*2+1,none⟩=some (.int .i64 v.n)));clear hown hbw0 hF1 hvi tv0 tv1 htr hv hgd hr hc0 hx1 ft c0 t0 t1;go_wp2_with fail;clear x5
   go_region_held3 (fun w'=>w'.cell? ⟨fb,0,none⟩=some (.slice (some ⟨tb,0,none⟩) tp.length tp.length)∧w'.cell? ⟨w.heap.size,5,none⟩=some (.slice (some ⟨ab,aof,none⟩) n cap)∧w'.cell? ⟨ab,aof+k,none⟩=some (.int .i64 (rm:Int))∧w'.cell? ⟨tb,rm*2,none⟩=some (.int .i64 v.obj)∧w'.cell? ⟨tb,rm*2+1,none⟩=some (.int .i64 v.n)) (first|exact KS.out _ (Below.refl _ _).drew|exact KS.out _ ((below1 _ _).drew.mono (by omega))|exact KS.out _ ((below1 _ _).mono (by omega))|exact KS.out _ hbg|go_keep)
    ((refine step_append_lies _ (by rfl) _ _ _ (by rfl) (w.heap.size+2) 70 i0 _ 2 16 Tryz.underlying101 hi hz0 hz1 hz2 rfl (by omega) _ _ _ (by rfl) (own_drew HOWN.out _) ⟨wr.heap.size,0,none⟩ 1 1 [.int .i64 v.obj,.int .i64 v.n] (by rfl) (by rfl) (row_cells _ _ _ _ (by simp)) (pair_one _ _) (by omega) (by unfold maxLen;omega) (by omega) (by simp;omega) (wr.heap.size+1) (by simp) ?_;intro gg cap3 w2 hown2 hgrow hat hlt2;have hbg:Below (w.heap.size+2) wr w2:=((below1 wr (.cells #[.int .i64 v.obj,.int .i64 v.n] 70)).drew.mono (by omega)).grown hgrow (by simp;omega) (fun g hg=>(HOWN.out.lt g hg).1)))
   have HB2:=Lib.hid (hbw.trans hbg);have HO2:=Lib.hid hown2;clear hown2 hgrow hat hbg;go_wp2_with fail;go_roundw
   case rel=>exact⟨k+1,_,rfl,by omega,by go_num,by rw[argV_next HR1.out HGD.out,flatV_append];exact HO2.out,HB2.out⟩
   case measure=>simp[intOf];omega
  ·obtain rfl:k=n:=by omega
   have hlen:(argV tp arg).length=k:=by unfold argV;rw[List.length_map];exact HN.out.symm
   rw[show arg.take k=arg from by rw[HN.out,List.take_length]]at hown;have hbw0:=HB1.out.trans (hbw.mono (show w.heap.size≤w.heap.size+2 by omega));have HBW:=Lib.hid hbw0;obtain⟨PA,pcap,hpv,hpr,hpp⟩:=rowV_own hown hlen;subst hpv;have hargs:∀W,Below wr.heap.size wr W→∀j v,(argV tp arg)[j]? =some v→∃b off,PA=some ⟨b,off,none⟩∧b<W.heap.size∧¬own b∧ValCells W b (off+j*2) v:=by
    intro W hW j v hj;obtain⟨b,off,h1,h2,h3,h4⟩:=hpp j v hj;have hbn:=(hown.lt b h3).1;exact⟨b,off,h1,by have:=hW.size;omega,fun ho=>by have:=(HBK.out.2.2.2 b ho).2;omega,h4.below hW h2⟩
   have hvok:∀v,v∈argV tp arg→VOk (memBase s.mem).length v:=by
    intro v hv;unfold argV at hv;obtain⟨r,hr,rfl⟩:=List.mem_map.1 hv;obtain⟨h0,h1⟩:=HREG.out r hr;have hlt:r.toNat<tp.length:=by omega
    exact HFR.out.temps _ (by rw[List.getD_eq_getElem?_getD,List.getElem?_eq_getElem hlt];exact List.getElem_mem hlt)
   have HCL:=Lib.hid (HC.out f g (argV tp arg) s base mc own P PA k pcap wr HFN.out.1 (by rw[hlen,HN.out];exact HFN.out.2) (HH.out.below hbw0) (HP.out.below (hbw0.mono hbs))
    ((HL.out.wr (Wr.of_below (F:=fun _=>False) hbw0) (fun _ h=>h.elim) (Nat.le_refl _)).mono hbw0.size) HI.out rfl HFR.out.globs hvok hlen (hargs wr (Below.refl _ _)))
   have x4:=hx1.cell (j:=4) rfl;have HX1:=Lib.hid hx1;have HT1:=Lib.hid (HT0.out.below hbw (by omega));clear hown hpr hpp hargs hvok hlen hbw0 hx1;obtain⟨rr,hrr⟩:∃rr,rr=R f (argV tp arg) s:=⟨_,rfl⟩
   rw[←hrr]at HCL HQ;clear hrr;obtain⟨ro,s2⟩:=rr;have HNO:=Lib.hid (show¬own (w.heap.size+1)∧¬own w.heap.size from⟨fun ho=>by have:=(HBK.out.2.2.2 _ ho).2;omega,fun ho=>by have:=(HBK.out.2.2.2 _ ho).2;omega⟩);cases ro with
   |none=>
    simp only[callR]at HQ;go_wp2_with fail;refine HCL.out.mono ?_;intro e w3 hS;obtain⟨rfl,own',h1,h2,h3,h4⟩:=hS;simp only[ansV];have HH3:=Lib.hid (And.intro h1 (And.intro h2 h3));have HW3:=Lib.hid h4;have ht3:=HT1.out.wr h4 HNO.out.1;have p0:=ht3.cell (j:=0) rfl;have p1:=ht3.cell (j:=1) rfl;have p2:=ht3.free 0;have p3:=ht3.free 1;have p4:=ht3.lt;have hz3:=h4.size;clear h1 h2 h3 h4 ht3;go_wp2_with fail;refine HQ.out _ _ _ ?_;refine bodyPost_ret (v:= .bool false) (by simp[results,Tryz.results39,go_sem]) rfl ⟨rfl,own',HH3.out.1,fun q hq=>(by rcases HH3.out.2.1 q hq with h'|h';exact Or.inl h';exact Or.inr (by omega)),?_,(fun h=>Bool.noConfusion h),?_⟩
    ·exact HH3.out.2.2.wr (wr_pair _ _ 0 1 _ _) (fun q hq=>by subst hq;exact⟨by omega,fun ho=>by rcases HH3.out.2.1 _ ho with h'|h';exact HNO.out.1 h';omega⟩)
    ·exact((Wr.of_below (F:=fun b=>own b∨b=tb) HBW.out).trans HW3.out (fun i hi=>Or.inl (Or.inl hi))).trans (wr_pair _ _ 0 1 _ _) (fun i hi=>Or.inr (by have:i=w.heap.size+1:=hi;omega))
   |some v=>
    simp only[callR]at HQ;go_wp2_with fail;refine HCL.out.mono ?_;intro e w3 hS;obtain⟨rfl,own',h1,h2,h3,h4⟩:=hS;simp only[ansV];have hF3:=(HF.out.below HBW.out).wr h4 HO.out.fb.1 HO.out.tb.1 (fun g hg=>(HO.out.lv g hg).1);have hlow:∀q,¬own q→q<w.heap.size→¬own' q:=fun q hq hl ho=>by rcases h2 q ho with h'|h';exact hq h';omega
    have hfl:=HF.out.row.lt;have htl:=(by obtain⟨cs,h,_⟩:=id HF.out.temps;exact h.lt:tb<w.heap.size)
    have hll:∀g,lv.ownBlock=some g→g<w.heap.size:=fun g hg=>by obtain⟨_,cs',hr'⟩:=ownsRow_row HF.out.locs hg;exact hr'.lt
    have hO':OffAt base own' fb tb lv:=⟨⟨hlow _ HO.out.fb.1 hfl,HO.out.fb.2⟩,⟨hlow _ HO.out.tb.1 htl,HO.out.tb.2⟩,fun g hg=>⟨hlow g (HO.out.lv g hg).1 (hll g hg),(HO.out.lv g hg).2⟩⟩
    have HBX:=Lib.hid (rbox h3 hF3 (w.heap.size+1) ⟨by omega,fun ho=>by rcases h2 _ ho with h'|h';exact HNO.out.1 h';omega⟩ (by omega) (by omega) (fun g hg=>by have:=hll g hg;omega) (.int .i64 v.obj) (.int .i64 v.n));have HO':=Lib.hid hO';have HH3:=Lib.hid (And.intro h1 h2);have HW3:=Lib.hid h4;have ht3:=HT1.out.wr h4 HNO.out.1;have hx3:=HX1.out.wr h4 HNO.out.2;have p0:=ht3.cell (j:=0) rfl;have p1:=ht3.cell (j:=1) rfl;have p2:=ht3.free 0;have p3:=ht3.free 1;have p4:=ht3.lt;have e1:=hx3.cell (j:=1) rfl;have e1l:=hx3.lt;have hz3:=h4.size;have hn1:¬fb=w.heap.size+1:=by omega
    have hn2:¬tb=w.heap.size+1:=by omega
    have ft:=hF3.row.cell (j:=0) rfl;have ftl:=hF3.row.lt;have hfew:=hF3.few;have HF3:=Lib.hid hF3;clear h1 h2 h3 h4 ht3 hx3 hF3 hO' hlow hll;have hWT:Wr (fun b=>own b∨b=tb) w w3:=(Wr.of_below (F:=fun b=>own b∨b=tb) HBW.out).trans HW3.out (fun i hi=>Or.inl (Or.inl hi));have HWT:=Lib.hid hWT;clear hWT;by_cases hdm:dst= -1
    ·subst hdm;rw[show setT tp (-1) v=tp from rfl]at HQ;go_wp2_with fail;refine HQ.out _ _ _ ?_;exact bodyPost_ret (v:= .bool true) (by simp[results,Tryz.results39,go_sem]) rfl ⟨rfl,own',HH3.out.1,fun q hq=>(by rcases HH3.out.2 q hq with h'|h';exact Or.inl h';exact Or.inr (by omega)),HBX.out.1,fun _=>HBX.out.2.1,HWT.out.trans HBX.out.2.2 (fun i hi=>Or.inr (by have:i=w.heap.size+1:=hi;omega))⟩
    ·have hd:=HD.out;obtain⟨m,rfl⟩:=Int.eq_ofNat_of_zero_le (show 0≤dst by omega);have hmt:m<tp.length:=by omega
     have hml:(m:Int)<(tp.length:Int):=by omega
     have hm0:(0:Int)≤(m:Int):=by omega
     rw[setT_natV]at HQ;obtain⟨cs3,htr3,hvi3⟩:=id HF3.out.temps;have ttl:=htr3.lt;obtain⟨tv0,tv1⟩:=hvi3.2 m _ (List.getElem?_eq_getElem hmt);have t0:=htr3.cell tv0;have t1:=htr3.cell tv1;have t2:=htr3.free (m*2);have t3:=htr3.free (m*2+1);clear htr3 hvi3 tv0 tv1 hdm hd;go_wp2_with fail;refine still_tailq 8 (by kernel_rfl) (by kernel_rfl) ?_;simp only[List.take_succ_cons,List.take_zero,List.drop_succ_cons,List.drop_zero]
     repeat(go_big_quiet_step (fail))
     refine wpQuiet_nil ?_;go_wp2_with fail;refine HQ.out _ _ _ ?_;have E:=rend_set HBX.out.1 HBX.out.2.1 HO'.out (Below.refl _ _) m v;have hbz:=(Below.refl ((((w3.setCell ⟨w.heap.size+1,0,none⟩ (.int .i64 v.obj)).setCell ⟨w.heap.size+1,1,none⟩ (.int .i64 v.n)).setCell ⟨tb,m*2,none⟩ (.int .i64 v.obj)).setCell ⟨tb,m*2+1,none⟩ (.int .i64 v.n)).heap.size ((((w3.setCell ⟨w.heap.size+1,0,none⟩ (.int .i64 v.obj)).setCell ⟨w.heap.size+1,1,none⟩ (.int .i64 v.n)).setCell ⟨tb,m*2,none⟩ (.int .i64 v.obj)).setCell ⟨tb,m*2+1,none⟩ (.int .i64 v.n))).drew
     exact bodyPost_ret (v:= .bool true) (by simp[results,Tryz.results39,go_sem]) rfl ⟨rfl,own',HH3.out.1,fun q hq=>(by rcases HH3.out.2 q hq with h'|h';exact Or.inl h';exact Or.inr (by omega)),E.1.below hbz,fun _=>E.2.1.below hbz,((HWT.out.trans HBX.out.2.2 (fun i hi=>Or.inr (by have:i=w.heap.size+1:=hi;omega))).trans E.2.2 (fun i hi=>(by
      rcases hi with hi|hi
      ·rcases HH3.out.2 i hi with h'|h'
       ·exact Or.inl (Or.inl h')
       ·exact Or.inr (by omega)
      ·exact Or.inl (Or.inr hi)))).trans (Wr.of_below (F:=fun _=>False) hbz) (fun i hi=>hi.elim)⟩
end Go.Proofs.YtlenilbkifofjaaGreatDoor
