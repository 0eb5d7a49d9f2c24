/- live's ahead. Conditions: as stated. -/
import Derived.Test.YtlenilbkifofjaaGreatDoorLvKZz
import Derived.Test.YtlenilbkifofjaaGreatDoorQ06Zz
import Derived.Test.YtlenilbkifofjaaGreatDoorQ02Zz
import Derived.Test.YtlenilbkifofjaaGreatDoorQ08Zz
set_option linter.unusedVariables false
set_option linter.unusedSimpArgs false
set_option maxHeartbeats 8000000
set_option maxRecDepth 100000
namespace Go.Proofs.YtlenilbkifofjaaGreatDoor
open Go.RowKit
theorem next_lt{l:List InsS}{k:Nat}(hN:Named l)(hk:k<l.length):∀n,n∈nextL l k→n<l.length+1:=by
 intro n hn;have hx:l[k]? =some l[k]:=List.getElem?_eq_getElem hk;rw[nextL_cases hx]at hn;have hl:(l[k].op=15∨l[k].op=16)→labN l l[k].n<l.length:=fun h=>labN_lt (hN _ (List.getElem_mem hk) h);split at hn
 ·simp at hn
 ·split at hn
  ·rename_i h;simp at hn;have:=hl (Or.inl h);omega
  ·split at hn
   ·rename_i h;simp at hn;have:=hl (Or.inr h);omega
   ·simp at hn;omega
theorem cell_of_heap{w w':World}{a:Addr}(h:w'.heap[a.block]? =w.heap[a.block]?):w'.cell? a=w.cell? a:=by simp only[World.cell?,h]
theorem frozen_of_heap{w w':World}{a:Addr}(h:w'.heap[a.block]? =w.heap[a.block]?):w'.frozen? a=w.frozen? a:=by simp only[World.frozen?,h]
def SetsAt(w:World)(rb nw:Nat)(wss:List (List Nat)):Prop:=∃cs,Row w rb cs 95∧cs.size=wss.length∧∀k,k<wss.length→∃b,cs[k]? =some (.slice (some ⟨b,0,none⟩) nw nw)∧WordsAt w b (wss.getD k [])
theorem SetsAt.below{w w':World}{rb nw:Nat}{wss:List (List Nat)}(h:SetsAt w rb nw wss)(hb:Below w.heap.size w w'):SetsAt w' rb nw wss:=by
 obtain⟨cs,h1,h2,h3⟩:=h;refine⟨cs,h1.below hb h1.lt,h2,fun k hk=>?_⟩;obtain⟨b,h4,h5⟩:=h3 k hk;exact⟨b,h4,h5.below hb h5.lt⟩
theorem SetsAt.lt{w:World}{rb nw:Nat}{wss:List (List Nat)}(h:SetsAt w rb nw wss):rb<w.heap.size:=by
 obtain⟨cs,h1,_⟩:=h;exact h1.lt
theorem SetsAt.get{w:World}{rb nw:Nat}{wss:List (List Nat)}(h:SetsAt w rb nw wss){k:Nat}(hk:k<wss.length):∃b,w.cell? ⟨rb,k,none⟩=some (.slice (some ⟨b,0,none⟩) nw nw)∧WordsAt w b (wss.getD k []):=by
 obtain⟨cs,h1,h2,h3⟩:=h;obtain⟨b,h4,h5⟩:=h3 k hk;exact⟨b,h1.cell h4,h5⟩
structure FlowAt (w:World) (fb rb mb mn nw:Nat) (c:CodeS) (LA:Option Addr) (lc:Nat) (BA:Option Addr) (bc:Nat) (wss:List (List Nat)):Prop where
 row:Row w fb #[.int .i64 c.params,.int .i64 c.regs,.slice LA c.locs.length lc,.slice BA c.ins.length bc,.map (some mb),.slice (some ⟨rb,0,none⟩) wss.length wss.length] 93
 sets:SetsAt w rb nw wss
 labs:LabM w mb mn (labO c.ins)
section
variable {w w':World} {fb rb mb mn nw lc bc:Nat} {c:CodeS} {LA BA:Option Addr} {wss:List (List Nat)}
theorem FlowAt.below(h:FlowAt w fb rb mb mn nw c LA lc BA bc wss)(hb:Below w.heap.size w w'):FlowAt w' fb rb mb mn nw c LA lc BA bc wss:=
 ⟨h.row.below hb h.row.lt,h.sets.below hb,h.labs.below hb⟩
end
def NewWords(ws:List Nat)(w:World)(e:Ending)(w':World):Prop:=∃b,w.heap.size≤b∧e= .returned (.slice (some ⟨b,0,none⟩) ws.length ws.length)∧WordsAt w' b ws∧Below w.heap.size w w'
def LongsV(W:World)(l:List Int)(v:Value):Prop:=∃A c,v= .slice A l.length c∧LongsAt W W.heap.size l v
theorem LongsV.below{W W':World}{l:List Int}{v:Value}(h:LongsV W l v)(hb:Below W.heap.size W W'):LongsV W' l v:=by
 obtain⟨A,c,h1,h2⟩:=h;exact⟨A,c,h1,h2.below hb hb.size⟩
theorem longs_other{W W':World}{B sb:Nat}{ws:List Nat}{l:List Int}{v:Value}(h:LongsAt W B l v)(hs:WordsAt W sb ws)(hw:Wr (fun k=>k=sb) W W')(hB:B≤W.heap.size):LongsAt W' B l v:=by
 obtain⟨A,cap,h0,h1,h2⟩:=h;refine⟨A,cap,h0,h1,fun hp=>?_⟩;obtain⟨b,off,hA,hlt,hx⟩:=h2 hp;have hne:b≠sb:=by
  rintro rfl;obtain⟨cs,h3,h4,h5,_⟩:=hs;obtain⟨c0,_⟩:=hx 0 l[0] (List.getElem?_eq_getElem hp);simp only[Nat.zero_mul,Nat.add_zero]at c0;by_cases ho:off<ws.length
  ·have:=h3.cell (h5 off _ (List.getElem?_eq_getElem ho));rw[c0]at this;cases this
  ·have:=cell_of_row W b off cs 98 (0,0) h3;rw[c0,Array.getElem?_eq_none (by omega)]at this;cases this
 refine⟨b,off,hA,hlt,fun i x hi=>?_⟩;have e:∀j,W'.cell? ⟨b,off+i*1+j,none⟩=W.cell? ⟨b,off+i*1+j,none⟩:=fun j=>cell_of_heap (a:=⟨b,off+i*1+j,none⟩) (hw.block b (by omega) (fun hh=>hne hh));exact⟨(e 0).trans (hx i x hi).1,(hx i x hi).2⟩
def lahCl(c:CodeS)(LA BA:Option Addr)(lc bc fb mb k:Nat)(W:World):Nat→Value→Prop
 |0,v|1,v|2,v|4,v|5,v=>v= .pointer (some ⟨fb,0,none⟩)
 |3,v=>v= .agg #[.int .i64 c.params,.int .i64 c.regs,.slice LA c.locs.length lc,.slice BA c.ins.length bc]
 |6,v=>v= .pointer (some ⟨fb,4,none⟩)
 |7,v=>v= .map (some mb)
 |8,v=>v= .int .i64 (k:Nat)
 |9,v=>LongsV W (nextI c.ins k) v
 |10,v=>v= .int .i64 ((nextI c.ins k).length:Nat)
 |11,v=>v= .int .i64 0
 |_,_=>True
noncomputable def lahAR:Code:=(regsOf (Tryz.f33.body.getD .skip)).getD 2 .skip
theorem lahA_region(c:CodeS)(LA BA:Option Addr)(lc bc fb mb k:Nat)(lv:Value)(w:World)(hrow:Row w fb #[.int .i64 c.params,.int .i64 c.regs,.slice LA c.locs.length lc,.slice BA c.ins.length bc,.map (some mb),lv] 93)(hn:∀W,Below w.heap.size w W→Calls Tryz.prog 48 #[.agg #[.int .i64 c.params,.int .i64 c.regs,.slice LA c.locs.length lc,.slice BA c.ins.length bc],.map (some mb),.int .i64 (k:Nat)] W fun e w'=>LongsNew (nextI c.ins k) W e w')
  (c2 c3 c4 c5 c6 c7 c8 c9 c10 c11 c12 c13 c14 c15 c16 c17 c18 c19 c20 c21 c22 c23 c24 c25 c26 c27 c28 c29 c30 c31 c32 c33 c34 c35 c36 c37 c38 c39 c40 c41 c42 c43 c44 c45 c46 c47 c48 c49 c50 c51 c52 c53 c54 c55 c56 c57 c58 c59 c60 c61 c62 c63 c64 c65 c66 c67 c68 c69 c70 c71 c72 c73 c74 c75 c76 c77:Value)(Q:Exit→Act→World→Prop)
  (hexit:∀(W:World)(A:Option Addr)(c':Nat)(y0 y1 y2 y3 y4 y5 y6 y7 y8:Value),Below w.heap.size w W→LongsAt W W.heap.size (nextI c.ins k) (.slice A (nextI c.ins k).length c')→Q .normal ⟨List.toArray ((Value.pointer (some ⟨fb,0,none⟩))::(Value.int .i64 (k:Nat))::c2::c3::c4::c5::c6::c7::c8::c9::c10::c11::c12::c13::c14::c15::c16::c17::c18::c19::y0::y1::y2::y3::y4::y5::y6::y7::y8::(Value.slice A (nextI c.ins k).length c')::(Value.int .i64 ((nextI c.ins k).length:Nat))::(Value.int .i64 0)::c32::c33::c34::c35::c36::c37::c38::c39::c40::c41::c42::c43::c44::c45::c46::c47::c48::c49::c50::c51::c52::c53::c54::c55::c56::c57::c58::c59::c60::c61::c62::c63::c64::c65::c66::c67::c68::c69::c70::c71::c72::c73::c74::c75::c76::c77::[]),[]⟩ W):
  Code.wp Tryz.prog lahAR Q ⟨List.toArray ((Value.pointer (some ⟨fb,0,none⟩))::(Value.int .i64 (k:Nat))::c2::c3::c4::c5::c6::c7::c8::c9::c10::c11::c12::c13::c14::c15::c16::c17::c18::c19::c20::c21::c22::c23::c24::c25::c26::c27::c28::c29::c30::c31::c32::c33::c34::c35::c36::c37::c38::c39::c40::c41::c42::c43::c44::c45::c46::c47::c48::c49::c50::c51::c52::c53::c54::c55::c56::c57::c58::c59::c60::c61::c62::c63::c64::c65::c66::c67::c68::c69::c70::c71::c72::c73::c74::c75::c76::c77::[]),[]⟩ w:=by
 have HROW:=Lib.hid hrow;have HN:=Lib.hid hn;have HEX:=Lib.hid hexit;clear hrow hn hexit
 conv=>arg 2;whnf
 refine region_cl (by kernel_rfl) (lahCl c LA BA lc bc fb mb k) (fun Y=>⟨List.toArray ((Value.pointer (some ⟨fb,0,none⟩))::(Value.int .i64 (k:Nat))::c2::c3::c4::c5::c6::c7::c8::c9::c10::c11::c12::c13::c14::c15::c16::c17::c18::c19::Y 0::Y 1::Y 2::Y 3::Y 4::Y 5::Y 6::Y 7::Y 8::Y 9::Y 10::Y 11::c32::c33::c34::c35::c36::c37::c38::c39::c40::c41::c42::c43::c44::c45::c46::c47::c48::c49::c50::c51::c52::c53::c54::c55::c56::c57::c58::c59::c60::c61::c62::c63::c64::c65::c66::c67::c68::c69::c70::c71::c72::c73::c74::c75::c76::c77::[]),[]⟩) (fun i=>#[c20,c21,c22,c23,c24,c25,c26,c27,c28,c29,c30,c31].getD i undef) rfl (by kernel_rfl) ?_ ?_ ?_
 ·intro W W' i v hb h;rcases i with _|_|_|_|_|_|_|_|_|_|_|_|i
  ·exact h
  ·exact h
  ·exact h
  ·exact h
  ·exact h
  ·exact h
  ·exact h
  ·exact h
  ·exact h
  ·exact LongsV.below h hb
  ·exact h
  ·exact h
  ·trivial
 ·intro i o' Y W ho hb hall K hK;have HW:=Lib.hid hb;clear hb;rcases i with _|_|_|_|_|_|_|_|_|_|_|_|i
  ·simp at ho;subst ho;clear hall;refine wpOp_plain rfl rfl (fun K' hK'=>?_);go_simp;have hh:=hK' _ _ (hK _ _ (Below.refl _ _) rfl);simpa [upd]using hh
  ·simp at ho;subst ho;have d0:=hall {on:=0,ground:=Ground.data} (by simp) rfl;have e0:Y 0= .pointer (some ⟨fb,0,none⟩):=d0;clear hall;refine wpOp_plain rfl rfl (fun K' hK'=>?_);go_simp;have hh:=hK' _ _ (hK _ _ (Below.refl _ _) rfl);simpa [upd,e0]using hh
  ·simp at ho;subst ho;have d1:=hall {on:=1,ground:=Ground.data} (by simp) rfl;have e1:Y 1= .pointer (some ⟨fb,0,none⟩):=d1;clear hall;refine wpOp_plain rfl rfl (fun K' hK'=>?_);go_simp;have hh:=hK' _ _ (hK _ _ (Below.refl _ _) rfl);simpa [upd,e1]using hh
  ·simp at ho;subst ho;have d2:=hall {on:=2,ground:=Ground.data} (by simp) rfl;have e2:Y 2= .pointer (some ⟨fb,0,none⟩):=d2;have q0:=cell_below (HROW.out.cell (j:=0) rfl) HW.out HROW.out.lt;have q1:=cell_below (HROW.out.cell (j:=1) rfl) HW.out HROW.out.lt;have q2:=cell_below (HROW.out.cell (j:=2) rfl) HW.out HROW.out.lt;have q3:=cell_below (HROW.out.cell (j:=3) rfl) HW.out HROW.out.lt;have ql:=Nat.lt_of_lt_of_le HROW.out.lt HW.out.size;clear hall;refine wpOp_plain rfl rfl (fun K' hK'=>?_);go_simp;have hh:=hK' _ _ (hK _ _ (Below.refl _ _) rfl);simpa [upd,e2]using hh
  ·simp at ho;subst ho;clear hall;refine wpOp_plain rfl rfl (fun K' hK'=>?_);go_simp;have hh:=hK' _ _ (hK _ _ (Below.refl _ _) rfl);simpa [upd]using hh
  ·simp at ho;subst ho;have d4:=hall {on:=4,ground:=Ground.data} (by simp) rfl;have e4:Y 4= .pointer (some ⟨fb,0,none⟩):=d4;clear hall;refine wpOp_plain rfl rfl (fun K' hK'=>?_);go_simp;have hh:=hK' _ _ (hK _ _ (Below.refl _ _) rfl);simpa [upd,e4]using hh
  ·simp at ho;subst ho;have d5:=hall {on:=5,ground:=Ground.data} (by simp) rfl;have e5:Y 5= .pointer (some ⟨fb,0,none⟩):=d5;clear hall;refine wpOp_plain rfl rfl (fun K' hK'=>?_);go_simp;have hh:=hK' _ _ (hK _ _ (Below.refl _ _) rfl);simpa [upd,e5]using hh
  ·simp at ho;subst ho;have d6:=hall {on:=6,ground:=Ground.data} (by simp) rfl;have e6:Y 6= .pointer (some ⟨fb,4,none⟩):=d6;have q4:=cell_below (HROW.out.cell (j:=4) rfl) HW.out HROW.out.lt;have ql:=Nat.lt_of_lt_of_le HROW.out.lt HW.out.size;clear hall;refine wpOp_plain rfl rfl (fun K' hK'=>?_);go_simp;have hh:=hK' _ _ (hK _ _ (Below.refl _ _) rfl);simpa [upd,e6]using hh
  ·simp at ho;subst ho;clear hall;refine wpOp_plain rfl rfl (fun K' hK'=>?_);go_simp;have hh:=hK' _ _ (hK _ _ (Below.refl _ _) rfl);simpa [upd]using hh
  ·simp at ho;subst ho;have d3:=hall {on:=3,ground:=Ground.data} (by simp) rfl;have d7:=hall {on:=7,ground:=Ground.data} (by simp) rfl;have d8:=hall {on:=8,ground:=Ground.data} (by simp) rfl;have e3:Y 3= .agg #[.int .i64 c.params,.int .i64 c.regs,.slice LA c.locs.length lc,.slice BA c.ins.length bc]:=d3;have e7:Y 7= .map (some mb):=d7;have e8:Y 8= .int .i64 (k:Nat):=d8;have HC:=Lib.hid (HN.out W HW.out);clear hall;refine wpOp_plain rfl rfl (fun K' hK'=>?_);go_simp
   try simp only[e3,e7,e8]
   refine HC.out.mono ?_;rintro e W5 ⟨A,c',rfl,h1,h2⟩;clear HC;go_simp;have hh:=hK' _ _ (hK (.slice A (nextI c.ins k).length c') _ h2 ⟨A,c',rfl,h1⟩);simpa [upd,e3,e7,e8]using hh
  ·simp at ho;subst ho;have d9:=hall {on:=9,ground:=Ground.data} (by simp) rfl;obtain⟨A9,c9,e9,hl9⟩:=(show LongsV W (nextI c.ins k) (Y 9)from d9)
   clear hl9;clear hall;refine wpOp_plain rfl rfl (fun K' hK'=>?_);go_simp;have hh:=hK' _ _ (hK _ _ (Below.refl _ _) rfl);simpa [upd,e9]using hh
  ·simp at ho;subst ho;clear hall;refine wpOp_plain rfl rfl (fun K' hK'=>?_);go_simp;have hh:=hK' _ _ (hK _ _ (Below.refl _ _) rfl);simpa [upd]using hh
  ·simp at ho
 ·intro Y W hb hc;obtain⟨A,c',e9,hl⟩:=(show LongsV W (nextI c.ins k) (Y 9)from hc 9 (by decide))
  have e10:Y 10= .int .i64 ((nextI c.ins k).length:Nat):=hc 10 (by decide);have e11:Y 11= .int .i64 0:=hc 11 (by decide);rw[e9]at hl;rw[e9,e10,e11];exact HEX.out W A c' _ _ _ _ _ _ _ _ _ hb hl
theorem words_info:(Tryz.prog.info? 98).map (fun i=>(i.zero,i.size,i.bytes))=some (some (.int .u64 0),1,8):=by kernel_rfl
theorem make_words(nw:Nat)(h:nw≤1000):∃Z:Array Value,Z.size=nw∧(∀j,j<nw→Z[j]? =some (.int .u64 0))∧∀W:World,(Instr.makeSlice 95 (.int .i64 (nw:Nat)) (.int .i64 (nw:Nat))).run Tryz.prog W= .ok (.slice (some ⟨W.heap.size,0,none⟩) nw nw) (W.alloc (.cells Z 98)):=by
 obtain⟨i0,hi,hz0,hz1,hz2⟩:=info_parts words_info;refine⟨madeCells (Value.int .u64 0).cells nw,by rw[size_madeCells],fun j hj=>made_one _ _ (by kernel_rfl) hj,fun W=>?_⟩;have:=run_make (P:=Tryz.prog) W 95 98 i0 _ Tryz.underlying95 hi hz0 .i64 .i64 nw nw (by omega) (by omega) (by rw[hz2];omega) (by omega);rw[hz1]at this;simpa using this
theorem made_words(W:World)(nw:Nat)(Z:Array Value)(hZ:Z.size=nw)(h0:∀j,j<nw→Z[j]? =some (.int .u64 0)):WordsAt (W.alloc (.cells Z 98)) W.heap.size (List.replicate nw 0):=by
 refine⟨Z,Row.new _ _ _,by simp[hZ],fun j x hj=>?_,zero_64⟩;rw[List.getElem?_replicate]at hj;split at hj
 ·rename_i h;injection hj with hj;subst hj;exact h0 j h
 ·cases hj
theorem nextI_get{l:List InsS}{k j:Nat}(hj:j<(nextI l k).length):∃n,(nextL l k)[j]? =some n∧(nextI l k)[j]? =some (n:Int):=by
 unfold nextI at hj ⊢;rw[List.length_map]at hj;exact⟨_,List.getElem?_eq_getElem hj,by rw[List.getElem?_map,List.getElem?_eq_getElem hj];rfl⟩
theorem lahead_any(c:CodeS)(LA:Option Addr)(lc:Nat)(BA:Option Addr)(bc fb rb mb mn nw R B k:Nat)(wss:List (List Nat))(x:InsS)(w:World)(hB:B≤w.heap.size)
  (hK:SliceAt w B 6 (InsE w B) c.ins (.slice BA c.ins.length bc))(hF:FlowAt w fb rb mb mn nw c LA lc BA bc wss)(hN:Named c.ins)(hS:Sets nw wss)(hlen:wss.length=c.ins.length+1)(h8:c.ins.length≤8000)
  (hx:c.ins[k]? =some x)(hR:RegsIn R x)(hRn:R≤nw*64)(hnw:nw≤1000)(hal:x.arg.length*8≤140737488351232):
  Calls Tryz.prog 33 #[.pointer (some ⟨fb,0,none⟩),.int .i64 (k:Nat)] w fun e w'=>NewWords (aheadW c.ins nw wss k x) w e w':=by
 have hk:k<c.ins.length:=(List.getElem?_eq_some_iff.1 hx).1;obtain⟨bb,boff,x',rfl,hbb,hbk,b0,b1,b2,b3,b4,⟨sv,b5,hst⟩,hx0,hx1,hx2,hx3,hx4⟩:=SliceAt.get hK hk;rw[hx]at hbk;injection hbk with hbk;subst hbk;simp only[Nat.add_zero]at b0 b1 b2 b3 b4 b5;obtain⟨SA,scap,hsv⟩:∃SA scap,sv= .slice SA x.arg.length scap:=(by obtain⟨A',c',h,_⟩:=hst;exact⟨_,_,h⟩)
 subst hsv;obtain⟨Z,hZ,hZ0,hmk⟩:=make_words nw hnw;obtain⟨hgl,hg64,_⟩:=aheadW_good hS hlen hRn hR hx (fun n hn=>by rw[hlen];exact next_lt hN hk n hn);have HNX:=Lib.hid (fun n hn=>(show n<wss.length from by rw[hlen];exact next_lt hN hk n hn));have HNW:=Lib.hid (fun W(hW:Below w.heap.size w W)=>(lnext_any c LA lc (some ⟨bb,boff,none⟩) bc mb mn k B W (by have:=hW.size;omega) (hK.below (hW.mono hB) (Nat.le_refl _) (fun _ _ h=>h.below (hW.mono hB) (Nat.le_refl _))) ((hF.below hW).labs) hN hk h8).mono (fun _ _ h=>h.longs));have HDF:=Lib.hid (fun W=>ldefs_any x SA scap W);have HUS:=Lib.hid (fun W(hW:Below w.heap.size w W)=>luses_any x SA scap B W (by have:=hW.size;omega) (LongsAt.below hst (hW.mono hB) (Nat.le_refl _)) hx2 hx3 hx1 hal);have HSB:=Lib.hid (made_words w nw Z hZ hZ0);have HB1:=Lib.hid (below1 w (.cells Z 98))
 have HINS:=Lib.hid (show∀W,Below w.heap.size w W→W.cell? ⟨bb,boff+k*6,none⟩=some (.int .i64 x.op)∧W.cell? ⟨bb,boff+k*6+1,none⟩=some (.int .i64 x.dst)∧W.cell? ⟨bb,boff+k*6+2,none⟩=some (.int .i64 x.a)∧W.cell? ⟨bb,boff+k*6+3,none⟩=some (.int .i64 x.b)∧W.cell? ⟨bb,boff+k*6+4,none⟩=some (.int .i64 x.n)∧W.cell? ⟨bb,boff+k*6+5,none⟩=some (.slice SA x.arg.length scap)∧bb<W.heap.size from fun W hW=>
  have hl:bb<w.heap.size:=(by omega);⟨cell_below b0 hW hl,cell_below b1 hW hl,cell_below b2 hW hl,cell_below b3 hW hl,cell_below b4 hW hl,cell_below b5 hW hl,by have:=hW.size;omega⟩)
 have f5:=hF.row.cell (j:=5) rfl;have fl:=hF.row.lt;obtain⟨b',g0,hwb⟩:=hF.sets.get (k:=k) (by omega);have gl:=hF.sets.lt;have hkw:(k:Int)<(wss.length:Int):=by omega
 have hki:(k:Int)<(c.ins.length:Int):=by omega
 have HF:=Lib.hid hF;have HS:=Lib.hid hS;have HR:=Lib.hid hR;clear hK hF hN hS hx hR hst hx0 hx1 hx2 hx3 hx4 b0 b1 b2 b3 b4 b5 hwb hZ hZ0 hgl hg64;go_enter Tryz.func33,Tryz.ntmps33;refine wp_letter (fun Q hQ=>?_);have HQ:=Lib.hid hQ;clear hQ;go_wp2_with fail;refine lahA_region c LA (some ⟨bb,boff,none⟩) lc bc fb mb k _ _ (HF.out.row.below HB1.out HF.out.row.lt) (fun W hW=>HNW.out W (HB1.out.trans (hW.mono HB1.out.size))) _ _ _ _ _ _ _ _ _ _ _ _ _ _ _ _ _ _ _ _ _ _ _ _ _ _ _ _ _ _ _ _ _ _ _ _ _ _ _ _ _ _ _ _ _ _ _ _ _ _ _ _ _ _ _ _ _ _ _ _ _ _ _ _ _ _ _ _ _ _ _ _ _ _ _ _ _ ?_;intro W A nc y0 y1 y2 y3 y4 y5 y6 y7 y8 hbW hlW;have HBW:=Lib.hid (HB1.out.trans (hbW.mono HB1.out.size));have HSW:=Lib.hid (HSB.out.below hbW HSB.out.lt);have HLW:=Lib.hid hlW;have hnnl:=(SliceAt.len hlW).2;clear hbW hlW hmk f5 fl g0 gl;go_wp2_with fail
 go_loopw [31] (fun i wr=>∃j:Nat,i= .int .i64 (j:Nat)∧j≤(nextI c.ins k).length∧WordsAt wr w.heap.size (joinsW wss ((nextL c.ins k).take j) (List.replicate nw 0))∧Wr (fun k=>k=w.heap.size) W wr) (fun i _=>(nextI c.ins k).length-(intOf i).toNat)
 case atStart=>exact⟨0,rfl,Nat.zero_le _,HSW.out,Wr.refl _ _⟩
 case round=>
  obtain⟨j,rfl,hj,hm,hw⟩:=hrel;have hb0:Below w.heap.size w wr:=HBW.out.trans (hw.below HBW.out.size (fun k hk=>by have:k=w.heap.size:=hk;omega));by_cases hlt:j<(nextI c.ins k).length
  ·obtain⟨n,hn1,hn2⟩:=nextI_get hlt;have hnw:n<wss.length:=HNX.out n (List.mem_of_getElem? hn1);obtain⟨nb,noff,xn,rfl,hnb,hnx,n0,_⟩:=SliceAt.get (longs_other HLW.out HSW.out hw (Nat.le_refl _)) hlt;rw[hn2]at hnx;injection hnx with hnx;subst hnx;simp only[Nat.add_zero,Nat.mul_one]at n0;have nl:nb<wr.heap.size:=by have:=hw.size;omega
   have hF2:=HF.out.below hb0;have f5:=hF2.row.cell (j:=5) rfl;have fl:=hF2.row.lt;obtain⟨tb,g0,htb⟩:=hF2.sets.get (k:=n) hnw;have gl:=hF2.sets.lt;have hgood:=HS.out.getD hnw;obtain⟨hjl,_,_⟩:=joinsW_good HS.out (ns:=(nextL c.ins k).take j) (s:=List.replicate nw 0) (fun m hm=>HNX.out m (List.mem_of_mem_take hm)) (by simp) zero_64;have htne:tb≠w.heap.size:=by
    obtain⟨tb0,g00,h0⟩:=HF.out.sets.get (k:=n) hnw;have:=cell_below g00 hb0 HF.out.sets.lt;rw[g0]at this;injection this with this;injection this with this;injection this with this;injection this with this;have:=h0.lt;omega
   have HJ:=ljoin_any w.heap.size tb _ _ nw nw wr hm htb (by rw[hjl,hgood.1]) htne (by rw[hjl];omega);rw[hjl,hgood.1]at HJ;have HJ:=Lib.hid HJ;have HN1:=Lib.hid hn1;have HW:=Lib.hid hw;have hj0:(j:Int)<((nextI c.ins k).length:Int):=by omega
   have hn0:(n:Int)<(wss.length:Int):=by omega
   clear hm hw hb0 hF2 htb hgood hjl htne hn1 hn2;go_wp2_with(go_at_call 49;refine HJ.out.mono ?_;rintro e w2 ⟨rfl,hs2,hw2⟩;have HS2:=Lib.hid hs2;have HW2:=Lib.hid hw2;clear hs2 hw2);go_roundw
   case rel=>exact⟨j+1,by go_num,hlt,by rw[take_succ_of HN1.out,joinsW_snoc];exact HS2.out,HW.out.trans HW2.out (fun _ h=>Or.inl h)⟩
   case measure=>simp[intOf];omega
  ·obtain rfl:j=(nextI c.ins k).length:=by omega
   rw[show(nextL c.ins k).take (nextI c.ins k).length=nextL c.ins k from List.take_of_length_le (by simp[nextI])]at hm;obtain⟨hjl,hj64,_⟩:=joinsW_good HS.out (ns:=nextL c.ins k) (s:=List.replicate nw 0) HNX.out (by simp) zero_64;obtain⟨i0,i1,i2,i3,i4,i5,il⟩:=HINS.out wr hb0;have hF2:=HF.out.below hb0;have f3:=hF2.row.cell (j:=3) rfl;have fl:=hF2.row.lt;obtain⟨s0,hs0⟩:∃s0,s0=joinsW wss (nextL c.ins k) (List.replicate nw 0):=⟨_,rfl⟩
   rw[←hs0]at hm hjl hj64;have HS0:=Lib.hid hs0;have HM:=Lib.hid hm;have HB:=Lib.hid hb0;have HD:=HDF.out wr;unfold insV at HD;have HD:=Lib.hid HD;clear hm hw hb0 hF2 hs0 hj hlt;go_wp2_with fail;refine HD.out.mono ?_;rintro e w2 ⟨rfl,hb2⟩;have HB2:=Lib.hid (HB.out.trans (hb2.mono HB.out.size));have HM2:=Lib.hid (HM.out.below hb2 HM.out.lt);clear hb2 i0 i1 i2 i3 i4 i5 il f3 fl;obtain⟨dd,hdd⟩:∃dd,dd=defL x:=⟨_,rfl⟩
   rw[←hdd];have HDD:=Lib.hid hdd;have hdR:dd<(R:Int):=by rw[hdd];exact HR.out.2
   clear hdd;obtain⟨i0,i1,i2,i3,i4,i5,il⟩:=HINS.out w2 HB2.out;by_cases hd:dd<0
   ·have d0:decide (0≤dd)=false:=decide_eq_false (by omega);have HAW:=Lib.hid (show aheadW c.ins nw wss k x=putsW (usesL x) s0 from by unfold aheadW dropD;rw[←HDD.out,if_pos hd,HS0.out]);have hF2:=HF.out.below HB2.out;have f3:=hF2.row.cell (j:=3) rfl;have fl:=hF2.row.lt;have HU:=HUS.out w2 HB2.out;unfold insV at HU;have HU:=Lib.hid HU;have HSL:=Lib.hid (And.intro hjl hj64);clear hd hF2 hjl hj64;go_wp2_with fail;refine HU.out.mono ?_;rintro e w3 ⟨UA,uc,rfl,hl3,hb3⟩;have HB3:=Lib.hid (HB2.out.trans (hb3.mono HB2.out.size));have HM3:=Lib.hid (HM2.out.below hb3 HM2.out.lt);have HL3:=Lib.hid hl3;have hunl:=(SliceAt.len hl3).2;clear hb3 hl3 i0 i1 i2 i3 i4 i5 il f3 fl;go_wp2_with fail;obtain⟨w3',rfl⟩:∃w3':World,w3'=w3:=⟨_,rfl⟩
    go_loopw [69] (fun i wr=>∃j:Nat,i= .int .i64 (j:Nat)∧j≤(usesL x).length∧WordsAt wr w.heap.size (putsW ((usesL x).take j) s0)∧Wr (fun k=>k=w.heap.size) w3' wr) (fun i _=>(usesL x).length-(intOf i).toNat)
    case atStart=>exact⟨0,rfl,Nat.zero_le _,HM3.out,Wr.refl _ _⟩
    case round=>
     obtain⟨j,rfl,hj,hm,hw⟩:=hrel;by_cases hlt:j<(usesL x).length
     ·obtain⟨nb,noff,r,rfl,hnb,hnx,n0,_⟩:=SliceAt.get (longs_other HL3.out HM3.out hw (Nat.le_refl _)) hlt;simp only[Nat.add_zero,Nat.mul_one]at n0;have nl:nb<wr.heap.size:=by have:=hw.size;omega
      obtain⟨hr0,hrR⟩:=HR.out.1 r (usesL_mem.1 (List.mem_of_getElem? hnx));obtain⟨q,rfl⟩:∃q:Nat,r=(q:Int):=⟨r.toNat,by omega⟩
      obtain⟨hpl,_,_⟩:=putsW_good (nw:=nw) (rs:=(usesL x).take j) (s:=s0) (fun r hr=>by have:=HR.out.1 r (usesL_mem.1 (List.mem_of_mem_take hr));omega) HSL.out.1 HSL.out.2;have HP:=lput_any w.heap.size _ q nw wr hm (by omega) (by omega);rw[hpl]at HP;have HP:=Lib.hid HP;have HNX2:=Lib.hid hnx;have HW:=Lib.hid hw;have hj0:(j:Int)<((usesL x).length:Int):=by omega
      clear hm hw hpl hnx hr0 hrR;go_wp2_with(go_at_call 53;refine HP.out.mono ?_;rintro e w4 ⟨rfl,hs4,hw4⟩;have HS4:=Lib.hid hs4;have HW4:=Lib.hid hw4;clear hs4 hw4);go_roundw
      case rel=>exact⟨j+1,by go_num,hlt,by rw[take_succ_of HNX2.out,putsW_snoc];exact HS4.out,HW.out.trans HW4.out (fun _ h=>Or.inl h)⟩
      case measure=>simp[intOf];omega
     ·obtain rfl:j=(usesL x).length:=by omega
      rw[List.take_length]at hm;have HM4:=Lib.hid hm;have HB4:=Lib.hid (HB3.out.trans (hw.below HB3.out.size (fun k hk=>by have:k=w.heap.size:=hk;omega)));obtain⟨hpl,_,_⟩:=putsW_good (nw:=nw) (rs:=usesL x) (s:=s0) (fun r hr=>by have:=HR.out.1 r (usesL_mem.1 hr);omega) HSL.out.1 HSL.out.2;have HPL:=Lib.hid hpl;clear hm hw hpl hj hlt;go_wp2_with fail;refine HQ.out _ _ _ ?_;exact bodyPost_ret (v:= .slice (some ⟨w.heap.size,0,none⟩) nw nw) (by simp[results,Tryz.results33,go_sem]) rfl ⟨w.heap.size,Nat.le_refl _,by rw[HAW.out,HPL.out],by rw[HAW.out];exact HM4.out,HB4.out⟩
   ·have d0:decide (0≤dd)=true:=decide_eq_true (by omega);obtain⟨m,rfl⟩:∃m:Nat,dd=(m:Int):=⟨dd.toNat,by omega⟩
    obtain⟨hs1l,hs164,_⟩:=dropD_good (nw:=nw) (d:=(m:Int)) (s:=s0) (by omega) hjl hj64;have hdr:dropD (m:Int) s0=dropW s0 m:=by unfold dropD;rw[if_neg (by omega),Int.toNat_natCast]
    rw[hdr]at hs1l hs164;have HAW:=Lib.hid (show aheadW c.ins nw wss k x=putsW (usesL x) (dropW s0 m)from by rw[←hdr];unfold aheadW;rw[←HDD.out,HS0.out]);have HDR:=ldrop_any w.heap.size s0 m nw w2 HM2.out (by omega) (by omega);rw[hjl]at HDR;have HDR:=Lib.hid HDR;have HSL:=Lib.hid (And.intro hs1l hs164);clear hd hdr hs1l hs164 i0 i1 i2 i3 i4 i5 il hjl hj64;go_wp2_with fail;refine HDR.out.mono ?_;rintro e w2' ⟨rfl,hs2,hw2⟩;have HB2':=Lib.hid (HB2.out.trans (hw2.below HB2.out.size (fun k hk=>by have:k=w.heap.size:=hk;omega)));have HM2':=Lib.hid hs2;clear hs2 hw2;obtain⟨i0,i1,i2,i3,i4,i5,il⟩:=HINS.out w2' HB2'.out;have hF2:=HF.out.below HB2'.out;have f3:=hF2.row.cell (j:=3) rfl;have fl:=hF2.row.lt;have HU:=HUS.out w2' HB2'.out;unfold insV at HU;have HU:=Lib.hid HU;obtain⟨s1,hs1⟩:∃s1,s1=dropW s0 m:=⟨_,rfl⟩
    rw[←hs1]at HAW HSL HM2';clear hF2 hs1;go_wp2_with fail;refine HU.out.mono ?_;rintro e w3 ⟨UA,uc,rfl,hl3,hb3⟩;have HB3:=Lib.hid (HB2'.out.trans (hb3.mono HB2'.out.size));have HM3:=Lib.hid (HM2'.out.below hb3 HM2'.out.lt);have HL3:=Lib.hid hl3;have hunl:=(SliceAt.len hl3).2;clear hb3 hl3 i0 i1 i2 i3 i4 i5 il f3 fl;go_wp2_with fail;obtain⟨w3',rfl⟩:∃w3':World,w3'=w3:=⟨_,rfl⟩
    go_loopw [69] (fun i wr=>∃j:Nat,i= .int .i64 (j:Nat)∧j≤(usesL x).length∧WordsAt wr w.heap.size (putsW ((usesL x).take j) s1)∧Wr (fun k=>k=w.heap.size) w3' wr) (fun i _=>(usesL x).length-(intOf i).toNat)
    case atStart=>exact⟨0,rfl,Nat.zero_le _,HM3.out,Wr.refl _ _⟩
    case round=>
     obtain⟨j,rfl,hj,hm,hw⟩:=hrel;by_cases hlt:j<(usesL x).length
     ·obtain⟨nb,noff,r,rfl,hnb,hnx,n0,_⟩:=SliceAt.get (longs_other HL3.out HM3.out hw (Nat.le_refl _)) hlt;simp only[Nat.add_zero,Nat.mul_one]at n0;have nl:nb<wr.heap.size:=by have:=hw.size;omega
      obtain⟨hr0,hrR⟩:=HR.out.1 r (usesL_mem.1 (List.mem_of_getElem? hnx));obtain⟨q,rfl⟩:∃q:Nat,r=(q:Int):=⟨r.toNat,by omega⟩
      obtain⟨hpl,_,_⟩:=putsW_good (nw:=nw) (rs:=(usesL x).take j) (s:=s1) (fun r hr=>by have:=HR.out.1 r (usesL_mem.1 (List.mem_of_mem_take hr));omega) HSL.out.1 HSL.out.2;have HP:=lput_any w.heap.size _ q nw wr hm (by omega) (by omega);rw[hpl]at HP;have HP:=Lib.hid HP;have HNX2:=Lib.hid hnx;have HW:=Lib.hid hw;have hj0:(j:Int)<((usesL x).length:Int):=by omega
      clear hm hw hpl hnx hr0 hrR;go_wp2_with(go_at_call 53;refine HP.out.mono ?_;rintro e w4 ⟨rfl,hs4,hw4⟩;have HS4:=Lib.hid hs4;have HW4:=Lib.hid hw4;clear hs4 hw4);go_roundw
      case rel=>exact⟨j+1,by go_num,hlt,by rw[take_succ_of HNX2.out,putsW_snoc];exact HS4.out,HW.out.trans HW4.out (fun _ h=>Or.inl h)⟩
      case measure=>simp[intOf];omega
     ·obtain rfl:j=(usesL x).length:=by omega
      rw[List.take_length]at hm;have HM4:=Lib.hid hm;have HB4:=Lib.hid (HB3.out.trans (hw.below HB3.out.size (fun k hk=>by have:k=w.heap.size:=hk;omega)));obtain⟨hpl,_,_⟩:=putsW_good (nw:=nw) (rs:=usesL x) (s:=s1) (fun r hr=>by have:=HR.out.1 r (usesL_mem.1 hr);omega) HSL.out.1 HSL.out.2;have HPL:=Lib.hid hpl;clear hm hw hpl hj hlt;go_wp2_with fail;refine HQ.out _ _ _ ?_;exact bodyPost_ret (v:= .slice (some ⟨w.heap.size,0,none⟩) nw nw) (by simp[results,Tryz.results33,go_sem]) rfl ⟨w.heap.size,Nat.le_refl _,by rw[HAW.out,HPL.out],by rw[HAW.out];exact HM4.out,HB4.out⟩
end Go.Proofs.YtlenilbkifofjaaGreatDoor
