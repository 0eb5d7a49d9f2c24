/- live.Sets: its labels, its drawn regions. Conditions: as stated. live.Sets. Conditions: as stated. A copy whose functions get heads, as memory holds it; what is live ahead of a function's first instruction (plain). Conditions: as stated. LiveZero's region that puts a head ahead; bounds of runs (plain). Conditions: as stated. gantletref14's Run: the region that keeps a function's labels. Conditions: as stated. The page's Code and virt's: may a function be? (plain). No program in sight. A label's place in the page's table (plain). No program in sight. No condition. The graph's heap: how it lies; the walks of its reading functions. Conditions: as stated. The graph's heap: an object, copied out; at, move, apart. Conditions: as stated. The graph's heap: the element at a place. Conditions: as stated. The graph's heap: Load, One. Conditions: as stated. The graph's heap: places moved, told apart; One. Conditions: as stated. The graph's heap: ops of two places. Conditions: as stated. The graph's heap: ops of two places in one object. Conditions: as stated. The graph's heap: an op of two. Conditions: as stated. The graph's heap: an op of two. Conditions: as stated. virt: the regions of address and reckon that call. Conditions: as stated. What an instruction reckons (plain). No program in sight. No condition. The graph's clock: Tick, Stuck, Leave, Enter. Conditions: as stated. The graph's clock: Enter, Exit, End. Conditions: as stated. The graph's clock: End. Conditions: as stated. The graph's clock: Exit. Conditions: as stated. The graph's heap and clock: how they lie, whole. No program in sight but its name. No condition. The graph's heap: cut; how many elements objects have. Conditions: as stated. The graph's heap: a store. Conditions: as stated. The graph's heap: an object is made. Conditions: as stated. -/
import Derived.Test.YtlenilbkifofjaaGreatDoorLvMZz
import Derived.Test.YtlenilbkifofjaaGreatDoorQ04Zz
import Derived.Test.YtlenilbkifofjaaGreatDoorQ06Zz
import Derived.Test.YtlenilbkifofjaaGreatDoorQ08Zz
import Derived.Test.YtlenilbkifofjaaGreatDoorQ07Zz
import Derived.Test.YtlenilbkifofjaaGreatDoorQ02Zz
import Derived.Test.YtlenilbkifofjaaGreatDoorRCodeZz
import Derived.Test.YtlenilbkifofjaaGreatDoorVAskEZz
import Derived.Test.YtlenilbkifofjaaGreatDoorMemAtZz
import Derived.Test.YtlenilbkifofjaaGreatDoorQ01Zz
import Derived.Test.YtlenilbkifofjaaGreatDoorMemApplyZz
import Derived.Test.YtlenilbkifofjaaGreatDoorMemBinZz
import Derived.Test.YtlenilbkifofjaaGreatDoorMakeZz
import Derived.Deep.AppendLies
import Derived.Deep.RegionHeld3
import Derived.IntWalk
set_option linter.unusedVariables false
set_option linter.unusedSimpArgs false
set_option maxHeartbeats 8000000
set_option maxRecDepth 100000
namespace Go.Proofs.YtlenilbkifofjaaGreatDoor
open Go.RowKit
theorem lvlabels_any(c:CodeS)(LA:Option Addr)(lc:Nat)(BA:Option Addr)(bc:Nat)(B:Nat)(w:World)(hB:B≤w.heap.size)(hl:SliceAt w B 6 (InsE w B) c.ins (.slice BA c.ins.length bc))(hlen:c.ins.length≤8000)(hlay:layB [] c.ins=true):
  Calls Tryz.prog 32 #[.agg #[.int .i64 c.params,.int .i64 c.regs,.slice LA c.locs.length lc,.slice BA c.ins.length bc]] w fun e w'=>∃mb mn,e= .returned (.map (some mb))∧LabM w' mb mn (labO c.ins)∧Below w.heap.size w w':=by
 have HL:=Lib.hid (fun(fv:Value)=>vlay_any B (w.heap.size+1) c.ins BA bc (.int .i64 c.params) (.int .i64 c.regs) (.slice LA c.locs.length lc) (.int .i64 0) (.int .i64 0) fv (.map none) ((w.alloc (.cells #[.int .i64 c.params,.int .i64 c.regs,.slice LA c.locs.length lc,.slice BA c.ins.length bc] 39)).alloc (.cells #[.int .i64 c.params,.int .i64 c.regs,.slice LA c.locs.length lc,.slice BA c.ins.length bc,.int .i64 0,.int .i64 0,fv,.map none] 88)) (Row.new' _ _ (by simp)) (hl.below ((below2 w _ _).mono hB) (Nat.le_refl _) (fun _ _ h=>h.below ((below2 w _ _).mono hB) (Nat.le_refl _))) (by omega) hlen);have HLAY:=Lib.hid hlay;clear hl hlay;go_enter Tryz.func32,Tryz.ntmps32;refine wp_letter (fun Q hQ=>?_);have HQ:=Lib.hid hQ;clear hQ;go_wp2_with fail;refine(HL.out _).mono ?_;rintro e w2 ⟨rfl,mb,n,h1,h2,h3,h4,h5,h6⟩;have hmb:=h1
 simp only[World.size_alloc]at hmb;have HM:=Lib.hid (h6 HLAY.out);have k7:=h3.cell (j:=7) rfl;have kl:=h3.lt;have HW:=Lib.hid h4;clear h3 h4 h6;go_wp2_with fail;refine HQ.out _ _ _ ?_;refine bodyPost_ret (v:= .map (some mb)) (by simp[results,Tryz.results32,go_sem]) rfl ⟨mb,n,rfl,HM.out,?_⟩;exact((Wr.of_below (F:=fun _=>False) (below2 w _ _)).trans HW.out (fun i hi=>Or.inr (by omega))).below (Nat.le_refl _) (fun _ h=>h.elim)
theorem wrap_nat{n:Nat}(h:n≤9223372036854775807):IntKind.i64.wrap (n:Int)=(n:Int):=by rw[IntKind.wrap_i64];omega
theorem rows_info:(Tryz.prog.info? 95).map (fun i=>(i.zero,i.size,i.bytes))=some (some (.slice none 0 0),1,24):=by kernel_rfl
theorem make_rows(n:Nat)(h:n≤8001):∃Z:Array Value,Z.size=n∧∀W:World,(Instr.makeSlice 91 (.int .i64 (n:Nat)) (.int .i64 (n:Nat))).run Tryz.prog W= .ok (.slice (some ⟨W.heap.size,0,none⟩) n n) (W.alloc (.cells Z 95)):=by
 obtain⟨i0,hi,hz0,hz1,hz2⟩:=info_parts rows_info;refine⟨madeCells (Value.slice none 0 0).cells n,by rw[size_madeCells],fun W=>?_⟩;have:=run_make (P:=Tryz.prog) W 91 95 i0 _ Tryz.underlying91 hi hz0 .i64 .i64 n n (by omega) (by omega) (by rw[hz2];omega) (by omega);rw[hz1]at this;simpa using this
def lsACl(c:CodeS)(LA BA:Option Addr)(lc bc n m:Nat)(Z:Array Value)(N:Nat)(W:World):Nat→Value→Prop
 |0,v|1,v=>v= .agg #[.int .i64 c.params,.int .i64 c.regs,.slice LA c.locs.length lc,.slice BA c.ins.length bc]
 |2,v=>∃mb mn,v= .map (some mb)∧LabM W mb mn (labO c.ins)
 |3,v=>v= .int .i64 (n:Nat)
 |4,v=>v= .int .i64 (m:Nat)
 |5,v=>∃rb,v= .slice (some ⟨rb,0,none⟩) m m∧N≤rb∧Row W rb Z 95
 |_,_=>True
noncomputable def lsAR:Code:=(regsOf (Tryz.f21.body.getD .skip)).getD 2 .skip
theorem lsA_region(c:CodeS)(LA BA:Option Addr)(lc bc cb n m:Nat)(Z:Array Value)(w:World)(hrow:Row w cb #[.int .i64 c.params,.int .i64 c.regs,.slice LA c.locs.length lc,.slice BA c.ins.length bc] 39)(hlab:∀W,Below w.heap.size w W→Calls Tryz.prog 32 #[.agg #[.int .i64 c.params,.int .i64 c.regs,.slice LA c.locs.length lc,.slice BA c.ins.length bc]] W fun e w'=>∃mb mn,e= .returned (.map (some mb))∧LabM w' mb mn (labO c.ins)∧Below W.heap.size W w')(hmk:∀W:World,(Instr.makeSlice 91 (.int .i64 (m:Nat)) (.int .i64 (m:Nat))).run Tryz.prog W= .ok (.slice (some ⟨W.heap.size,0,none⟩) m m) (W.alloc (.cells Z 95)))(hn:n≤8000∧(n:Int)+1=(m:Int))
  (c0 c2 c4 c5 c6 c7 c8 c9 c10 c11 c12 c13 c14 c15 c16 c17 c18 c19 c20 c21 c22 c23 c24 c25 c26 c27 c28 c29 c30 c31 c32 c33 c34 c35 c36 c37 c38 c39 c40 c41 c42 c43 c44 c45 c46 c47 c48 c49 c50 c51 c52 c53 c54 c55 c56 c57 c58 c59 c60 c61 c62 c63 c64 c65 c66 c67 c68 c69 c70 c71 c72 c73 c74 c75 c76 c77 c78 c79 c80 c81 c82 c83 c84 c85:Value)(Q:Exit→Act→World→Prop)
  (hexit:∀(W:World)(mb mn rb:Nat)(y15 y16 y17 y18 y19 y20:Value),Below w.heap.size w W→LabM W mb mn (labO c.ins)→w.heap.size≤rb→Row W rb Z 95→Q .normal ⟨List.toArray (c0::(Value.pointer (some ⟨cb,0,none⟩))::c2::(Value.int .i64 (n:Nat))::(Value.pointer (some ⟨W.heap.size,0,none⟩))::c5::c6::c7::c8::c9::c10::c11::c12::c13::c14::y15::y16::y17::y18::y19::y20::(Value.agg #[.int .i64 c.params,.int .i64 c.regs,.slice LA c.locs.length lc,.slice BA c.ins.length bc,.map (some mb),.slice (some ⟨rb,0,none⟩) m m])::(Value.pointer (some ⟨W.heap.size,0,none⟩))::c23::c24::c25::c26::c27::c28::c29::c30::c31::c32::c33::c34::c35::c36::c37::c38::c39::c40::c41::c42::c43::c44::c45::c46::c47::c48::c49::c50::c51::c52::c53::c54::c55::c56::c57::c58::c59::c60::c61::c62::c63::c64::c65::c66::c67::c68::c69::c70::c71::c72::c73::c74::c75::c76::c77::c78::c79::c80::c81::c82::c83::c84::c85::[]),[]⟩ (W.alloc (.cells #[.int .i64 c.params,.int .i64 c.regs,.slice LA c.locs.length lc,.slice BA c.ins.length bc,.map (some mb),.slice (some ⟨rb,0,none⟩) m m] 93))):
  Code.wp Tryz.prog lsAR Q ⟨List.toArray (c0::(Value.pointer (some ⟨cb,0,none⟩))::c2::(Value.int .i64 (n:Nat))::c4::c5::c6::c7::c8::c9::c10::c11::c12::c13::c14::c15::c16::c17::c18::c19::c20::c21::c22::c23::c24::c25::c26::c27::c28::c29::c30::c31::c32::c33::c34::c35::c36::c37::c38::c39::c40::c41::c42::c43::c44::c45::c46::c47::c48::c49::c50::c51::c52::c53::c54::c55::c56::c57::c58::c59::c60::c61::c62::c63::c64::c65::c66::c67::c68::c69::c70::c71::c72::c73::c74::c75::c76::c77::c78::c79::c80::c81::c82::c83::c84::c85::[]),[]⟩ w:=by
 have HROW:=Lib.hid hrow;have HLAB:=Lib.hid hlab;have HMK:=Lib.hid hmk;have HN:=Lib.hid hn;have HEX:=Lib.hid hexit;clear hrow hlab hmk hn hexit
 conv=>arg 2;whnf
 refine region_cl_tail 6 (by kernel_rfl) (by kernel_rfl) (lsACl c LA BA lc bc n m Z w.heap.size) (fun Y=>⟨List.toArray (c0::(Value.pointer (some ⟨cb,0,none⟩))::c2::(Value.int .i64 (n:Nat))::c4::c5::c6::c7::c8::c9::c10::c11::c12::c13::c14::Y 0::Y 1::Y 2::Y 3::Y 4::Y 5::c21::c22::c23::c24::c25::c26::c27::c28::c29::c30::c31::c32::c33::c34::c35::c36::c37::c38::c39::c40::c41::c42::c43::c44::c45::c46::c47::c48::c49::c50::c51::c52::c53::c54::c55::c56::c57::c58::c59::c60::c61::c62::c63::c64::c65::c66::c67::c68::c69::c70::c71::c72::c73::c74::c75::c76::c77::c78::c79::c80::c81::c82::c83::c84::c85::[]),[]⟩) (fun i=>#[c15,c16,c17,c18,c19,c20].getD i undef) rfl ?_ ?_ ?_
 ·intro W W' i v hb h;rcases i with _|_|_|_|_|_|i
  ·exact h
  ·exact h
  ·obtain⟨mb,mn,h1,h2⟩:=h;exact⟨mb,mn,h1,h2.below hb⟩
  ·exact h
  ·exact h
  ·obtain⟨rb,h1,h2,h3⟩:=h;exact⟨rb,h1,h2,h3.below hb h3.lt⟩
  ·trivial
 ·intro i o' Y W hin ho hb hall K hK;have HW:=Lib.hid hb;clear hb;rcases i with _|_|_|_|_|_|i
  ·simp at ho;subst ho;have q0:=cell_below (HROW.out.cell (j:=0) rfl) HW.out HROW.out.lt;have q1:=cell_below (HROW.out.cell (j:=1) rfl) HW.out HROW.out.lt;have q2:=cell_below (HROW.out.cell (j:=2) rfl) HW.out HROW.out.lt;have q3:=cell_below (HROW.out.cell (j:=3) rfl) HW.out HROW.out.lt;have ql:=Nat.lt_of_lt_of_le HROW.out.lt HW.out.size;clear hall;refine wpOp_plain rfl rfl (fun K' hK'=>?_);go_simp;have hh:=hK' _ _ (hK _ _ (Below.refl _ _) rfl);simpa [upd]using hh
  ·simp at ho;subst ho;have q0:=cell_below (HROW.out.cell (j:=0) rfl) HW.out HROW.out.lt;have q1:=cell_below (HROW.out.cell (j:=1) rfl) HW.out HROW.out.lt;have q2:=cell_below (HROW.out.cell (j:=2) rfl) HW.out HROW.out.lt;have q3:=cell_below (HROW.out.cell (j:=3) rfl) HW.out HROW.out.lt;have ql:=Nat.lt_of_lt_of_le HROW.out.lt HW.out.size;clear hall;refine wpOp_plain rfl rfl (fun K' hK'=>?_);go_simp;have hh:=hK' _ _ (hK _ _ (Below.refl _ _) rfl);simpa [upd]using hh
  ·simp at ho;subst ho;have d1:=hall {on:=1,ground:=Ground.data} (by simp) rfl;have e1:Y 1= .agg #[.int .i64 c.params,.int .i64 c.regs,.slice LA c.locs.length lc,.slice BA c.ins.length bc]:=d1;have HC:=Lib.hid (HLAB.out W HW.out);clear hall;refine wpOp_plain rfl rfl (fun K' hK'=>?_);go_simp
   try simp only[e1]
   refine HC.out.mono ?_;rintro e W5 ⟨mb,mn,rfl,h1,h2⟩;clear HC;go_simp;have hh:=hK' _ _ (hK (.map (some mb)) _ h2 ⟨mb,mn,rfl,h1⟩);simpa [upd,e1]using hh
  ·simp at ho;subst ho;clear hall;refine wpOp_plain rfl rfl (fun K' hK'=>?_);go_simp;have hh:=hK' _ _ (hK _ _ (Below.refl _ _) rfl);simpa [upd]using hh
  ·simp at ho;subst ho;have d3:=hall {on:=3,ground:=Ground.data} (by simp) rfl;have e3:Y 3= .int .i64 (n:Nat):=d3;have hnn:=HN.out.1;have hadd:=HN.out.2;have hwm:IntKind.i64.wrap (m:Int)=(m:Int):=wrap_nat (by omega);clear hall;refine wpOp_plain rfl rfl (fun K' hK'=>?_);go_simp;have hh:=hK' _ _ (hK _ _ (Below.refl _ _) rfl);simpa [upd,e3,hadd,hwm]using hh
  ·simp at ho;subst ho;have d4:=hall {on:=4,ground:=Ground.data} (by simp) rfl;have e4:Y 4= .int .i64 (m:Nat):=d4;have hmk:=HMK.out W;clear hall;refine wpOp_plain rfl rfl (fun K' hK'=>?_);go_simp;have hh:=hK' _ _ (hK (.slice (some ⟨W.heap.size,0,none⟩) m m) _ (below1 W _) ⟨_,rfl,HW.out.size,Row.new _ _ _⟩);simpa [upd,e4,hmk]using hh
  ·omega
 ·intro Y W hb hc;have e0:Y 0= .agg #[.int .i64 c.params,.int .i64 c.regs,.slice LA c.locs.length lc,.slice BA c.ins.length bc]:=hc 0 (by decide);obtain⟨mb,mn,e2,hl⟩:=hc 2 (by decide);obtain⟨rb,e5,hrn,hr⟩:=hc 5 (by decide);clear hc;refine wpList_plain rfl (fun K hK=>?_);go_simp
  try simp only[e0,e2,e5]
  refine hK _ _ ?_;refine wpList_plain rfl (fun K hK=>?_);go_simp;refine hK _ _ ?_;refine wpList_plain rfl (fun K hK=>?_);go_simp;have hh:=HEX.out W mb mn rb (Y 0) (Y 1) (Y 2) (Y 3) (Y 4) (Y 5) hb hl hrn hr
  try simp only[e0,e2,e5]at hh
  exact hK _ _ hh
def lsBCl(c:CodeS)(cb fb rb n i0 q q1 N:Nat)(W:World):Nat→Value→Prop
 |0,v|1,v=>v= .pointer (some ⟨fb,0,none⟩)
 |2,v=>v= .pointer (some ⟨fb,5,none⟩)
 |3,v=>v= .slice (some ⟨rb,0,none⟩) n n
 |4,v=>v= .int .i64 (i0:Nat)
 |5,v=>v= .pointer (some ⟨cb,1,none⟩)
 |6,v=>v= .int .i64 c.regs
 |7,v=>v= .int .i64 (q:Nat)
 |8,v=>v= .int .i64 (q1:Nat)
 |9,v=>∃b,v= .slice (some ⟨b,0,none⟩) q1 q1∧N≤b∧WordsAt W b (List.replicate q1 0)
 |_,_=>True
noncomputable def lsBR:Code:=(regsOf (Tryz.f21.body.getD .skip)).getD 6 .skip
theorem lsB_region(c:CodeS)(LA BA:Option Addr)(lc bc cb fb rb mb n i0 q q1:Nat)(Z:Array Value)(w:World)(hcb:Row w cb #[.int .i64 c.params,.int .i64 c.regs,.slice LA c.locs.length lc,.slice BA c.ins.length bc] 39)(hrow:Row w fb #[.int .i64 c.params,.int .i64 c.regs,.slice LA c.locs.length lc,.slice BA c.ins.length bc,.map (some mb),.slice (some ⟨rb,0,none⟩) n n] 93)(hmk:∀W:World,(Instr.makeSlice 95 (.int .i64 (q1:Nat)) (.int .i64 (q1:Nat))).run Tryz.prog W= .ok (.slice (some ⟨W.heap.size,0,none⟩) q1 q1) (W.alloc (.cells Z 98)))(hwa:∀W:World,WordsAt (W.alloc (.cells Z 98)) W.heap.size (List.replicate q1 0))(hr:(0≤c.regs∧c.regs≤8000)∧c.regs.tdiv 64=(q:Int)∧q≤8000∧(q:Int)+1=(q1:Int))(hi:i0<n)(hrb:rb<w.heap.size∧w.frozen? ⟨rb,i0,none⟩=false∧∃v0,w.cell? ⟨rb,i0,none⟩=some v0)
  (c0 c2 c3 c6 c7 c8 c9 c10 c11 c12 c13 c14 c15 c16 c17 c18 c19 c20 c21 c22 c23 c24 c25 c26 c27 c28 c29 c30 c31 c32 c33 c34 c35 c36 c37 c38 c39 c40 c41 c42 c43 c44 c45 c46 c47 c48 c49 c50 c51 c52 c53 c54 c55 c56 c57 c58 c59 c60 c61 c62 c63 c64 c65 c66 c67 c68 c69 c70 c71 c72 c73 c74 c75 c76 c77 c78 c79 c80 c81 c82 c83 c84 c85:Value)(Q:Exit→Act→World→Prop)
  (hexit:∀(W:World)(b:Nat)(y31 y32 y33 y34 y35 y36 y37 y38 y39 y40 y41:Value),Below w.heap.size w W→w.heap.size≤b→WordsAt W b (List.replicate q1 0)→Q .normal ⟨List.toArray (c0::(Value.pointer (some ⟨cb,0,none⟩))::c2::c3::(Value.pointer (some ⟨fb,0,none⟩))::(Value.int .i64 (i0:Nat))::c6::c7::c8::c9::c10::c11::c12::c13::c14::c15::c16::c17::c18::c19::c20::c21::c22::c23::c24::c25::c26::c27::c28::c29::c30::y31::y32::y33::y34::y35::y36::y37::y38::y39::y40::y41::c42::c43::c44::c45::c46::c47::c48::c49::c50::c51::c52::c53::c54::c55::c56::c57::c58::c59::c60::c61::c62::c63::c64::c65::c66::c67::c68::c69::c70::c71::c72::c73::c74::c75::c76::c77::c78::c79::c80::c81::c82::c83::c84::c85::[]),[]⟩ (W.setCell ⟨rb,i0,none⟩ (.slice (some ⟨b,0,none⟩) q1 q1))):
  Code.wp Tryz.prog lsBR Q ⟨List.toArray (c0::(Value.pointer (some ⟨cb,0,none⟩))::c2::c3::(Value.pointer (some ⟨fb,0,none⟩))::(Value.int .i64 (i0:Nat))::c6::c7::c8::c9::c10::c11::c12::c13::c14::c15::c16::c17::c18::c19::c20::c21::c22::c23::c24::c25::c26::c27::c28::c29::c30::c31::c32::c33::c34::c35::c36::c37::c38::c39::c40::c41::c42::c43::c44::c45::c46::c47::c48::c49::c50::c51::c52::c53::c54::c55::c56::c57::c58::c59::c60::c61::c62::c63::c64::c65::c66::c67::c68::c69::c70::c71::c72::c73::c74::c75::c76::c77::c78::c79::c80::c81::c82::c83::c84::c85::[]),[]⟩ w:=by
 have HCB:=Lib.hid hcb;have HROW:=Lib.hid hrow;have HMK:=Lib.hid hmk;have HWA:=Lib.hid hwa;have HR:=Lib.hid hr;have HI:=Lib.hid hi;have HRB:=Lib.hid hrb;have HEX:=Lib.hid hexit;clear hcb hrow hmk hwa hr hi hrb hexit
 conv=>arg 2;whnf
 refine region_cl_tail 10 (by kernel_rfl) (by kernel_rfl) (lsBCl c cb fb rb n i0 q q1 w.heap.size) (fun Y=>⟨List.toArray (c0::(Value.pointer (some ⟨cb,0,none⟩))::c2::c3::(Value.pointer (some ⟨fb,0,none⟩))::(Value.int .i64 (i0:Nat))::c6::c7::c8::c9::c10::c11::c12::c13::c14::c15::c16::c17::c18::c19::c20::c21::c22::c23::c24::c25::c26::c27::c28::c29::c30::Y 0::Y 1::Y 2::Y 3::Y 4::Y 5::Y 6::Y 7::Y 8::Y 9::c41::c42::c43::c44::c45::c46::c47::c48::c49::c50::c51::c52::c53::c54::c55::c56::c57::c58::c59::c60::c61::c62::c63::c64::c65::c66::c67::c68::c69::c70::c71::c72::c73::c74::c75::c76::c77::c78::c79::c80::c81::c82::c83::c84::c85::[]),[]⟩) (fun i=>#[c31,c32,c33,c34,c35,c36,c37,c38,c39,c40].getD i undef) rfl ?_ ?_ ?_
 ·intro W W' i v hb h;rcases i with _|_|_|_|_|_|_|_|_|_|i
  ·exact h
  ·exact h
  ·exact h
  ·exact h
  ·exact h
  ·exact h
  ·exact h
  ·exact h
  ·exact h
  ·obtain⟨b,h1,h2,h3⟩:=h;exact⟨b,h1,h2,h3.below hb h3.lt⟩
  ·trivial
 ·intro i o' Y W hin ho hb hall K hK;have HW:=Lib.hid hb;clear hb;rcases i with _|_|_|_|_|_|_|_|_|_|i
  ·simp at ho;subst ho;clear hall;refine wpOp_plain rfl rfl (fun K' hK'=>?_);go_simp;have hh:=hK' _ _ (hK _ _ (Below.refl _ _) rfl);simpa [upd]using hh
  ·simp at ho;subst ho;have d0:=hall {on:=0,ground:=Ground.data} (by simp) rfl;have e0:Y 0= .pointer (some ⟨fb,0,none⟩):=d0;clear hall;refine wpOp_plain rfl rfl (fun K' hK'=>?_);go_simp;have hh:=hK' _ _ (hK _ _ (Below.refl _ _) rfl);simpa [upd,e0]using hh
  ·simp at ho;subst ho;have d1:=hall {on:=1,ground:=Ground.data} (by simp) rfl;have e1:Y 1= .pointer (some ⟨fb,0,none⟩):=d1;clear hall;refine wpOp_plain rfl rfl (fun K' hK'=>?_);go_simp;have hh:=hK' _ _ (hK _ _ (Below.refl _ _) rfl);simpa [upd,e1]using hh
  ·simp at ho;subst ho;have d2:=hall {on:=2,ground:=Ground.data} (by simp) rfl;have e2:Y 2= .pointer (some ⟨fb,5,none⟩):=d2;have q0:=cell_below (HROW.out.cell (j:=5) rfl) HW.out HROW.out.lt;have ql0:=Nat.lt_of_lt_of_le HROW.out.lt HW.out.size;clear hall;refine wpOp_plain rfl rfl (fun K' hK'=>?_);go_simp;have hh:=hK' _ _ (hK _ _ (Below.refl _ _) rfl);simpa [upd,e2]using hh
  ·simp at ho;subst ho;clear hall;refine wpOp_plain rfl rfl (fun K' hK'=>?_);go_simp;have hh:=hK' _ _ (hK _ _ (Below.refl _ _) rfl);simpa [upd]using hh
  ·simp at ho;subst ho;clear hall;refine wpOp_plain rfl rfl (fun K' hK'=>?_);go_simp;have hh:=hK' _ _ (hK _ _ (Below.refl _ _) rfl);simpa [upd]using hh
  ·simp at ho;subst ho;have d5:=hall {on:=5,ground:=Ground.data} (by simp) rfl;have e5:Y 5= .pointer (some ⟨cb,1,none⟩):=d5;have q0:=cell_below (HCB.out.cell (j:=1) rfl) HW.out HCB.out.lt;have ql0:=Nat.lt_of_lt_of_le HCB.out.lt HW.out.size;clear hall;refine wpOp_plain rfl rfl (fun K' hK'=>?_);go_simp;have hh:=hK' _ _ (hK _ _ (Below.refl _ _) rfl);simpa [upd,e5]using hh
  ·simp at ho;subst ho;have d6:=hall {on:=6,ground:=Ground.data} (by simp) rfl;have e6:Y 6= .int .i64 c.regs:=d6;have hR0:=HR.out.1.1;have hR:=HR.out.1.2;have hq:=HR.out.2.1;have hqq:=HR.out.2.2.1;have hwq:IntKind.i64.wrap (q:Int)=(q:Int):=wrap_nat (by omega);clear hall;refine wpOp_plain rfl rfl (fun K' hK'=>?_);go_simp;have hh:=hK' _ _ (hK _ _ (Below.refl _ _) rfl);simpa [upd,e6,hq,hwq]using hh
  ·simp at ho;subst ho;have d7:=hall {on:=7,ground:=Ground.data} (by simp) rfl;have e7:Y 7= .int .i64 (q:Nat):=d7;have hqq:=HR.out.2.2.1;have hadd:=HR.out.2.2.2;have hwq:IntKind.i64.wrap (q1:Int)=(q1:Int):=wrap_nat (by omega);clear hall;refine wpOp_plain rfl rfl (fun K' hK'=>?_);go_simp;have hh:=hK' _ _ (hK _ _ (Below.refl _ _) rfl);simpa [upd,e7,hadd,hwq]using hh
  ·simp at ho;subst ho;have d8:=hall {on:=8,ground:=Ground.data} (by simp) rfl;have e8:Y 8= .int .i64 (q1:Nat):=d8;have hmk:=HMK.out W;clear hall;refine wpOp_plain rfl rfl (fun K' hK'=>?_);go_simp;have hh:=hK' _ _ (hK (.slice (some ⟨W.heap.size,0,none⟩) q1 q1) _ (below1 W _) ⟨_,rfl,HW.out.size,HWA.out W⟩);simpa [upd,e8,hmk]using hh
  ·omega
 ·intro Y W hb hc;have e3:Y 3= .slice (some ⟨rb,0,none⟩) n n:=hc 3 (by decide);have e4:Y 4= .int .i64 (i0:Nat):=hc 4 (by decide);obtain⟨b,e9,hb9,hw9⟩:=hc 9 (by decide);clear hc;have hz:=hb.size;have ql:rb<W.heap.size:=by have:=HRB.out.1;omega
  have qf:W.frozen? ⟨rb,i0,none⟩=false:=by
   rw[frozen_of_heap (a:=⟨rb,i0,none⟩) (hb.block rb HRB.out.1)];exact HRB.out.2.1
  obtain⟨v0,hv0⟩:=HRB.out.2.2;have qv:=cell_below hv0 hb HRB.out.1;clear hv0;have hi0:(0:Int)≤(i0:Int):=by omega
  have hi1:(i0:Int)<(n:Int):=by have:=HI.out;omega
  refine wpList_plain rfl (fun K hK=>?_);go_simp
  try simp only[e3,e4]
  refine hK _ _ ?_;refine wpList_plain rfl (fun K hK=>?_);go_simp
  try simp only[e9]
  have hh:=HEX.out W b (Y 0) (Y 1) (Y 2) (Y 3) (Y 4) (Y 5) (Y 6) (Y 7) (Y 8) (Y 9) (.pointer (some ⟨rb,i0,none⟩)) hb hb9 hw9
  try simp only[e3,e4,e9]at hh
  exact hK _ _ hh
end Go.Proofs.YtlenilbkifofjaaGreatDoor
namespace Go.Proofs.YtlenilbkifofjaaGreatDoor
open Go.RowKit
theorem RowE.base{α:Type}{E:World→Nat→(Nat→Option Value)→α→Prop}{sz:Nat}(hE:Mono E sz){ty:TypeId}{b0 b1:Nat}{w:World}{lv:Value}{l:List α}{xs:List Value}(h:RowE E ty sz b1 w lv l xs)(hb:b0≤b1):RowE E ty sz b0 w lv l xs:=by
 obtain⟨⟨h1,h2⟩,h3⟩:=h;refine⟨⟨h1,?_⟩,fun i x hi=>hE _ _ _ _ _ _ _ (only_mono fun k hk _=>⟨⟨by omega,hk.2⟩,rfl⟩) (Nat.le_refl _) (fun _ _ _ h=>h) (h3 i x hi)⟩;rcases h2 with h2|⟨g,cap,cur,hv,hg,r⟩
 ·exact Or.inl h2
 ·exact Or.inr ⟨g,cap,cur,hv,by omega,r⟩
def RowsE(w:World)(B:Nat)(c:Nat→Option Value)(l:List Int):Prop:=∃v,c 0=some v∧LongsAt w B l v
theorem RowsE.mono:Mono RowsE 1:=fun _ _ _ _ _ _ _ hs hB hc⟨v,h1,h2⟩=>⟨v,hc _ _ (by decide) h1,h2.sub hs hB⟩
def wordsW(w:World)(b nw:Nat):List Nat:=(List.range nw).map fun j=>match w.cell? ⟨b,j,none⟩with|some (.int _ x)=>x.toNat|_=>0
def rowsW(w:World)(rb n nw:Nat):List (List Int):=(List.range n).map fun k=>match w.cell? ⟨rb,k,none⟩with|some (.slice (some a) _ _)=>listW 0 (wordsW w a.block nw)|_=>[]
theorem WordsAt.words{w:World}{b:Nat}{ws:List Nat}(h:WordsAt w b ws):wordsW w b ws.length=ws:=by
 refine List.ext_getElem (by simp[wordsW]) fun j h1 h2=>?_;have:=(h.word (List.getElem?_eq_getElem h2)).1;simp[wordsW,this]
theorem SetsAt.rows{w:World}{rb nw:Nat}{wss:List (List Nat)}(h:SetsAt w rb nw wss)(hs:Sets nw wss):rowsW w rb wss.length nw=wss.map (listW 0):=by
 refine List.ext_getElem (by simp[rowsW]) fun k h1 h2=>?_;have hk:k<wss.length:=by simpa using h2
 obtain⟨b,g0,hb⟩:=h.get hk;have hl:=(hs.getD hk).1;have e:wss.getD k []=wss[k]:=by rw[List.getD_eq_getElem?_getD,List.getElem?_eq_getElem hk];rfl
 rw[e]at hb hl;have hw:=hb.words;rw[hl]at hw;simp[rowsW,g0,hw]
theorem SetsAt.wrRow{w w':World}{rb nw:Nat}{wss:List (List Nat)}{k b:Nat}{s:List Nat}(h:SetsAt w rb nw wss)(hk:k<wss.length)(hb:WordsAt w b s):SetsAt (w.setCell ⟨rb,k,none⟩ (.slice (some ⟨b,0,none⟩) nw nw)) rb nw (wss.set k s):=by
 obtain⟨cs,h1,h2,h3⟩:=h;have hne:∀{g:Nat}{ws:List Nat},WordsAt w g ws→g≠rb:=fun hg=>by
  obtain⟨cs',hr,_⟩:=hg;exact hr.ne h1 (by decide)
 have hkeep:∀{g:Nat}{ws:List Nat},WordsAt w g ws→WordsAt (w.setCell ⟨rb,k,none⟩ (.slice (some ⟨b,0,none⟩) nw nw)) g ws:=fun hg=>hg.wr (Wr.cell1 w rb k _) (fun e=>hne hg e);refine⟨_,h1.set k _,by simp[h2],fun j hj=>?_⟩;rw[List.length_set]at hj;by_cases e:k=j
 ·subst e;refine⟨b,by rw[Array.getElem?_setIfInBounds_self_of_lt (by omega)],?_⟩;rw[List.getD_eq_getElem?_getD,List.getElem?_set_self hk];exact hkeep hb
 ·obtain⟨g,h4,h5⟩:=h3 j hj;refine⟨g,by rw[Array.getElem?_setIfInBounds_ne e];exact h4,?_⟩;rw[List.getD_eq_getElem?_getD,List.getElem?_set_ne e,←List.getD_eq_getElem?_getD];exact hkeep h5
def PartAt(w:World)(rb nw n k:Nat):Prop:=∃cs,Row w rb cs 95∧cs.size=n∧∀j,j<k→∃b,cs[j]? =some (.slice (some ⟨b,0,none⟩) nw nw)∧WordsAt w b (List.replicate nw 0)
theorem PartAt.next{w:World}{rb nw n k b:Nat}(h:PartAt w rb nw n k)(hk:k<n)(hb:WordsAt w b (List.replicate nw 0)):PartAt (w.setCell ⟨rb,k,none⟩ (.slice (some ⟨b,0,none⟩) nw nw)) rb nw n (k+1):=by
 obtain⟨cs,h1,h2,h3⟩:=h;have hne:∀{g:Nat}{ws:List Nat},WordsAt w g ws→g≠rb:=fun hg=>by
  obtain⟨cs',hr,_⟩:=hg;exact hr.ne h1 (by decide)
 have hkeep:∀{g:Nat}{ws:List Nat},WordsAt w g ws→WordsAt (w.setCell ⟨rb,k,none⟩ (.slice (some ⟨b,0,none⟩) nw nw)) g ws:=fun hg=>hg.wr (Wr.cell1 w rb k _) (fun e=>hne hg e);refine⟨_,h1.set k _,by simp[h2],fun j hj=>?_⟩;by_cases e:k=j
 ·subst e;exact⟨b,by rw[Array.getElem?_setIfInBounds_self_of_lt (by omega)],hkeep hb⟩
 ·obtain⟨g,h4,h5⟩:=h3 j (by omega);exact⟨g,by rw[Array.getElem?_setIfInBounds_ne e];exact h4,hkeep h5⟩
theorem PartAt.below{w w':World}{rb nw n k:Nat}(h:PartAt w rb nw n k)(hb:Below w.heap.size w w'):PartAt w' rb nw n k:=by
 obtain⟨cs,h1,h2,h3⟩:=h;refine⟨cs,h1.below hb h1.lt,h2,fun j hj=>?_⟩;obtain⟨b,h4,h5⟩:=h3 j hj;exact⟨b,h4,h5.below hb h5.lt⟩
theorem PartAt.sets{w:World}{rb nw n:Nat}(h:PartAt w rb nw n n):SetsAt w rb nw (List.replicate n (List.replicate nw 0)):=by
 obtain⟨cs,h1,h2,h3⟩:=h;refine⟨cs,h1,by simp[h2],fun j hj=>?_⟩;rw[List.length_replicate]at hj;obtain⟨b,h4,h5⟩:=h3 j hj;exact⟨b,h4,by rw[List.getD_eq_getElem?_getD,List.getElem?_replicate,if_pos hj];exact h5⟩
structure Seek (w0 w:World) (cb fb rb mb mn nw B:Nat) (c:CodeS) (LA:Option Addr) (lc:Nat) (BA:Option Addr) (bc:Nat) (wss:List (List Nat)):Prop where
 flow:FlowAt w fb rb mb mn nw c LA lc BA bc wss
 box:Row w cb #[.int .i64 c.params,.int .i64 c.regs,.slice LA c.locs.length lc,.slice BA c.ins.length bc] 39
 below:Below w0.heap.size w0 w
 fresh:w0.heap.size≤rb
 sets:Sets nw wss
 len:wss.length=c.ins.length+1
 plain:Flow c.ins (nw*64) (wss.map (listW 0))
section
variable {w0 w w':World} {cb fb rb mb mn nw B lc bc:Nat} {c:CodeS} {LA BA:Option Addr} {wss:List (List Nat)}
theorem Seek.next(h:Seek w0 w cb fb rb mb mn nw B c LA lc BA bc wss)(hb:Below w.heap.size w w'):Seek w0 w' cb fb rb mb mn nw B c LA lc BA bc wss:=
 ⟨h.flow.below hb,h.box.below hb h.box.lt,h.below.trans (hb.mono h.below.size),h.fresh,h.sets,h.len,h.plain⟩
theorem Seek.set{k b:Nat}{s:List Nat}(h:Seek w0 w cb fb rb mb mn nw B c LA lc BA bc wss)(hk:k<c.ins.length)(hb:WordsAt w b s)(hl:s.length=nw)(h64:In64W s)(hm:∀r,r∈listW 0 s↔LiveF c.ins (memR (wss.map (listW 0))) k r):
  Seek w0 (w.setCell ⟨rb,k,none⟩ (.slice (some ⟨b,0,none⟩) nw nw)) cb fb rb mb mn nw B c LA lc BA bc (wss.set k s):=by
 have hkw:k<wss.length:=by rw[h.len];omega
 have hw:=Wr.cell1 w rb k (.slice (some ⟨b,0,none⟩) nw nw);obtain⟨cs,hr,_⟩:=id h.flow.sets;refine⟨⟨?_,h.flow.sets.wrRow (w':=w) hkw hb,h.flow.labs.wr hw (fun e=>h.flow.labs.ne hr e)⟩,h.box.wr hw (fun e=>h.box.ne hr (by decide) e),h.below.trans (hw.below h.below.size (fun i hi=>by have:i=rb:=hi;have:=h.fresh;omega)),h.fresh,fun ws hws=>?_,by rw[List.length_set];exact h.len,?_⟩
 ·rw[List.length_set];exact h.flow.row.wr hw (fun e=>h.flow.row.ne hr (by decide) e)
 ·rcases List.mem_or_eq_of_mem_set hws with h1|rfl
  ·exact h.sets _ h1
  ·exact⟨hl,h64⟩
 ·rw[List.map_set];refine h.plain.set hk listW_rise (fun y hy=>?_) hm;have:=listW_low hy;rw[hl]at this;omega
theorem Seek.room(h:Seek w0 w cb fb rb mb mn nw B c LA lc BA bc wss):roomL (nw*64) (rowsW w rb (c.ins.length+1) nw)=roomL (nw*64) (wss.map (listW 0)):=by
 rw[←h.len,h.flow.sets.rows h.sets]
end
def flagN:Value→Nat
 | .bool true=>1
 |_=>0
def Still(l:List InsS)(wss:List (List Nat))(k:Nat):Prop:=∀j,k≤j→j<l.length→∀r,LiveF l (memR (wss.map (listW 0))) j r→memR (wss.map (listW 0)) j r
theorem lists_info:(Tryz.prog.info? 41).map (fun i=>(i.zero,i.size,i.bytes))=some (some (.slice none 0 0),1,24):=by kernel_rfl
def SetsSays(l:List InsS)(w:World)(e:Ending)(w':World):Prop:=∃rows,IsLive l rows∧ListEnd RowsE 1 rows w e w'
theorem lsets_any(c:CodeS)(LA:Option Addr)(lc:Nat)(BA:Option Addr)(bc R B:Nat)(w:World)(hB:B≤w.heap.size)(hK:SliceAt w B 6 (InsE w B) c.ins (.slice BA c.ins.length bc))(hN:Named c.ins)(hRg:∀x,x∈c.ins→RegsIn R x)
  (hreg:c.regs=(R:Int))(hR8:R≤8000)(h8:c.ins.length≤8000)(hlay:layB [] c.ins=true)(hal:∀x,x∈c.ins→x.arg.length*8≤140737488351232)(hT:TabAt 0 Lib.deBruijn64tab w)(hg:0<w.heap.size):
  Calls Tryz.prog 21 #[.agg #[.int .i64 c.params,.int .i64 c.regs,.slice LA c.locs.length lc,.slice BA c.ins.length bc]] w fun e w'=>SetsSays c.ins w e w':=by
 obtain⟨q,hq⟩:∃q,q=R/64:=⟨_,rfl⟩
 obtain⟨nw,hnw⟩:∃nw,nw=q+1:=⟨_,rfl⟩
 obtain⟨m,hm⟩:∃m,m=c.ins.length+1:=⟨_,rfl⟩
 have hnw8:nw≤1000:=by omega
 have hRn:R≤nw*64:=by omega
 obtain⟨Z,hZ,hmk⟩:=make_rows m (by omega);obtain⟨Z2,hZ2,hZ20,hmk2⟩:=make_words nw hnw8;have HBX:=Lib.hid (Row.new w #[.int .i64 c.params,.int .i64 c.regs,.slice LA c.locs.length lc,.slice BA c.ins.length bc] 39);have HB0:=Lib.hid (below1 w (.cells #[.int .i64 c.params,.int .i64 c.regs,.slice LA c.locs.length lc,.slice BA c.ins.length bc] 39));have HLB:=Lib.hid (fun W(hW:Below w.heap.size w W)=>lvlabels_any c LA lc BA bc B W (by have:=hW.size;omega) (hK.below (hW.mono hB) (Nat.le_refl _) (fun _ _ h=>h.below (hW.mono hB) (Nat.le_refl _))) h8 hlay);have HKW:=Lib.hid (fun W(hW:Below w.heap.size w W)=>(hK.below (hW.mono hB) (Nat.le_refl _) (fun _ _ h=>h.below (hW.mono hB) (Nat.le_refl _)):SliceAt W B 6 (InsE W B) c.ins (.slice BA c.ins.length bc)));have HTW:=Lib.hid (fun W(hW:Below w.heap.size w W)=>tab_below hT hW hg)
 have HWA:=Lib.hid (fun W=>made_words W nw Z2 hZ2 hZ20);have HMK:=Lib.hid hmk;have HMK2:=Lib.hid hmk2;have HN:=Lib.hid hN;have HRG:=Lib.hid hRg;have HAL:=Lib.hid hal;have HQ8:=Lib.hid (show(0≤c.regs∧c.regs≤8000)∧c.regs.tdiv 64=(q:Int)∧q≤8000∧(q:Int)+1=(nw:Int)from by
  rw[Int.tdiv_eq_ediv_of_nonneg (by omega)];omega)
 have HM:=Lib.hid (show c.ins.length≤8000∧(c.ins.length:Int)+1=(m:Int)from by omega);have HMN:=Lib.hid hm;have hm8:m≤8001:=by omega
 clear hK hN hRg hreg hlay hal hT hmk hmk2 hZ2 hZ20 hq hnw hm;obtain⟨i0,hi,hz0,hz1,hz2⟩:=info_parts lists_info;go_enter Tryz.func21,Tryz.ntmps21;refine wp_letter (fun Q hQ=>?_);have HQ:=Lib.hid hQ;clear hQ;go_wp2_with fail;refine lsA_region c LA BA lc bc w.heap.size c.ins.length m Z _ HBX.out (fun W hW=>HLB.out W (HB0.out.trans (hW.mono HB0.out.size))) HMK.out HM.out _ _ _ _ _ _ _ _ _ _ _ _ _ _ _ _ _ _ _ _ _ _ _ _ _ _ _ _ _ _ _ _ _ _ _ _ _ _ _ _ _ _ _ _ _ _ _ _ _ _ _ _ _ _ _ _ _ _ _ _ _ _ _ _ _ _ _ _ _ _ _ _ _ _ _ _ _ _ _ _ _ _ _ _ _ ?_;intro W mb mn rb y15 y16 y17 y18 y19 y20 hbW hlW hrn hrW;obtain⟨fb,hfb⟩:∃fb,fb=W.heap.size:=⟨_,rfl⟩
 obtain⟨W1,hW1⟩:∃W1,W1=W.alloc (.cells #[.int .i64 c.params,.int .i64 c.regs,.slice LA c.locs.length lc,.slice BA c.ins.length bc,.map (some mb),.slice (some ⟨rb,0,none⟩) m m] 93):=⟨_,rfl⟩
 rw[←hfb,←hW1];have hb1:Below W.heap.size W W1:=by rw[hW1];exact below1 W _
 have hfrow:Row W1 fb #[.int .i64 c.params,.int .i64 c.regs,.slice LA c.locs.length lc,.slice BA c.ins.length bc,.map (some mb),.slice (some ⟨rb,0,none⟩) m m] 93:=by rw[hW1,hfb];exact Row.new W _ _
 have HB1:=Lib.hid (HB0.out.trans ((hbW.trans (hb1.mono hbW.size)).mono HB0.out.size));have HBX1:=Lib.hid ((HBX.out.below hbW HBX.out.lt).below hb1 (HBX.out.below hbW HBX.out.lt).lt);have HFR:=Lib.hid hfrow;have HLW:=Lib.hid (hlW.below hb1);have HRW:=Lib.hid (hrW.below hb1 hrW.lt);have HRF:=Lib.hid (show w.heap.size≤rb from by have:=HB0.out.size;omega);clear hbW hlW hrn hrW hfb hW1 hb1 hfrow;have f5:=HFR.out.cell (j:=5) rfl;have fl:=HFR.out.lt;go_wp2_with fail;go_loopw [28] (fun i wr=>∃k:Nat,i= .int .i64 (k:Nat)∧k≤m∧PartAt wr rb nw m k∧Wr (fun j=>j=rb) W1 wr) (fun i _=>m-(intOf i).toNat)
 case atStart=>exact⟨0,rfl,Nat.zero_le _,⟨Z,HRW.out,hZ,fun j hj=>by omega⟩,Wr.refl _ _⟩
 case round=>
  obtain⟨k,rfl,hk,hp,hw⟩:=hrel;obtain⟨cs,hcr,hcs,_⟩:=id hp;have hbx:=HBX1.out.wr hw (fun e=>HBX1.out.ne HRW.out (by decide) e);have hfr:=HFR.out.wr hw (fun e=>HFR.out.ne HRW.out (by decide) e);by_cases hlt:k<m
  ·have hkm:(k:Int)<(m:Int):=by omega
   have HP:=Lib.hid hp;have HW:=Lib.hid hw;have HC:=Lib.hid hcr;obtain⟨v0,hv0⟩:∃v0,cs[k]? =some v0:=⟨_,Array.getElem?_eq_getElem (by omega)⟩
   have HRB:=Lib.hid (show rb<wr.heap.size∧wr.frozen? ⟨rb,k,none⟩=false∧∃v0,wr.cell? ⟨rb,k,none⟩=some v0 from⟨hcr.lt,hcr.free k,v0,hcr.cell hv0⟩);have HBX2:=Lib.hid hbx;have HFR2:=Lib.hid hfr;clear hp hw hcr hbx hfr hv0 hcs;go_wp2_with fail;refine lsB_region c LA BA lc bc w.heap.size fb rb mb m k q nw Z2 _ HBX2.out HFR2.out HMK2.out HWA.out HQ8.out hlt HRB.out _ _ _ _ _ _ _ _ _ _ _ _ _ _ _ _ _ _ _ _ _ _ _ _ _ _ _ _ _ _ _ _ _ _ _ _ _ _ _ _ _ _ _ _ _ _ _ _ _ _ _ _ _ _ _ _ _ _ _ _ _ _ _ _ _ _ _ _ _ _ _ _ _ _ _ _ _ _ _ _ _ _ _ _ ?_;intro W2 b y31 y32 y33 y34 y35 y36 y37 y38 y39 y40 y41 hb2 hbl hwb;have HP2:=Lib.hid ((HP.out.below hb2).next hlt hwb);have HW2:=Lib.hid ((HW.out.trans (Wr.of_below (F:=fun _=>False) hb2) (fun _ h=>h.elim)).trans (Wr.cell1 W2 rb k (.slice (some ⟨b,0,none⟩) nw nw)) (fun _ h=>Or.inl h));clear hb2 hbl hwb;go_wp2_with fail
   go_roundw
   case rel=>exact⟨k+1,by go_num,hlt,HP2.out,HW2.out⟩
   case measure=>simp[intOf];omega
  ·obtain rfl:k=m:=by omega
   have hlen:(List.replicate k (List.replicate nw 0)).length=c.ins.length+1:=by rw[List.length_replicate,HMN.out]
   have hmap:(List.replicate k (List.replicate nw 0)).map (listW 0)=List.replicate (c.ins.length+1) []:=by rw[List.map_replicate,listW_zero,HMN.out]
   have HSK:=Lib.hid (show Seek w wr w.heap.size fb rb mb mn nw B c LA lc BA bc (List.replicate k (List.replicate nw 0))from
    ⟨⟨by rw[List.length_replicate];exact hfr,hp.sets,HLW.out.wr hw (fun e=>HLW.out.ne HRW.out e)⟩,hbx,HB1.out.trans (hw.below HB1.out.size (fun i hi=>by have:i=rb:=hi;have:=HRF.out;omega)),HRF.out,fun ws hws=>by rw[List.eq_of_mem_replicate hws];exact⟨by simp,zero_64⟩,hlen,by rw[hmap];exact Flow.start _ _⟩)
   obtain⟨wss0,hws0⟩:∃wss0,wss0=List.replicate k (List.replicate nw 0):=⟨_,rfl⟩
   rw[←hws0]at HSK;obtain⟨w5,rfl⟩:∃w5:World,w5=wr:=⟨_,rfl⟩
   clear hp hw hcr hbx hfr hcs hlen hmap hws0 hk hlt f5 fl;have hnl:c.ins.length≤8000:=h8;go_wp2_with fail;go_loopw [6] (fun ch wr=>∃(wss:List (List Nat))(b:Bool),ch= .bool b∧Seek w wr w.heap.size fb rb mb mn nw B c LA lc BA bc wss∧(b=false→Still c.ins wss 0)) (fun ch wr=>roomL (nw*64) (rowsW wr rb (c.ins.length+1) nw)+flagN ch)
   case atStart=>exact⟨wss0,true,rfl,HSK.out,fun h=>by cases h⟩
   case round=>
    obtain⟨wss,b,rfl,hsk,hst⟩:=hrel;have HSK2:=Lib.hid hsk;have HRO:=Lib.hid hsk.room;obtain⟨w6,rfl⟩:∃w6:World,w6=wr:=⟨_,rfl⟩
    cases b with
    |false=>
     have HIS:=Lib.hid (hsk.plain.done (fun k hk r hr=>hst rfl k (Nat.zero_le _) hk r hr));have f5:=hsk.flow.row.cell (j:=5) rfl;have fl:=hsk.flow.row.lt;have hwl8:wss.length≤8001:=by have:=hsk.len;omega
     clear hsk hst;go_wp2_with fail;go_loopw [9,75] (fun r i wr=>∃(k:Nat)(LA':Option Addr)(ln lc':Nat)(xs:List Value),k≤wss.length∧i= .int .i64 k∧r= .slice LA' ln lc'∧RowE RowsE 41 1 w6.heap.size wr (.slice LA' ln lc') ((wss.map (listW 0)).take k) xs∧Below w6.heap.size w6 wr) (fun _ i _=>wss.length-(intOf i).toNat)
     case atStart=>exact⟨0,none,0,0,[],by omega,rfl,rfl,RowE.nil _ _ _ _ _,Below.refl _ _⟩
     case round=>
      obtain⟨k,LA',ln,lc',xs,hk,rfl,rfl,hR,hbw⟩:=hrel;have HR:=Lib.hid hR;have HBW:=Lib.hid hbw;have hzw:=hbw.size;have hzw0:=HSK2.out.below.size;have htl:((wss.map (listW 0)).take k).length=k:=by simp;omega
      have HTL:=Lib.hid htl;by_cases hlt:k<wss.length
      ·have hS:=HSK2.out.flow.sets.below hbw;obtain⟨tb,g0,htb⟩:=hS.get hlt;have gl:=hS.lt;have hgood:=HSK2.out.sets.getD hlt;have HLI:=llist_any tb (wss.getD k []) nw wr htb (by rw[hgood.1];omega) (HTW.out wr (HSK2.out.below.trans (hbw.mono hzw0))) (by omega);rw[hgood.1]at HLI;have HLI:=Lib.hid HLI;have HG:=Lib.hid hgood;have hklt:(k:Int)<(wss.length:Int):=by omega
       have HK1:=Lib.hid (show(wss.map (listW 0))[k]? =some (listW 0 (wss.getD k []))from by rw[List.getElem?_map,List.getD_eq_getElem?_getD,List.getElem?_eq_getElem hlt];rfl);clear hR hbw hS htb hgood htl;go_wp2_with fail;refine HLI.out.mono ?_;rintro e w7 ⟨A9,c9,rfl,hs9,_,hb9⟩;have hz9:=hb9.size;have HS9:=Lib.hid hs9;have HB9:=Lib.hid hb9;obtain⟨ls,hls⟩:∃ls,ls=listW 0 (wss.getD k []):=⟨_,rfl⟩
       rw[←hls]at HS9 HK1;rw[←hls];clear hs9 hb9 g0 gl hls;go_wp2_with(at_builtin;refine wpList_append_lies _ rfl (.tmp 79) (.tmp 82) 33 rfl w6.heap.size 41 i0 (.slice none 0 0) 1 24 Tryz.underlying33 hi hz0 hz1 hz2 rfl (by decide) _ k xs rfl (by have h:=HR.out.own;rw[HTL.out]at h;exact(ownsRow_wr h ((Wr.of_below (F:=fun _=>False) HB9.out).allocR _) (fun _ _ h=>h))) ⟨w7.heap.size,0,none⟩ 1 1 [.slice A9 ls.length c9] rfl rfl ?c1 ?c2 (by decide) ?c3 ?c4 ?c5 _ rfl ?_)
       case c1=>exact cells_new _ _ _
       case c2=>intro u hu;simp at hu;rcases hu with rfl;rfl
       case c3=>unfold maxLen;omega
       case c4=>omega
       case c5=>first|omega|(simp<;>omega)
       ·intro g cap' w8 hown3 hgrow hat hglt;have HN8:=Lib.hid (show RowE RowsE 41 1 w6.heap.size w8 (.slice (some ⟨g,0,none⟩) (k+1) cap') ((wss.map (listW 0)).take (k+1)) (xs++[.slice A9 ls.length c9])from by
         have h:=RowE.next RowsE.mono HR.out (by omega) HB9.out (us:=[.slice A9 ls.length c9]) (x:=ls) ⟨_,rfl,HS9.out⟩ rfl (below1 w7 _) (by rw[HTL.out];exact hown3) hgrow (by simpa using hat);rw[HTL.out]at h;rw[take_succ_of HK1.out];exact h)
        have HBN:=Lib.hid (show Below w6.heap.size w6 w8 from(HBW.out.trans (HB9.out.mono hzw)).trans (((Below.refl _ _).alloc (by omega) _).grown hgrow (by first|omega|(simp<;>omega)) (fun g hg=>by have:=(HR.out.lt hg);omega)));clear hown3 hgrow hat;go_wp2_with fail;go_roundw
        case rel=>exact⟨k+1,_,_,_,_,by omega,by go_num,rfl,HN8.out,HBN.out⟩
        case measure=>simp[intOf];omega
      ·obtain rfl:k=wss.length:=by omega
       rw[List.take_of_length_le (by simp)]at hR;have HR2:=Lib.hid hR;clear hR hbw;go_wp2_with fail;refine HQ.out _ _ _ ?_;exact bodyPost_ret (v:= .slice LA' ln lc') (by simp[results,Tryz.results21,go_sem]) rfl ⟨_,HIS.out,ListEnd.of_row RowsE.mono (HR2.out.base RowsE.mono HSK2.out.below.size) (HSK2.out.below.trans (HBW.out.mono HSK2.out.below.size))⟩
    |true=>
     clear hsk hst;go_wp2_with fail;go_loopw [6,7] (fun ch a wr=>∃(k:Nat)(wss':List (List Nat))(b:Bool),a= .int .i64 ((k:Int)-1)∧k≤c.ins.length∧ch= .bool b∧Seek w wr w.heap.size fb rb mb mn nw B c LA lc BA bc wss'∧(b=false→wss'=wss∧Still c.ins wss k)∧(b=true→roomL (nw*64) (wss'.map (listW 0))<roomL (nw*64) (wss.map (listW 0)))) (fun _ a _=>(intOf a+1).toNat)
     case atStart=>exact⟨c.ins.length,wss,false,by go_num,Nat.le_refl _,rfl,HSK2.out,fun _=>⟨rfl,fun j h1 h2=>by omega⟩,fun h=>by cases h⟩
     case round=>
      obtain⟨k,wss',b,rfl,hk,rfl,hsk,hf,ht⟩:=hrel;have HF:=Lib.hid hf;have HTT:=Lib.hid ht;have HSK3:=Lib.hid hsk;cases k with
      |zero=>
       have hkk:((0:Nat):Int)-1= -1:=rfl;rw[hkk];clear hsk hf ht hkk;go_wp2_with fail;go_roundw
       case rel=>exact⟨wss',b,rfl,HSK3.out,fun h=>by obtain⟨h1,h2⟩:=HF.out h;rw[h1];exact h2⟩
       case measure=>
        rw[HSK3.out.room,HRO.out];cases b with
        |false=>rw[(HF.out rfl).1];simp[flagN]
        |true=>have:=HTT.out rfl;simp[flagN];omega
      |succ j=>
       have hkk:((j+1:Nat):Int)-1=(j:Int):=by omega
       rw[hkk];have hjn:j<c.ins.length:=by omega
       obtain⟨x,hx⟩:∃x,c.ins[j]? =some x:=⟨_,List.getElem?_eq_getElem hjn⟩
       have hxm:=List.mem_of_getElem? hx;have hjw:j<wss'.length:=by rw[hsk.len];omega
       have HAH:=lahead_any c LA lc BA bc fb rb mb mn nw R B j wss' x wr (by have:=hsk.below.size;omega) (HKW.out wr hsk.below) hsk.flow HN.out hsk.sets hsk.len h8 hx (HRG.out x hxm) hRn hnw8 (HAL.out x hxm);obtain⟨hgl,hg64,hgm⟩:=aheadW_good hsk.sets hsk.len hRn (HRG.out x hxm) hx (fun n hn=>by rw[hsk.len];exact next_lt HN.out hjn n hn);obtain⟨s,hs⟩:∃s,s=aheadW c.ins nw wss' j x:=⟨_,rfl⟩
       rw[←hs]at HAH hgl hg64 hgm;unfold NewWords at HAH;rw[hgl]at HAH;have HAH:=Lib.hid HAH;have HGM:=Lib.hid (And.intro hgl (And.intro hg64 hgm));have hj0:(0:Int)≤(j:Int):=by omega
       have hjw2:(j:Int)<(wss'.length:Int):=by omega
       clear hsk hf ht hkk hx hxm hgl hg64 hgm hs;go_wp2_with fail;refine HAH.out.mono ?_;rintro e w7 ⟨sb,hsb,rfl,hws,hb7⟩;have HSK7:=Lib.hid (HSK3.out.next hb7);have HWS:=Lib.hid hws;have f5:=HSK7.out.flow.row.cell (j:=5) rfl;have fl:=HSK7.out.flow.row.lt;obtain⟨tb,g0,htb⟩:=HSK7.out.flow.sets.get hjw;have gl:=HSK7.out.flow.sets.lt;have HTB:=Lib.hid htb;have hgood:=HSK7.out.sets.getD hjw;have HEQ:=lequal_any sb tb s (wss'.getD j []) nw nw w7 HWS.out htb (by rw[HGM.out.1,hgood.1]) (by rw[HGM.out.1];omega);rw[HGM.out.1,hgood.1]at HEQ;have HEQ:=Lib.hid HEQ;clear hws hb7 htb hgood;go_wp2_with fail;refine HEQ.out.mono ?_;rintro e w8 ⟨rfl,hb8⟩;have HSK8:=Lib.hid (HSK7.out.next hb8);have HWS8:=Lib.hid (HWS.out.below hb8 HWS.out.lt);clear hb8 f5 fl g0 gl;by_cases hse:s=wss'.getD j []
       ·have hd:decide (s=wss'.getD j [])=true:=decide_eq_true hse;rw[hd];have HSE:=Lib.hid hse;clear hse hd;go_wp2_with fail;go_roundw
        case rel=>
         refine⟨j,wss',b,rfl,by omega,rfl,HSK8.out,fun h=>?_,HTT.out⟩;obtain⟨h1,h2⟩:=HF.out h;refine⟨h1,fun i hi1 hi2 r hr=>?_⟩;by_cases hij:i=j
         ·subst hij;rw[←h1]at hr ⊢;have:=(HGM.out.2.2 r).2 hr;rw[HSE.out]at this;exact memR_map.2 ⟨hjw,this⟩
         ·exact h2 i (by omega) hi2 r hr
        case measure=>first|(simp[intOf];done)|(simp[intOf];omega)
       ·have hd:decide (s=wss'.getD j [])=false:=decide_eq_false hse;rw[hd];have HSE:=Lib.hid hse;obtain⟨cs8,hr8,hc8,hh8⟩:=id HSK8.out.flow.sets;obtain⟨b8,hb8,_⟩:=hh8 j hjw;have f5:=HSK8.out.flow.row.cell (j:=5) rfl;have fl:=HSK8.out.flow.row.lt;have g0:=hr8.cell hb8;have g1:=hr8.free j;have gl:=hr8.lt;have HSK9:=Lib.hid (HSK8.out.set hjn HWS8.out HGM.out.1 HGM.out.2.1 HGM.out.2.2);have HTN:=Lib.hid (HSK8.out.plain.turn hjn (x:=listW 0 s) listW_rise (fun y hy=>by have:=listW_low hy;rw[HGM.out.1]at this;omega) HGM.out.2.2 (fun e=>by
         simp only[List.getElem_map]at e;have hjg:=HSK8.out.sets.getD hjw;rw[List.getD_eq_getElem?_getD,List.getElem?_eq_getElem hjw,Option.getD_some]at hjg;have:=listW_ext (by rw[HGM.out.1,hjg.1]) HGM.out.2.1 hjg.2 e;exact HSE.out (by rw[List.getD_eq_getElem?_getD,List.getElem?_eq_getElem hjw,Option.getD_some];exact this)))
        clear hse hd hr8 hc8 hh8 hb8;go_wp2_with fail;go_roundw
        case rel=>
         refine⟨j,wss'.set j s,true,rfl,by omega,rfl,HSK9.out,(fun h=>by cases h),(fun _=>?_)⟩;have h1:=HTN.out;rw[←List.map_set]at h1;cases b with
         |false=>rw[(HF.out rfl).1]at h1 ⊢;exact h1
         |true=>exact Nat.lt_trans h1 (HTT.out rfl)
        case measure=>first|(simp[intOf];done)|(simp[intOf];omega)
end Go.Proofs.YtlenilbkifofjaaGreatDoor
namespace Go.Proofs.YtlenilbkifofjaaGreatDoor
open Go.RowKit
structure CopyV (w:World) (base:Nat) (GA:Option Addr) (gc:Nat) (FA:Option Addr) (fc:Nat) (xs:List Value) (p:VirtS):Prop where
 globs:SliceAt w base 3 (ObE w base) p.globs (.slice GA p.globs.length gc)
 funcs:RowE CodeE 39 4 base w (.slice FA p.funcs.length fc) p.funcs xs
 main:In64 p.main
 size:base≤w.heap.size
section
variable {w w':World} {base gc fc:Nat} {GA FA:Option Addr} {xs:List Value} {p:VirtS}
theorem CopyV.below(h:CopyV w base GA gc FA fc xs p)(hb:Below w.heap.size w w'):CopyV w' base GA gc FA fc xs p:=
 ⟨h.globs.below (hb.mono h.size) (Nat.le_refl _) (fun _ _ h'=>h'.below (hb.mono h.size) (Nat.le_refl _)),h.funcs.below CodeE.mono hb,h.main,Nat.le_trans h.size hb.size⟩
theorem CopyV.virt(h:CopyV w base GA gc FA fc xs p):VirtAt w w.heap.size (.slice GA p.globs.length gc,.slice FA p.funcs.length fc,.int .i64 p.main) p:=
 ⟨SliceAt.sub ObE.mono h.globs (Sub.refl _) h.size,SliceAt.sub CodeE.mono (h.funcs.slice CodeE.mono) (only_sub _ _) (Nat.le_refl _),rfl,h.main⟩
theorem SliceAt.only_all{α:Type}{E:World→Nat→(Nat→Option Value)→α→Prop}{sz B:Nat}{S:Nat→Prop}{l:List α}{v:Value}(hE:Mono E sz)(h:SliceAt (only w S) B sz (E (only w S) B) l v):SliceAt w B sz (E w B) l v:=SliceAt.sub hE h (only_sub _ _) (Nat.le_refl _)
theorem CopyV.at(h:CopyV w base GA gc FA fc xs p){k:Nat}{c:CodeS}(hk:p.funcs[k]? =some c):∃g IA ic,FA=some ⟨g,0,none⟩∧base≤g∧g<w.heap.size∧w.frozen? ⟨g,k*4+3,none⟩=false∧
  w.cell? ⟨g,k*4+3,none⟩=some (.slice IA c.ins.length ic)∧SliceAt (only w (fun b=>base≤b∧b≠g)) w.heap.size 6 (InsE (only w (fun b=>base≤b∧b≠g)) w.heap.size) c.ins (.slice IA c.ins.length ic):=by
 have hkl:k<p.funcs.length:=(List.getElem?_eq_some_iff.1 hk).1;obtain⟨g,hFA⟩:∃g,FA=some ⟨g,0,none⟩:=by
  rcases h.funcs.own.2 with⟨_,h2⟩|⟨g,cap,cur,hv,_⟩
  ·omega
  ·injection hv with e;exact⟨g,e⟩
 subst hFA;obtain⟨hg1,hg2⟩:=h.funcs.lt (g:=g) rfl;obtain⟨_,_,_,⟨v,hv,hs⟩,_⟩:=h.funcs.elems k c hk;have hv:xs[k*4+3]? =some v:=hv;have hc:=World.ownsRow.cellAt h.funcs.own (k*4+3) (by omega);rw[hv]at hc;obtain⟨IA,ic,rfl,_⟩:=id hs;exact⟨g,IA,ic,rfl,hg1,hg2,World.ownsRow.frozenAt h.funcs.own _,hc,SliceAt.sub InsE.mono hs (only_mono fun b hb _=>⟨⟨hb.1,fun e=>hb.2 (by rw[e];rfl)⟩,rfl⟩) (Nat.le_refl _)⟩
theorem CopyV.put{W:World}{g:Nat}{nv:Value}{l':List InsS}{k:Nat}{c:CodeS}(h:CopyV w base GA gc (some ⟨g,0,none⟩) fc xs p)(hk:p.funcs[k]? =some c)(hb:Below w.heap.size w W)
  (hn:SliceAt (only W (fun b=>base≤b∧b≠g)) W.heap.size 6 (InsE (only W (fun b=>base≤b∧b≠g)) W.heap.size) l' nv):
  CopyV (W.setCell ⟨g,k*4+3,none⟩ nv) base GA gc (some ⟨g,0,none⟩) fc (xs.set (k*4+3) nv) ⟨p.globs,p.funcs.set k ⟨c.params,c.regs,c.locs,l'⟩,p.main⟩:=by
 have hkl:k<p.funcs.length:=(List.getElem?_eq_some_iff.1 hk).1;obtain⟨hg1,hg2⟩:=h.funcs.lt (g:=g) rfl;have h':=h.below hb;have hset:Wr (fun i=>i=g) W (W.setCell ⟨g,k*4+3,none⟩ nv):=Wr.setCell _ _ _ rfl;have hxl:xs.length=p.funcs.length*4:=h.funcs.own.1;have hsub:Sub (only W (fun b=>base≤b∧b≠g)) (only (W.setCell ⟨g,k*4+3,none⟩ nv) (fun b=>base≤b∧b≠g)):=only_mono fun b hb' hlt=>⟨hb',hset.block b hlt hb'.2⟩
 have hsub':Sub (only W (fun b=>base≤b∧¬(Value.slice (some ⟨g,0,none⟩) p.funcs.length fc).ownBlock=some b)) (only (W.setCell ⟨g,k*4+3,none⟩ nv) (fun b=>base≤b∧¬(Value.slice (some ⟨g,0,none⟩) p.funcs.length fc).ownBlock=some b)):=
  only_mono fun b hb' hlt=>⟨hb',hset.block b hlt (fun e=>hb'.2 (by rw[e];rfl))⟩
 refine⟨?_,⟨?_,fun i x hx=>?_⟩,h.main,Nat.le_trans h'.size hset.size⟩
 ·exact h'.globs.below (hset.below (B:=base) h'.size (fun i hi=>by omega)) (Nat.le_refl _) (fun _ _ h2=>h2.below (hset.below (B:=base) h'.size (fun i hi=>by omega)) (Nat.le_refl _))
 ·rcases h'.funcs.own.2 with⟨h1,_⟩|⟨g',cap,cur,hv,h1,h2,h3,h4,h5,h6⟩
  ·simp at h1
  ·injection hv with e1 _ e3;injection e1 with e1;injection e1 with e1;subst e1 e3;refine⟨by simp[hxl],Or.inr ⟨g,fc,cur.setIfInBounds (k*4+3) nv,by simp,h1,Row.set h2 _ _,by simpa using h3,h4,by simpa using h5,?_⟩⟩;rw[←h6];apply List.ext_getElem?;intro j;simp only[List.length_set,Array.toList_setIfInBounds,List.getElem?_take,List.getElem?_set];by_cases hj:j<p.funcs.length*4
   ·by_cases e:k*4+3=j
    ·subst e;have hc:k*4+3<cur.toList.length:=by
      have h3':p.funcs.length≤_:=h3;rw[Array.length_toList,h5];omega
     rw[if_pos rfl,if_pos hj,if_pos rfl,if_pos hc,if_pos (by rw[List.length_take];omega)]
    ·simp[hj,e]
   ·have:k*4+3≠j:=by omega
    simp[hj,this]
 ·have hx':(p.funcs.set k ⟨c.params,c.regs,c.locs,l'⟩)[i]? =some x:=hx;by_cases hik:k=i
  ·subst hik;rw[List.getElem?_set_self hkl]at hx';injection hx' with hx';subst hx';obtain⟨e0,e1,⟨v2,e2,s2⟩,_,e4,e5⟩:=h'.funcs.elems k c hk;have e0:xs[k*4+0]? =_:=e0;have e1:xs[k*4+1]? =_:=e1;have e2:xs[k*4+2]? =_:=e2;refine⟨?_,?_,⟨v2,?_,SliceAt.sub ObE.mono s2 (by rw[List.length_set];exact hsub') hset.size⟩,⟨nv,?_,?_⟩,e4,e5⟩
   ·show(xs.set (k*4+3) nv)[k*4+0]? =_;rw[List.getElem?_set_ne (by omega),e0]
   ·show(xs.set (k*4+3) nv)[k*4+1]? =_;rw[List.getElem?_set_ne (by omega),e1]
   ·show(xs.set (k*4+3) nv)[k*4+2]? =_;rw[List.getElem?_set_ne (by omega),e2]
   ·show(xs.set (k*4+3) nv)[k*4+3]? =_;rw[List.getElem?_set_self (by omega)]
   ·exact SliceAt.sub InsE.mono hn (hsub.trans (only_mono fun b hb' _=>⟨⟨hb'.1,fun e=>hb'.2 (by simp[Value.ownBlock]at e;exact e.symm)⟩,rfl⟩)) hset.size
  ·rw[List.getElem?_set_ne hik]at hx';refine CodeE.mono _ _ _ _ _ _ _ (by rw[List.length_set];exact hsub') hset.size (fun j v hj hv=>?_) (h'.funcs.elems i x hx');show(xs.set (k*4+3) nv)[i*4+j]? =_;rw[List.getElem?_set_ne (by omega)];exact hv
end
structure Part (p p':VirtS) (hss:List (List Int)) (k:Nat):Prop where
 globs:p'.globs=p.globs
 main:p'.main=p.main
 len:p'.funcs.length=p.funcs.length
 done:hss.length=k
 at':∀j c,p.funcs[j]? =some c→p'.funcs[j]? =some (if j<k then headed (hss.getD j []) c else c)
theorem Part.start(p:VirtS):Part p p [] 0:=⟨rfl,rfl,rfl,rfl,fun j c h=>by simpa using h⟩
theorem Part.next{p p':VirtS}{hss:List (List Int)}{k:Nat}(h:Part p p' hss k){c:CodeS}(hk:p.funcs[k]? =some c)(hs:List Int):
  Part p ⟨p'.globs,p'.funcs.set k ⟨c.params,c.regs,c.locs,hs.map headI++c.ins⟩,p'.main⟩ (hss++[hs]) (k+1):=by
 have hkl:k<p.funcs.length:=(List.getElem?_eq_some_iff.1 hk).1;refine⟨h.globs,h.main,by simp[h.len],by simp[h.done],fun j d hj=>?_⟩;show(p'.funcs.set k _)[j]? =_;by_cases e:k=j
 ·subst e;rw[List.getElem?_set_self (by rw[h.len];exact hkl),if_pos (by omega)];rw[hk]at hj;injection hj with hj;subst hj;have:(hss++[hs]).getD k []=hs:=by rw[List.getD_eq_getElem?_getD,List.getElem?_append_right (by rw[h.done];omega),h.done];simp
  rw[this];rfl
 ·rw[List.getElem?_set_ne e,h.at' j d hj];by_cases hjk:j<k
  ·rw[if_pos hjk,if_pos (by omega)];have:(hss++[hs]).getD j []=hss.getD j []:=by rw[List.getD_eq_getElem?_getD,List.getElem?_append_left (by rw[h.done];omega),List.getD_eq_getElem?_getD]
   rw[this]
  ·rw[if_neg hjk,if_neg (by omega)]
theorem Part.here{p p':VirtS}{hss:List (List Int)}{k:Nat}(h:Part p p' hss k){c:CodeS}(hk:p.funcs[k]? =some c):p'.funcs[k]? =some c:=by
 have:=h.at' k c hk
 rwa [if_neg (by omega)]at this
theorem Part.all{p p':VirtS}{hss:List (List Int)}(h:Part p p' hss p.funcs.length):p'=headedV hss p:=by
 obtain⟨g,f,m⟩:=p';have h1:=h.globs;have h2:=h.main;simp only at h1 h2;subst h1 h2;unfold headedV
 congr 1
 apply List.ext_getElem?;intro j;rcases Nat.lt_or_ge j p.funcs.length with hj|hj
 ·have e:p.funcs[j]? =some p.funcs[j]:=List.getElem?_eq_getElem hj;have h3:=h.at' j _ e;simp only at h3;have hj':j<hss.length:=by rw[h.done];exact hj
  rw[h3,if_pos hj,List.getElem?_zipWith,e,List.getElem?_eq_getElem hj',List.getD_eq_getElem?_getD,List.getElem?_eq_getElem hj'];rfl
 ·have h3:=h.len;simp only at h3;rw[List.getElem?_eq_none (by omega),List.getElem?_eq_none (by simp;omega)]
theorem live_in{c:CodeS}(hal:aloneB c=true){rows:List (List Int)}(h:IsLive c.ins rows){row:List Int}(hr:row∈rows):∀r,r∈row→0≤r∧r<c.regs:=by
 obtain⟨k,hk⟩:=List.mem_iff_getElem?.1 hr;obtain⟨h1,_⟩:=alone_all hal;have hr0:0≤c.regs:=by have:=h1.1;have:=h1.2.2.1;omega
 intro r hm;refine h.least (fun _ r=>0≤r∧r<c.regs) (fun k r hl=>?_) k r ⟨row,hk,hm⟩;obtain⟨x,hx,h2⟩:=hl;rcases h2 with h2|⟨_,n,_,h2⟩
 ·have:=(alone_regs hal (List.mem_of_getElem? hx)).1 r h2;exact⟨this.1,by omega⟩
 ·exact h2
theorem live_few{c:CodeS}(hal:aloneB c=true){rows:List (List Int)}(h:IsLive c.ins rows){row:List Int}(hr:row∈rows):row.length≤8000:=by
 obtain⟨h1,_⟩:=alone_all hal;have hr0:0≤c.regs:=by have:=h1.1;have:=h1.2.2.1;omega
 have:=(h.rise row hr).bound (R:=c.regs.toNat) (fun x hx=>by have:=live_in hal h hr x hx;omega);have:=h1.2.2.2.1;omega
def zeroL(c:CodeS)(row:List Int):List Int:=row.filter fun r=>decide (c.params≤r)
theorem zeroL_take{c:CodeS}{row:List Int}{j:Nat}{r:Int}(h:row[j]? =some r):zeroL c (row.take (j+1))=zeroL c (row.take j)++(if c.params≤r then [r]else []):=by
 unfold zeroL;rw[take_succ_of h,List.filter_append];by_cases hr:c.params≤r<;>simp[hr]
theorem zeroL_len{c:CodeS}{row:List Int}:(zeroL c row).length≤row.length:=List.length_filter_le _ _
def headC(hs:List Int):List Value:=hs.flatMap fun r=>[.int .i64 1,.int .i64 r,.int .i64 0,.int .i64 0,.int .i64 0,.slice none 0 0]
theorem headC_len(hs:List Int):(headC hs).length=hs.length*6:=by
 induction hs with
 |nil=>rfl
 |cons r hs ih=>unfold headC at ih ⊢;rw[List.flatMap_cons,List.length_append,ih];simp;omega
theorem headC_snoc(hs:List Int)(r:Int):headC (hs++[r])=headC hs++[.int .i64 1,.int .i64 r,.int .i64 0,.int .i64 0,.int .i64 0,.slice none 0 0]:=by unfold headC;simp
theorem headC_at{hs:List Int}{i:Nat}{r:Int}(h:hs[i]? =some r){j:Nat}(hj:j<6):(headC hs)[i*6+j]? =[Value.int .i64 1,.int .i64 r,.int .i64 0,.int .i64 0,.int .i64 0,.slice none 0 0][j]? :=by
 induction hs generalizing i with
 |nil=>simp at h
 |cons x hs ih=>
  have e:headC (x::hs)=[Value.int .i64 1,.int .i64 x,.int .i64 0,.int .i64 0,.int .i64 0,.slice none 0 0]++headC hs:=rfl;rw[e];cases i with
  |zero=>
   simp at h;subst h;rw[List.getElem?_append_left (by simp;omega),Nat.zero_mul,Nat.zero_add]
  |succ i=>
   rw[List.getElem?_append_right (by simp;omega)];have:(i+1)*6+j-[Value.int .i64 1,.int .i64 x,.int .i64 0,.int .i64 0,.int .i64 0,.slice none 0 0].length=i*6+j:=by simp;omega
   rw[this];exact ih (by simpa using h)
def cellsL(w:World)(b off n:Nat):List Value:=(List.range n).map fun j=>(w.cell? ⟨b,off+j,none⟩).getD undef
theorem ins_cells{w:World}{B b off n:Nat}{l:List InsS}(hn:l.length=n)(hx:∀i x,l[i]? =some x→InsE w B (fun j=>w.cell? ⟨b,off+i*6+j,none⟩) x):
  (cellsL w b off (n*6)).length=n*6∧(∀j u,(cellsL w b off (n*6))[j]? =some u→w.cell? ⟨b,off+j,none⟩=some u∧u.oneCell'=true)∧∀j,j<n*6→(cellsL w b off (n*6))[j]? =w.cell? ⟨b,off+j,none⟩:=by
 have key:∀j,j<n*6→∃u,w.cell? ⟨b,off+j,none⟩=some u∧u.oneCell'=true:=fun j hj=>by
  have hi:j/6<l.length:=by omega
  obtain⟨h0,h1,h2,h3,h4,⟨v,h5,⟨A,cap,hv,_⟩⟩,_⟩:=hx (j/6) l[j/6] (List.getElem?_eq_getElem hi);have e:off+j/6*6+j%6=off+j:=by omega
  have hm:j%6=0∨j%6=1∨j%6=2∨j%6=3∨j%6=4∨j%6=5:=by omega
  rcases hm with hm|hm|hm|hm|hm|hm<;>rw[hm]at e
  ·exact⟨_,by rw[←e];exact h0,rfl⟩
  ·exact⟨_,by rw[←e];exact h1,rfl⟩
  ·exact⟨_,by rw[←e];exact h2,rfl⟩
  ·exact⟨_,by rw[←e];exact h3,rfl⟩
  ·exact⟨_,by rw[←e];exact h4,rfl⟩
  ·exact⟨_,by rw[←e];exact h5,by rw[hv];rfl⟩
 have at':∀j,j<n*6→(cellsL w b off (n*6))[j]? =w.cell? ⟨b,off+j,none⟩:=fun j hj=>by
  obtain⟨u,hu,_⟩:=key j hj;unfold cellsL;simp[hj,hu]
 refine⟨by simp[cellsL],fun j u hu=>?_,at'⟩;have hj:j<n*6:=by have:=(List.getElem?_eq_some_iff.1 hu).1;simpa [cellsL]using this
 obtain⟨u',h1,h2⟩:=key j hj;rw[at' j hj,h1]at hu;injection hu with hu;subst hu;exact⟨h1,h2⟩
theorem headed_slice{w0 W:World}{base g b2 g2 b off cap:Nat}{hs:List Int}{l:List InsS}(hall:∀r,r∈hs→In64 r)(hb:Below w0.heap.size w0 W)(hb2:w0.heap.size≤b2)(hbase:base≤w0.heap.size)(hg:g<w0.heap.size)(hlen:hs.length+l.length≤9223372036854775807)
  (hx:∀i x,l[i]? =some x→InsE (only w0 (fun b=>base≤b∧b≠g)) w0.heap.size (fun j=>(only w0 (fun b=>base≤b∧b≠g)).cell? ⟨b,off+i*6+j,none⟩) x)
  {news:List Value}(hnews:∀j,j<l.length*6→news[j]? =w0.cell? ⟨b,off+j,none⟩)
  (hown:W.ownsRow b2 43 6 (.slice (some ⟨g2,0,none⟩) (hs.length+l.length) cap) (hs.length+l.length) (headC hs++news)):
  SliceAt (only W (fun b=>base≤b∧b≠g)) W.heap.size 6 (InsE (only W (fun b=>base≤b∧b≠g)) W.heap.size) (hs.map headI++l) (.slice (some ⟨g2,0,none⟩) (hs.length+l.length) cap):=by
 obtain⟨hg2,cs,hrow⟩:=ownsRow_row hown (g:=g2) rfl;have hg2l:g2<W.heap.size:=hrow.lt;refine⟨some ⟨g2,0,none⟩,cap,by simp,by simpa using hlen,fun _=>⟨g2,0,rfl,hg2l,fun i x hi=>?_⟩⟩;have hcell:∀j,j<(hs.length+l.length)*6→(only W (fun b=>base≤b∧b≠g)).cell? ⟨g2,0+j,none⟩=(headC hs++news)[j]? :=fun j hj=>by
  rw[Nat.zero_add,World.cell?_of_block (a:=⟨g2,j,none⟩) (only_in (k:=g2) (S:=fun b=>base≤b∧b≠g) ⟨by omega,by omega⟩)];exact World.ownsRow.cellAt hown j hj
 have hil:i<hs.length+l.length:=by have:=(List.getElem?_eq_some_iff.1 hi).1;simpa using this
 have hc:∀j,j<6→(only W (fun b=>base≤b∧b≠g)).cell? ⟨g2,0+i*6+j,none⟩=(headC hs++news)[i*6+j]? :=fun j hj=>by
  rw[Nat.add_assoc];exact hcell _ (by omega)
 rcases Nat.lt_or_ge i hs.length with hlt|hge
 ·rw[List.getElem?_append_left (by simpa using hlt),List.getElem?_map]at hi;obtain⟨r,hr⟩:∃r,hs[i]? =some r:=⟨_,List.getElem?_eq_getElem hlt⟩
  rw[hr]at hi;simp only[Option.map_some,Option.some.injEq]at hi;subst hi;have hh:∀j,j<6→(headC hs++news)[i*6+j]? =[Value.int .i64 1,.int .i64 r,.int .i64 0,.int .i64 0,.int .i64 0,.slice none 0 0][j]? :=fun j hj=>by
   rw[List.getElem?_append_left (by rw[headC_len];omega),headC_at hr hj]
  refine⟨(hc 0 (by omega)).trans (hh 0 (by omega)),(hc 1 (by omega)).trans (hh 1 (by omega)),(hc 2 (by omega)).trans (hh 2 (by omega)),(hc 3 (by omega)).trans (hh 3 (by omega)),(hc 4 (by omega)).trans (hh 4 (by omega)),⟨_,(hc 5 (by omega)).trans (hh 5 (by omega)),none,0,rfl,by simp[headI],fun hp=>by simp[headI]at hp⟩,?_,hall r (List.mem_of_getElem? hr),?_,?_,?_⟩<;>(unfold headI In64;simp)
 ·rw[List.getElem?_append_right (by simpa using hge)]at hi;simp only[List.length_map]at hi;have hi2:i-hs.length<l.length:=by omega
  refine InsE.mono _ _ _ _ _ _ _ (only_mono fun k hk hlt=>⟨hk,hb.block k hlt⟩) hb.size (fun j v hj hv=>?_) (hx _ x hi);have hv:=(only_cell hv).2.2;show(only W _).cell? ⟨g2,0+i*6+j,none⟩=some v;rw[hc j hj,List.getElem?_append_right (by rw[headC_len];omega),headC_len];have e:i*6+j-hs.length*6=(i-hs.length)*6+j:=by omega
  rw[e,hnews _ (by omega),←hv]
  congr 2
  omega
end Go.Proofs.YtlenilbkifofjaaGreatDoor
namespace Go.Proofs.YtlenilbkifofjaaGreatDoor
open Go.RowKit
theorem counts_ofZ{p:ProgS}(h:ProgOkG p):Counts p:=by
 intro fn;rw[List.getD_eq_getElem?_getD];cases hf:p.funcs[fn.toNat]? with
 |none=>simp[noGraph,countsF]
 |some g=>
  have:=(countsF_bd (fun o ho=>((h.fns g (List.mem_of_getElem? hf)).obs o ho).1)).1;simp only[Option.getD_some];omega
theorem run_bound{p:ProgS}(hp:Counts p)(inp:List Int){f:Int}(h0:0≤f):0≤(runF p inp f).steps∧(runF p inp f).steps≤f:=by
 have h:=callF_mono hp f 64 p.main [] (startS p inp) (by show(0:Int)≤f;exact h0);rw[runF_eq];cases hr:callF p f 64 p.main [] (startS p inp)with
 |mk o s=>
  rw[hr]at h;have h1:(0:Int)≤s.steps:=h.2.1;have h2:s.steps≤f:=h.2.2;cases o with
  |none=>
   rw[endF_none];split
   ·exact⟨Int.le_refl _,h0⟩
   ·exact⟨h1,h2⟩
  |some v=>
   rw[endF_some];split
   ·exact⟨Int.le_refl _,h0⟩
   ·exact⟨h1,h2⟩
noncomputable def cstZ(xb g k fn fc ib io m ic:Nat)(hv:Value):Nat→Value
 |0=> .pointer (some ⟨xb,1,none⟩)
 |1=> .slice (some ⟨g,0,none⟩) fn fc
 |2=> .int .i64 (k:Nat)
 |3=>hv
 |4=> .pointer (some ⟨xb,1,none⟩)
 |5=> .slice (some ⟨g,0,none⟩) fn fc
 |6=> .int .i64 (k:Nat)
 |7=> .pointer (some ⟨g,k*4,none⟩)
 |8=> .pointer (some ⟨g,k*4+3,none⟩)
 |9=> .slice (some ⟨ib,io,none⟩) m ic
 |_=>undef
def FinZ(w:World)(b2 hn m:Nat)(cells:List Value)(W:World)(v:Value):Prop:=∃q cap,v= .slice (some ⟨q,0,none⟩) (hn+m) cap∧W.ownsRow b2 43 6 v (hn+m) cells∧Below b2 w W
noncomputable def lzBR:Code:=(regsOf (Tryz.f3.body.getD .skip)).getD 21 .skip
theorem lzB_region(xb g k gn gc fn fc ib io m ic hn b2:Nat)(GA:Option Addr)(mn:Int)(hv:Value)(ys news:List Value)(w:World)(hbox:Row w xb #[.slice GA gn gc,.slice (some ⟨g,0,none⟩) fn fc,.int .i64 mn] 30)(hk:k<fn)(hc:w.cell? ⟨g,k*4+3,none⟩=some (.slice (some ⟨ib,io,none⟩) m ic))(hfz:w.frozen? ⟨g,k*4+3,none⟩=false)(hgl:g<w.heap.size)(hm:0<m)
  (hnl:news.length=m*6)(hnews:∀j u,news[j]? =some u→w.cell? ⟨ib,io+j,none⟩=some u∧u.oneCell'=true)(hown:w.ownsRow b2 43 6 hv hn ys)(hb2:b2≤w.heap.size)(hlt:xb<b2∧g<b2)(hib:ib<b2)(hnm:hn≤8000∧m≤8000)
  (c0 c1 c2 c3 c4 c6 c8 c9 c11 c12 c13 c14 c15 c16 c17 c18 c19 c20 c21 c22 c23 c24 c25 c26 c27 c28 c29 c30 c31 c32 c33 c34 c35 c36 c37 c38 c39 c40 c41 c42 c43 c44 c45 c46 c47 c48 c49 c50 c51 c52 c53 c54 c55 c56 c57 c58 c59 c60 c61 c62 c63 c64 c65 c66 c67 c68 c69 c70 c71 c72 c73 c74 c75 c76 c77 c78 c79 c80 c81 c82 c83 c84 c85 c86 c87 c88 c89 c90 c91 c92 c93 c94 c95 c96 c97 c98 c99 c100 c101 c102 c103 c104 c105 c106 c107 c108 c109 c110 c111 c112 c113 c114 c115 c116 c117 c118 c119 c120 c121 c122 c123 c124 c125 c126 c127 c128 c129 c130 c131 c132 c133 c134 c135 c136 c137 c138 c139 c140 c141 c142 c143 c144 c145 c146 c147 c148 c149 c150 c151 c152 c153 c154 c155 c156 c157 c158 c159 c160 c161:Value)(Q:Exit→Act→World→Prop)
  (hexit:∀(W:World)(q cap:Nat)(y0 y1 y2 y3 y4 y5 y6 y7 y8 y9 y10 y11 y12:Value),W.ownsRow b2 43 6 (.slice (some ⟨q,0,none⟩) (hn+m) cap) (hn+m) (ys++news)→Below b2 w W→Q .normal ⟨List.toArray (c0::c1::c2::c3::c4::(Value.pointer (some ⟨xb,0,none⟩))::c6::(Value.int .i64 (k:Nat))::c8::c9::hv::c11::c12::c13::c14::c15::c16::c17::c18::c19::c20::c21::c22::c23::c24::c25::c26::c27::c28::c29::c30::c31::c32::c33::c34::c35::c36::c37::c38::c39::c40::c41::c42::c43::c44::c45::c46::c47::c48::c49::c50::c51::c52::c53::c54::c55::c56::c57::c58::c59::c60::c61::c62::c63::c64::c65::c66::c67::c68::c69::c70::c71::c72::c73::c74::c75::c76::c77::c78::c79::c80::c81::c82::c83::c84::c85::c86::c87::c88::c89::c90::c91::c92::c93::c94::c95::c96::c97::c98::c99::c100::c101::c102::c103::y0::y1::y2::y3::y4::y5::y6::y7::y8::y9::y10::y11::y12::c117::c118::c119::c120::c121::c122::c123::c124::c125::c126::c127::c128::c129::c130::c131::c132::c133::c134::c135::c136::c137::c138::c139::c140::c141::c142::c143::c144::c145::c146::c147::c148::c149::c150::c151::c152::c153::c154::c155::c156::c157::c158::c159::c160::c161::[]),[]⟩ (W.setCell ⟨g,k*4+3,none⟩ (.slice (some ⟨q,0,none⟩) (hn+m) cap))):
  Code.wp Tryz.prog lzBR Q ⟨List.toArray (c0::c1::c2::c3::c4::(Value.pointer (some ⟨xb,0,none⟩))::c6::(Value.int .i64 (k:Nat))::c8::c9::hv::c11::c12::c13::c14::c15::c16::c17::c18::c19::c20::c21::c22::c23::c24::c25::c26::c27::c28::c29::c30::c31::c32::c33::c34::c35::c36::c37::c38::c39::c40::c41::c42::c43::c44::c45::c46::c47::c48::c49::c50::c51::c52::c53::c54::c55::c56::c57::c58::c59::c60::c61::c62::c63::c64::c65::c66::c67::c68::c69::c70::c71::c72::c73::c74::c75::c76::c77::c78::c79::c80::c81::c82::c83::c84::c85::c86::c87::c88::c89::c90::c91::c92::c93::c94::c95::c96::c97::c98::c99::c100::c101::c102::c103::c104::c105::c106::c107::c108::c109::c110::c111::c112::c113::c114::c115::c116::c117::c118::c119::c120::c121::c122::c123::c124::c125::c126::c127::c128::c129::c130::c131::c132::c133::c134::c135::c136::c137::c138::c139::c140::c141::c142::c143::c144::c145::c146::c147::c148::c149::c150::c151::c152::c153::c154::c155::c156::c157::c158::c159::c160::c161::[]),[]⟩ w:=by
 obtain⟨i0,hi,hz0,hz1,hz2⟩:=info_parts cins_info;have HBOX:=Lib.hid hbox;have HK:=Lib.hid hk;have HC:=Lib.hid hc;have HFZ:=Lib.hid hfz;have HGL:=Lib.hid hgl;have HM:=Lib.hid hm;have HNL:=Lib.hid hnl;have HNEWS:=Lib.hid hnews;have HOWN:=Lib.hid hown;have HB2:=Lib.hid hb2;have HLT:=Lib.hid hlt;have HIB:=Lib.hid hib;have HNM:=Lib.hid hnm;have HEX:=Lib.hid hexit;clear hbox hk hc hfz hgl hm hnl hnews hown hb2 hlt hib hnm hexit
 conv=>arg 2;whnf
 refine region_one 11 10 (by decide) (by kernel_rfl) (by kernel_rfl) (cstZ xb g k fn fc ib io m ic hv) (FinZ w b2 hn m (ys++news)) (fun Y=>⟨List.toArray (c0::c1::c2::c3::c4::(Value.pointer (some ⟨xb,0,none⟩))::c6::(Value.int .i64 (k:Nat))::c8::c9::hv::c11::c12::c13::c14::c15::c16::c17::c18::c19::c20::c21::c22::c23::c24::c25::c26::c27::c28::c29::c30::c31::c32::c33::c34::c35::c36::c37::c38::c39::c40::c41::c42::c43::c44::c45::c46::c47::c48::c49::c50::c51::c52::c53::c54::c55::c56::c57::c58::c59::c60::c61::c62::c63::c64::c65::c66::c67::c68::c69::c70::c71::c72::c73::c74::c75::c76::c77::c78::c79::c80::c81::c82::c83::c84::c85::c86::c87::c88::c89::c90::c91::c92::c93::c94::c95::c96::c97::c98::c99::c100::c101::c102::c103::Y 0::Y 1::Y 2::Y 3::Y 4::Y 5::Y 6::Y 7::Y 8::Y 9::Y 10::c115::c116::c117::c118::c119::c120::c121::c122::c123::c124::c125::c126::c127::c128::c129::c130::c131::c132::c133::c134::c135::c136::c137::c138::c139::c140::c141::c142::c143::c144::c145::c146::c147::c148::c149::c150::c151::c152::c153::c154::c155::c156::c157::c158::c159::c160::c161::[]),[]⟩) (fun i=>#[c104,c105,c106,c107,c108,c109,c110,c111,c112,c113,c114].getD i undef) rfl ?_ ?_ ?_
 ·intro i o Y W hin him ho hW hall K hK;have HW:=Lib.hid (show Below b2 w W from by
   rcases hW with rfl|⟨v,q,cap,_,_,h⟩
   ·exact(Below.refl _ _).drew
   ·exact h)
  clear hW;rcases i with _|_|_|_|_|_|_|_|_|_|_|i
  ·simp at ho;subst ho;clear hall;refine wpOp_plain rfl rfl (fun K' hK'=>?_);go_simp;have hh:=hK' _ _ hK;simpa [upd,cstZ]using hh
  ·simp at ho;subst ho;have e0:Y 0= .pointer (some ⟨xb,1,none⟩):=hall {on:=0,ground:=Ground.data} (by simp) rfl (by decide);have q0:=cell_below (HBOX.out.cell (j:=0) rfl) HW.out HLT.out.1;have q1:=cell_below (HBOX.out.cell (j:=1) rfl) HW.out HLT.out.1;have q2:=cell_below (HBOX.out.cell (j:=2) rfl) HW.out HLT.out.1;have ql:=Nat.lt_of_lt_of_le HBOX.out.lt HW.out.size;clear hall;refine wpOp_plain rfl rfl (fun K' hK'=>?_);go_simp;have hh:=hK' _ _ hK;simpa [upd,cstZ,e0]using hh
  ·simp at ho;subst ho;clear hall;refine wpOp_plain rfl rfl (fun K' hK'=>?_);go_simp;have hh:=hK' _ _ hK;simpa [upd,cstZ]using hh
  ·simp at ho;subst ho;clear hall;refine wpOp_plain rfl rfl (fun K' hK'=>?_);go_simp;have hh:=hK' _ _ hK;simpa [upd,cstZ]using hh
  ·simp at ho;subst ho;clear hall;refine wpOp_plain rfl rfl (fun K' hK'=>?_);go_simp;have hh:=hK' _ _ hK;simpa [upd,cstZ]using hh
  ·simp at ho;subst ho;have e4:Y 4= .pointer (some ⟨xb,1,none⟩):=hall {on:=4,ground:=Ground.data} (by simp) rfl (by decide);have q0:=cell_below (HBOX.out.cell (j:=0) rfl) HW.out HLT.out.1;have q1:=cell_below (HBOX.out.cell (j:=1) rfl) HW.out HLT.out.1;have q2:=cell_below (HBOX.out.cell (j:=2) rfl) HW.out HLT.out.1;have ql:=Nat.lt_of_lt_of_le HBOX.out.lt HW.out.size;clear hall;refine wpOp_plain rfl rfl (fun K' hK'=>?_);go_simp;have hh:=hK' _ _ hK;simpa [upd,cstZ,e4]using hh
  ·simp at ho;subst ho;clear hall;refine wpOp_plain rfl rfl (fun K' hK'=>?_);go_simp;have hh:=hK' _ _ hK;simpa [upd,cstZ]using hh
  ·simp at ho;subst ho;have e5:Y 5= .slice (some ⟨g,0,none⟩) fn fc:=hall {on:=5,ground:=Ground.data} (by simp) rfl (by decide);have e6:Y 6= .int .i64 (k:Nat):=hall {on:=6,ground:=Ground.data} (by simp) rfl (by decide);have hk0:(0:Int)≤(k:Int):=by omega
   have hk1:(k:Int)<(fn:Int):=by have:=HK.out;omega
   clear hall;refine wpOp_plain rfl rfl (fun K' hK'=>?_);go_simp;have hh:=hK' _ _ hK;simpa [upd,cstZ,e5,e6]using hh
  ·simp at ho;subst ho;have e7:Y 7= .pointer (some ⟨g,k*4,none⟩):=hall {on:=7,ground:=Ground.data} (by simp) rfl (by decide);clear hall;refine wpOp_plain rfl rfl (fun K' hK'=>?_);go_simp;have hh:=hK' _ _ hK;simpa [upd,cstZ,e7]using hh
  ·simp at ho;subst ho;have e8:Y 8= .pointer (some ⟨g,k*4+3,none⟩):=hall {on:=8,ground:=Ground.data} (by simp) rfl (by decide);have q3:=cell_below HC.out HW.out HLT.out.2;have ql:=Nat.lt_of_lt_of_le HGL.out HW.out.size;clear hall;refine wpOp_plain rfl rfl (fun K' hK'=>?_);go_simp;have hh:=hK' _ _ hK;simpa [upd,cstZ,e8]using hh
  ·exact(him rfl).elim
  ·omega
 ·intro o Y ho hall K hK;simp at ho;subst ho;have e3:Y 3=hv:=hall {on:=3,ground:=Ground.data} (by simp) rfl;have e9:Y 9= .slice (some ⟨ib,io,none⟩) m ic:=hall {on:=9,ground:=Ground.data} (by simp) rfl;clear hall;refine wpOp_plain rfl rfl (fun K' hK'=>?_);refine wp_append_lies _ (.tmp 107) (.tmp 113) 37 rfl b2 43 i0 (.agg #[.int .i64 0,.int .i64 0,.int .i64 0,.int .i64 0,.int .i64 0,.slice none 0 0]) 6 64 Tryz.underlying37 hi hz0 hz1 hz2 rfl (by decide) hv hn ys (by simpa [go_sem]using e3) (HOWN.out.drew) ⟨ib,io,none⟩ m ic news (by simpa [go_sem]using e9) HNL.out (fun j u hu=>by rw[Go.WideShapes.add_plain];exact(HNEWS.out j u hu).1) (fun u hu=>by obtain⟨j,hj⟩:=List.mem_iff_getElem?.1 hu;exact(HNEWS.out j u hj).2) HM.out (by have:=HNM.out;unfold maxLen;omega) (by have:=HNM.out;omega) HB2.out w.heap.size rfl ?_
  intro q cap W hown hgrow hat hlt;have hb:Below b2 w W:=((Below.refl _ _).drew).grown hgrow HB2.out (fun q' hq=>(ownsRow_row HOWN.out hq).1);have hh:=hK' _ _ (hK _ W ⟨q,cap,rfl,hown,hb⟩);go_simp;simpa [upd,e3,e9]using hh
 ·intro Y W hf hcs;obtain⟨q,cap,e10,hown,hb⟩:=hf;have e1:Y 1= .slice (some ⟨g,0,none⟩) fn fc:=hcs 1 (by decide) (by decide);have e2:Y 2= .int .i64 (k:Nat):=hcs 2 (by decide) (by decide);rw[e10]at hown;clear hcs;have hk0:(0:Int)≤(k:Int):=by omega
  have hk1:(k:Int)<(fn:Int):=by have:=HK.out;omega
  have ql:g<W.heap.size:=Nat.lt_of_lt_of_le HGL.out hb.size;have q3:=cell_below HC.out hb HLT.out.2;have qf:W.frozen? ⟨g,k*4+3,none⟩=false:=by
   rw[frozen_of_heap (a:=⟨g,k*4+3,none⟩) (hb.block g HLT.out.2)];exact HFZ.out
  refine wpList_plain rfl (fun K hK=>?_);go_simp
  try simp only[e1,e2]
  refine hK _ _ ?_;refine wpList_plain rfl (fun K hK=>?_);go_simp;refine hK _ _ ?_;refine wpList_plain rfl (fun K hK=>?_);go_simp
  try simp only[e10]
  have hh:=HEX.out W q cap (Y 0) (Y 1) (Y 2) (Y 3) (Y 4) (Y 5) (Y 6) (Y 7) (Y 8) (Y 9) (Y 10) (.pointer (some ⟨g,k*4,none⟩)) (.pointer (some ⟨g,k*4+3,none⟩)) hown hb
  try simp only[e1,e2,e10]at hh
  exact hK _ _ hh
theorem ints_info:(Tryz.prog.info? 41).map (fun i=>(i.zero,i.size,i.bytes))=some (some (.slice none 0 0),1,24):=by kernel_rfl
def rrlC(mb vb gb goff nf fcap k:Nat)(lv cv:Value)(l:List InsS)(N:Nat)(W:World):Nat→Value→Prop
 |0,v|1,v|2,v=>v= .pointer (some ⟨mb,0,none⟩)
 |3,v=>v= .pointer (some ⟨mb,3,none⟩)
 |4,v=>v=lv
 |5,v=>v= .pointer (some ⟨vb,1,none⟩)
 |6,v=>v= .slice (some ⟨gb,goff,none⟩) nf fcap
 |7,v=>v= .int .i64 (k:Nat)
 |8,v=>v= .pointer (some ⟨gb,goff+k*4,none⟩)
 |9,v=>v=cv
 |10,v=>∃lb,v= .slice (some ⟨lb,0,none⟩) 8000 8000∧IntsAt W lb 8000 (labK l l.length)∧N≤lb
 |11,v=>∃nb lb,v= .slice (some ⟨nb,0,none⟩) 1 1∧Row W nb #[.slice (some ⟨lb,0,none⟩) 8000 8000] 41∧IntsAt W lb 8000 (labK l l.length)∧N≤lb
 |_,_=>True
def rrlF(base N:Nat)(lv:Value)(k:Nat)(xs:List Value)(l:List InsS)(w W':World)(v:Value):Prop:=
 ∃W g cap lb,v= .slice (some ⟨g,0,none⟩) (k+1) cap∧Below w.heap.size w W∧IntsAt W lb 8000 (labK l l.length)∧N≤lb∧W'.ownsRow base 41 1 v (k+1) (xs++[.slice (some ⟨lb,0,none⟩) 8000 8000])∧W.grownBy W' lv.ownBlock∧(lv.ownBlock=some g∨g=W.heap.size)
noncomputable def rrlR:Code:=(regsOf (Tryz.f9.body.getD .skip)).getD 4 .skip
theorem rrl_region(mb vb base gb goff nf fcap:Nat)(cs:Array Value)(q0 q2:Value)(c:CodeS)(LA:Option Addr)(lc:Nat)(BA:Option Addr)(bc:Nat)(ln:Option Addr)(k lcap:Nat)(xs:List Value)(w:World)
  (hrow:Row w mb cs 64)(h3:cs[3]? =some (.slice ln k lcap))(hbox:Row w vb #[q0,.slice (some ⟨gb,goff,none⟩) nf fcap,q2] 30)(hgb:gb<w.heap.size)(hkn:k<nf)
  (g0:w.cell? ⟨gb,goff+k*4,none⟩=some (.int .i64 c.params))(g1:w.cell? ⟨gb,goff+k*4+1,none⟩=some (.int .i64 c.regs))(g2:w.cell? ⟨gb,goff+k*4+2,none⟩=some (.slice LA c.locs.length lc))(g3:w.cell? ⟨gb,goff+k*4+3,none⟩=some (.slice BA c.ins.length bc))
  (hown:w.ownsRow base 41 1 (.slice ln k lcap) k xs)(hbase:base≤w.heap.size)(hk:k≤100)
  (hlab:∀W,Below w.heap.size w W→Calls Tryz.prog 22 #[.agg #[.int .i64 c.params,.int .i64 c.regs,.slice LA c.locs.length lc,.slice BA c.ins.length bc]] W fun e w'=>RLabSays c.ins W e w')
  (c0 c1 c2 c4 c5 c6 c9 c10 c11 c12 c13 c14 c15 c16 c17 c18 c19 c20 c21 c22 c23 c24 c25 c26 c27 c28 c29 c30 c31 c32 c33 c34 c35 c36 c37 c38 c39 c40 c41 c42 c43 c44 c45 c46 c47 c48 c49 c50 c51 c52 c53 c54 c55 c56 c57 c58 c59 c60 c61 c62 c63 c64 c65 c66 c67 c68 c69 c70 c71 c72 c73 c74 c75 c76 c77 c78 c79 c80 c81 c82 c83 c84 c85 c86 c87 c88 c89 c90:Value)(Q:Exit→Act→World→Prop)
  (hexit:∀(W W':World)(g cap lb:Nat)(Y:Nat→Value),Below w.heap.size w W→IntsAt W lb 8000 (labK c.ins c.ins.length)→w.heap.size≤lb→W'.ownsRow base 41 1 (.slice (some ⟨g,0,none⟩) (k+1) cap) (k+1) (xs++[.slice (some ⟨lb,0,none⟩) 8000 8000])→W.grownBy W' ((Value.slice ln k lcap).ownBlock)→((Value.slice ln k lcap).ownBlock=some g∨g=W.heap.size)→
   Q .normal ⟨List.toArray (c0::c1::c2::(Value.pointer (some ⟨vb,0,none⟩))::c4::c5::c6::(Value.pointer (some ⟨mb,0,none⟩))::(Value.int .i64 (k:Nat))::c9::c10::c11::c12::c13::c14::c15::c16::c17::c18::c19::c20::c21::c22::c23::Y 0::Y 1::Y 2::Y 3::Y 4::Y 5::Y 6::Y 7::Y 8::Y 9::Y 10::Y 11::Y 12::Y 13::Y 14::c39::c40::c41::c42::c43::c44::c45::c46::c47::c48::c49::c50::c51::c52::c53::c54::c55::c56::c57::c58::c59::c60::c61::c62::c63::c64::c65::c66::c67::c68::c69::c70::c71::c72::c73::c74::c75::c76::c77::c78::c79::c80::c81::c82::c83::c84::c85::c86::c87::c88::c89::c90::[]),[]⟩ (W'.setCell ⟨mb,3,none⟩ (.slice (some ⟨g,0,none⟩) (k+1) cap))):
  Code.wp Tryz.prog rrlR Q ⟨List.toArray (c0::c1::c2::(Value.pointer (some ⟨vb,0,none⟩))::c4::c5::c6::(Value.pointer (some ⟨mb,0,none⟩))::(Value.int .i64 (k:Nat))::c9::c10::c11::c12::c13::c14::c15::c16::c17::c18::c19::c20::c21::c22::c23::c24::c25::c26::c27::c28::c29::c30::c31::c32::c33::c34::c35::c36::c37::c38::c39::c40::c41::c42::c43::c44::c45::c46::c47::c48::c49::c50::c51::c52::c53::c54::c55::c56::c57::c58::c59::c60::c61::c62::c63::c64::c65::c66::c67::c68::c69::c70::c71::c72::c73::c74::c75::c76::c77::c78::c79::c80::c81::c82::c83::c84::c85::c86::c87::c88::c89::c90::[]),[]⟩ w:=by
 obtain⟨i0,hi,hz0,hz1,hz2⟩:=info_parts ints_info;have hkn0:(0:Int)≤(k:Int):=by omega
 have hkn1:(k:Int)<(nf:Int):=by omega
 have HROW:=Lib.hid hrow;have HBOX:=Lib.hid hbox;have HOWN:=Lib.hid hown;have HLAB:=Lib.hid hlab;have HEX:=Lib.hid hexit;have H3:=Lib.hid h3;have HG0:=Lib.hid g0;have HG1:=Lib.hid g1;have HG2:=Lib.hid g2;have HG3:=Lib.hid g3;clear hrow hbox hown hlab hexit h3 g0 g1 g2 g3
 conv=>arg 2;whnf
 refine region_cw_tail 12 (fun i=>decide (i=0)) (by kernel_rfl) (by kernel_rfl) (by kernel_rfl) (rrlC mb vb gb goff nf fcap k (.slice ln k lcap) (.agg #[.int .i64 c.params,.int .i64 c.regs,.slice LA c.locs.length lc,.slice BA c.ins.length bc]) c.ins w.heap.size) (rrlF base w.heap.size (.slice ln k lcap) k xs c.ins w) (fun Y=>⟨List.toArray (c0::c1::c2::(Value.pointer (some ⟨vb,0,none⟩))::c4::c5::c6::(Value.pointer (some ⟨mb,0,none⟩))::(Value.int .i64 (k:Nat))::c9::c10::c11::c12::c13::c14::c15::c16::c17::c18::c19::c20::c21::c22::c23::Y 0::Y 1::Y 2::Y 3::Y 4::Y 5::Y 6::Y 7::Y 8::Y 9::Y 10::Y 11::Y 12::c37::c38::c39::c40::c41::c42::c43::c44::c45::c46::c47::c48::c49::c50::c51::c52::c53::c54::c55::c56::c57::c58::c59::c60::c61::c62::c63::c64::c65::c66::c67::c68::c69::c70::c71::c72::c73::c74::c75::c76::c77::c78::c79::c80::c81::c82::c83::c84::c85::c86::c87::c88::c89::c90::[]),[]⟩) (fun i=>if i=0 then c24 else if i=1 then c25 else if i=2 then c26 else if i=3 then c27 else if i=4 then c28 else if i=5 then c29 else if i=6 then c30 else if i=7 then c31 else if i=8 then c32 else if i=9 then c33 else if i=10 then c34 else if i=11 then c35 else if i=12 then c36 else undef) rfl ?_ ?_ ?_ ?_ ?_
 ·intro W W' i v hb h;rcases i with _|_|_|_|_|_|_|_|_|_|_|_|i
  iterate 10 (·exact h)
  ·obtain⟨lb,h1,⟨cs',h2,h2'⟩,h3⟩:=h;exact⟨lb,h1,⟨cs',h2.below hb h2.lt,h2'⟩,h3⟩
  ·obtain⟨nb,lb,h1,h2,⟨cs',h3,h3'⟩,h4⟩:=h;exact⟨nb,lb,h1,h2.below hb h2.lt,⟨cs',h3.below hb h3.lt,h3'⟩,h4⟩
  ·trivial
 ·intro i o' Y W hin hnl ho hb hall K hK;have HW:=Lib.hid hb;clear hb;rcases i with _|_|_|_|_|_|_|_|_|_|_|_|i
  ·simp at hnl
  ·simp at ho;subst ho;clear hall;refine wpOp_plain rfl rfl (fun K' hK'=>?_);go_simp;have hh:=hK' _ _ (hK _ _ (Below.refl _ _) rfl);simpa [upd]using hh
  ·simp at ho;subst ho;have d1:Y 1=_:=hall {on:=1,ground:=Ground.data} (by simp) rfl;have rl:=HROW.out.lt;clear hall;refine wpOp_plain rfl rfl (fun K' hK'=>?_);go_simp;have hh:=hK' _ _ (hK _ _ (Below.refl _ _) rfl);simpa [upd,d1]using hh
  ·simp at ho;subst ho;have d2:Y 2=_:=hall {on:=2,ground:=Ground.data} (by simp) rfl;clear hall;refine wpOp_plain rfl rfl (fun K' hK'=>?_);go_simp;have hh:=hK' _ _ (hK _ _ (Below.refl _ _) rfl);simpa [upd,d2]using hh
  ·simp at ho;subst ho;have d3:Y 3=_:=hall {on:=3,ground:=Ground.data} (by simp) rfl;have q6:=cell_below (HROW.out.cell H3.out) HW.out HROW.out.lt;clear hall;refine wpOp_plain rfl rfl (fun K' hK'=>?_);go_simp;have hh:=hK' _ _ (hK _ _ (Below.refl _ _) rfl);simpa [upd,d3]using hh
  ·simp at ho;subst ho;clear hall;refine wpOp_plain rfl rfl (fun K' hK'=>?_);go_simp;have hh:=hK' _ _ (hK _ _ (Below.refl _ _) rfl);simpa [upd]using hh
  ·simp at ho;subst ho;have d5:Y 5=_:=hall {on:=5,ground:=Ground.data} (by simp) rfl;have q1:=cell_below (HBOX.out.cell (j:=1) rfl) HW.out HBOX.out.lt;clear hall;refine wpOp_plain rfl rfl (fun K' hK'=>?_);go_simp;have hh:=hK' _ _ (hK _ _ (Below.refl _ _) rfl);simpa [upd,d5]using hh
  ·simp at ho;subst ho;clear hall;refine wpOp_plain rfl rfl (fun K' hK'=>?_);go_simp;have hh:=hK' _ _ (hK _ _ (Below.refl _ _) rfl);simpa [upd]using hh
  ·simp at ho;subst ho;have d6:Y 6=_:=hall {on:=6,ground:=Ground.data} (by simp) rfl;have d7:Y 7=_:=hall {on:=7,ground:=Ground.data} (by simp) rfl;clear hall;refine wpOp_plain rfl rfl (fun K' hK'=>?_);go_simp;have hh:=hK' _ _ (hK _ _ (Below.refl _ _) rfl);simpa [upd,d6,d7]using hh
  ·simp at ho;subst ho;have d8:Y 8=_:=hall {on:=8,ground:=Ground.data} (by simp) rfl;have x0:=cell_below HG0.out HW.out hgb;have x1:=cell_below HG1.out HW.out hgb;have x2:=cell_below HG2.out HW.out hgb;have x3:=cell_below HG3.out HW.out hgb;have xl:gb<W.heap.size:=Nat.lt_of_lt_of_le hgb HW.out.size;clear hall;refine wpOp_plain rfl rfl (fun K' hK'=>?_);go_simp;have hh:=hK' _ _ (hK _ _ (Below.refl _ _) rfl);simpa [upd,d8]using hh
  ·simp at ho;subst ho;have d9:Y 9=_:=hall {on:=9,ground:=Ground.data} (by simp) rfl;clear hall;refine wpOp_plain rfl rfl (fun K' hK'=>?_);go_simp;refine(HLAB.out W HW.out).mono ?_;rintro e W5 ⟨lb,rfl,hmb,hm,hb5⟩;have HM:=Lib.hid hm;have HB5:=Lib.hid hb5;clear hm hb5;go_simp;have hh:=hK' _ _ (hK _ _ (HB5.out) ⟨lb,rfl,HM.out,Nat.le_trans HW.out.size hmb⟩);simpa [upd,d9]using hh
  ·simp at ho;subst ho;obtain⟨lb,d10,hm,hmb⟩:=hall {on:=10,ground:=Ground.data} (by simp) rfl;have HM:=Lib.hid hm;clear hall hm;refine wpOp_plain rfl rfl (fun K' hK'=>?_);go_simp;have hh:=hK' _ _ (hK _ _ (below1 W (.cells #[.slice (some ⟨lb,0,none⟩) 8000 8000] 41)) ⟨W.heap.size,lb,rfl,Row.new' _ _ rfl,(by obtain⟨cs',h2,h2'⟩:=HM.out;exact⟨cs',h2.below (below1 _ _) h2.lt,h2'⟩),hmb⟩);simpa [upd,d10]using hh
  ·omega
 ·intro i o' Y W hin hl ho K hK;obtain rfl:i=0:=by simpa using hl
  simp at ho;subst ho;refine wpOp_plain rfl rfl (fun K' hK'=>?_);go_simp;have hh:=hK' _ _ (hK _ (fun _=>rfl));simpa [upd]using hh
 ·intro o' Y W ho hb hall K hK;have e4:Y 4=_:=hall 4 (by decide) (by decide);obtain⟨nb,lb,e11,hnr,hm,hmb⟩:=hall 11 (by decide) (by decide);have HB:=Lib.hid hb;have HNR:=Lib.hid hnr;have HM:=Lib.hid hm;have hsz:=hb.size;have hone:∀(j:Nat)(u:Value),[Value.slice (some ⟨lb,0,none⟩) 8000 8000][j]? =some u→W.cell? ((⟨nb,0,none⟩:Addr).add j)=some u:=fun j u hj=>by
   rw[List.getElem?_cons]at hj;split at hj
   ·rename_i hj0;subst hj0;injection hj with hj;subst hj;exact HNR.out.cell (j:=0) rfl
   ·simp at hj
  have HONE:=Lib.hid hone;simp at ho;subst ho;clear hall hb hnr hm hone;refine wpOp_plain rfl rfl (fun K' hK'=>?_);refine wp_append_lies _ (.tmp 28) (.tmp 35) 33 rfl base 41 i0 (.slice none 0 0) 1 24 Tryz.underlying33 hi hz0 hz1 hz2 rfl (by decide) (.slice ln k lcap) k xs e4 (ownsRow_wr HOWN.out (Wr.of_below (F:=fun _=>False) HB.out) (fun _ _ h=>h)) ⟨nb,0,none⟩ 1 1 [.slice (some ⟨lb,0,none⟩) 8000 8000] e11 rfl HONE.out (by simp[Value.oneCell']) (by decide) (by unfold maxLen;omega) (by omega) (by omega) W.heap.size rfl (fun g cap w' r1 r2 r3 r4=>?_);have hh:=hK' _ _ (hK (.slice (some ⟨g,0,none⟩) (k+1) cap) w' ⟨W,g,cap,lb,rfl,HB.out,HM.out,hmb,r1,r2,r3⟩);simpa [upd,Act.put]using hh
 ·intro Y W' ⟨W,g,cap,lb,e12,hb,hm,hmb,r1,r2,r3⟩ hl;have e0:Y 0=_:=hl 0 (by decide) (by decide) W';rw[e12]at r1;have HB:=Lib.hid hb;have HM:=Lib.hid hm;have HR1:=Lib.hid r1;have HR2:=Lib.hid r2;have hr0:Row W' mb cs 64:=((HROW.out.below hb HROW.out.lt)).wr (Wr.grown (F:=fun i=>(Value.slice ln k lcap).ownBlock=some i) r2 (fun i hi=>hi)) (fun h=>(by
   obtain⟨_,cs',hx⟩:=ownsRow_row HOWN.out h;exact hx.ne HROW.out (by decide) rfl))
  have f3:=hr0.free 3;have fl:=hr0.lt;have f4:=hr0.cell H3.out;clear hb hm r1 r2 hl hr0;simp only[List.drop_succ_cons,List.drop_zero,e0,e12];go_wp2_with fail;have hh:=HEX.out W W' g cap lb (upd (upd (upd (upd Y 0 (.pointer (some ⟨mb,0,none⟩))) 12 (.slice (some ⟨g,0,none⟩) (k+1) cap)) 13 (.pointer (some ⟨mb,0,none⟩))) 14 (.pointer (some ⟨mb,3,none⟩))) HB.out HM.out hmb HR1.out HR2.out r3;simpa [upd,e0]using hh
def labOkR(pre:List InsS)(x:InsS):Bool:=decide (x.op≠14)||(!labI pre x.n && decide (0≤x.n∧x.n<8000))
def jumpR(x:InsS):Bool:=!decide (x.op=15∨x.op=16)||decide (0≤x.n∧x.n<8000)
theorem numB_eq(n r:Int):numB n (r-1)=decide (0≤n∧n<r):=by unfold numB;rw[decide_eq_decide];omega
theorem insR_eq(c:CodeS)(ng nf:Int)(par:Int→Int→Bool)(pl:List Int)(pre:List InsS)(x:InsS)(hpl:(pl.length:Int)=nf)(hpar:∀n k,0≤n→n<nf→par n k=decide (pl.getD n.toNat 0=k)):
  insR c ng pl pre x=(insB c ng nf par x && (labOkR pre x && jumpR x)):=by
 subst hpl;rw[insB_eq];obtain⟨op,dst,a,b,n,arg⟩:=x;unfold insR formR regsR labOkR jumpR;simp only[numB_eq];have hz:((arg.length:Int)==0)=true↔arg=[]:=by simp
 have hz1:((arg.length:Int)==1)=true↔arg.length=1:=by simp;omega
 have hop:op=1∨op=2∨op=3∨op=4∨op=5∨op=6∨op=7∨op=8∨op=9∨op=10∨op=11∨op=12∨op=13∨op=14∨op=15∨op=16∨op=17∨namedI ⟨op,dst,a,b,n,arg⟩=none:=by
  unfold namedI;by_cases h:1≤op∧op≤17
  ·omega
  ·have:(if op=1∨op=3∨op=4 then some (true,false,false,true,false)
 else if op=2 then some (true,true,false,false,false)
 else if op=5 then some (true,true,true,true,false)
 else if op=6 then some (true,true,false,true,true)
 else if op=7∨op=8∨op=9 then some (true,true,false,true,false)
 else if op=10 then some (decide (dst≠ -1),false,false,true,true)
 else if op=11∨op=13∨op=17 then some (false,true,false,false,false)
 else if op=12 then some (true,false,false,false,false)
 else if op=14∨op=15 then some (false,false,false,true,false)
 else if op=16 then some (false,true,false,true,false)
 else none)=none:=by
    repeat rw[if_neg (by omega)]
   simp only[this,or_true]
 rcases hop with rfl|rfl|rfl|rfl|rfl|rfl|rfl|rfl|rfl|rfl|rfl|rfl|rfl|rfl|rfl|rfl|rfl|hn
 all_goals try rw[hn];simp only[Option.isSome_none,Bool.false_and]
 all_goals simp only[fieldsI,namedI,wantI,preR,eqI,argsR,opR,shapeR,regI,numberI,freeI,sizeB]
 all_goals simp
 all_goals try simp only[hz]
 all_goals try grind
theorem allR_iff(c:CodeS)(ng:Int)(pl:List Int):∀k,k≤c.ins.length→(allR c ng pl k=true↔∀i x,i<k→c.ins[i]? =some x→insR c ng pl (c.ins.take i) x=true):=by
 intro k
 induction k with
 |zero=>intro _;exact⟨fun _ i x h=>absurd h (Nat.not_lt_zero i),fun _=>rfl⟩
 |succ k ih=>
  intro hk;have hg:c.ins[k]? =some c.ins[k]:=List.getElem?_eq_getElem (by omega);rw[allR_next hg,Bool.and_eq_true,ih (by omega)];constructor
  ·rintro⟨h1,h2⟩ i x hi hx;by_cases he:i=k
   ·subst he;rw[hg]at hx;cases hx;exact h2
   ·exact h1 i x (by omega) hx
  ·intro h;exact⟨fun i x hi hx=>h i x (by omega) hx,h k _ (by omega) hg⟩
theorem layB_iff:∀(r l:List InsS),layB l r=true↔∀i x,r[i]? =some x→labOkR (l++r.take i) x=true:=by
 intro r
 induction r with
 |nil=>intro l;exact⟨fun _ i x h=>by simp at h,fun _=>rfl⟩
 |cons y r ih=>
  intro l;have hh:layB l (y::r)=(labOkR l y && layB (l++[y]) r):=rfl;rw[hh,Bool.and_eq_true,ih];constructor
  ·rintro⟨h1,h2⟩ i x hx;cases i with
   |zero=>simp only[List.getElem?_cons_zero,Option.some.injEq]at hx;subst hx;simpa using h1
   |succ i=>
    simp only[List.getElem?_cons_succ]at hx;have:=h2 i x hx;simpa using this
  ·intro h;refine⟨by simpa using h 0 y rfl,fun i x hx=>?_⟩;have:=h (i+1) x (by simpa using hx);simpa using this
theorem layB_range{l:List InsS}(h:layB [] l=true){n:Int}(hn:labI l n=true):0≤n∧n<8000:=by
 unfold labI at hn;rw[List.any_eq_true]at hn;obtain⟨x,hx,he⟩:=hn;obtain⟨h1,rfl⟩:=of_decide_eq_true he;obtain⟨i,hi⟩:=List.mem_iff_getElem?.1 hx;have:=(layB_iff l []).1 h i x hi;unfold labOkR at this;simp[h1]at this;exact this.2
theorem codeR_eq(c:CodeS)(ng nf:Int)(par:Int→Int→Bool)(pl:List Int)(hpl:(pl.length:Int)=nf)(hpar:∀n k,0≤n→n<nf→par n k=decide (pl.getD n.toNat 0=k)):
  codeR c ng pl=codeB c ng nf par:=by
 have hA:allR c ng pl c.ins.length=(layB [] c.ins && c.ins.all (insB c ng nf par)):=by
  rw[Bool.eq_iff_iff,Bool.and_eq_true,allR_iff c ng pl _ (Nat.le_refl _),layB_iff,List.all_eq_true];constructor
  ·intro h;refine⟨fun i x hx=>?_,fun x hx=>?_⟩
   ·have:=h i x (List.getElem?_eq_some_iff.1 hx).1 hx;rw[insR_eq c ng nf par pl _ x hpl hpar,Bool.and_eq_true,Bool.and_eq_true]at this;exact this.2.1
   ·obtain⟨i,hi⟩:=List.mem_iff_getElem?.1 hx;have:=h i x (List.getElem?_eq_some_iff.1 hi).1 hi;rw[insR_eq c ng nf par pl _ x hpl hpar,Bool.and_eq_true]at this;exact this.1
  ·rintro⟨h1,h2⟩ i x _ hx;have hl:=(layB_iff c.ins []).2 h1;have hi:=h2 x (List.mem_iff_getElem?.2 ⟨i,hx⟩);rw[insR_eq c ng nf par pl _ x hpl hpar,hi,Bool.true_and,Bool.and_eq_true];refine⟨h1 i x hx,?_⟩;unfold jumpR;by_cases hj:x.op=15∨x.op=16
   ·have hn:labI c.ins x.n=true:=by
     rw[insB_eq]at hi;simp only[Bool.and_eq_true]at hi;have:=hi.2.2.2.2.2.2;unfold numberI at this;rw[if_neg (by omega),if_neg (by omega),if_neg (by omega),if_neg (by omega),if_neg (by omega),if_neg (by omega),if_neg (by omega),if_neg (by omega),if_pos hj]at this;exact this
    rw[decide_eq_true (layB_range hl hn),Bool.or_true]
   ·rw[decide_eq_false hj];rfl
 unfold codeR codeB;rw[hA];have hH:headV c↔(headR c∧layB [] c.ins=true):=by
  unfold headV headR numB betwB;simp only[decide_eq_true_eq];constructor
  ·rintro⟨h1,h2,h3,h4,h5,h6,h7,h8⟩;exact⟨⟨⟨by omega,by omega⟩,h3,h4,h5,by omega,by omega⟩,h8⟩
  ·rintro⟨⟨⟨h1,h2⟩,h3,h4,h5,h6,h7⟩,h8⟩;exact⟨by omega,by omega,h3,h4,h5,by omega,by omega,h8⟩
 by_cases hr:headR c
 ·cases hl:layB [] c.ins with
  |true=>rw[if_pos hr,if_pos (hH.2 ⟨hr,hl⟩),Bool.true_and]
  |false=>rw[if_pos hr,if_neg (fun h=>by have:=(hH.1 h).2;rw[hl]at this;cases this),Bool.false_and,Bool.false_and]
 ·rw[if_neg hr,if_neg (fun h=>hr (hH.1 h).1)]
theorem labK_N{l:List InsS}(h:layB [] l=true):∀(k:Nat),k≤l.length→∀j:Nat,labI (l.take k) j=true→labK l k j=(labN l j:Nat)
 |0,_,j,hj=>by simp[labI]at hj
 |k+1,hk,j,hj=>by
  have hkl:k<l.length:=by omega
  have hx:l[k]? =some (l[k]'hkl):=List.getElem?_eq_getElem hkl;obtain⟨x,hxe⟩:∃x,x=l[k]'hkl:=⟨_,rfl⟩
  rw[←hxe]at hx;clear hxe;have htk:=take_succ_of hx;rw[labK_next hx j];by_cases hc:x.op=14∧x.n=(j:Int)
  ·rw[if_pos hc];have hlo:=(layB_iff l []).1 h k x hx;rw[List.nil_append]at hlo;unfold labOkR at hlo;have hno:labI (l.take k) x.n=false:=by
    rw[decide_eq_false (by simp[hc.1]),Bool.false_or]at hlo;simp only[Bool.and_eq_true,Bool.not_eq_true']at hlo;exact hlo.1
   have e1:labN (l.take (k+1)) j=k:=by
    rw[htk,labN_new (by rw[←hc.2];exact hno) hc,List.length_take];omega
   have e2:labN l j=labN (l.take (k+1)) j:=by
    have:=labN_old (l:=l.take (k+1)) (r:=l.drop (k+1)) hj;rw[List.take_append_drop]at this;exact this
   rw[e2,e1]
  ·rw[if_neg hc];rw[htk,labI_snoc,decide_eq_false hc,Bool.or_false]at hj;exact labK_N h k (by omega) j hj
def ObjRG(w:World)(B mb mo k:Nat)(o:MO):Prop:=
 ∃A len cap,w.cell? ⟨mb,mo+k*3,none⟩=some (.int .i64 o.size)∧w.cell? ⟨mb,mo+k*3+1,none⟩=some (.slice A len cap)∧w.cell? ⟨mb,mo+k*3+2,none⟩=some (.bool (!o.live))∧
  (o.live=true→o.l.length=len∧RowV w B A o.l)∧len≤64∧0≤o.size∧o.size≤8
def MemRG(w:World)(B:Nat)(A:Option Addr)(n:Nat)(M:List MO):Prop:=
 M.length≤n+1∧n≤4294967296∧∀k o,M[k+1]? =some o→∃mb mo,A=some ⟨mb,mo,none⟩∧mb<B∧k<n∧ObjRG w B mb mo k o
theorem MemRG.get{w:World}{B n:Nat}{A:Option Addr}{M:List MO}(h:MemRG w B A n M){k:Nat}(hk:k+1<M.length):
  ∃mb mo,A=some ⟨mb,mo,none⟩∧mb<B∧k<n∧ObjRG w B mb mo k (mget M (k+1)):=
 h.2.2 k _ (mget_of hk)
theorem ObjRG.below{w w':World}{B B' mb mo k:Nat}{o:MO}(h:ObjRG w B mb mo k o)(hb:Below B w w')(hB:B≤B')(hm:mb<B):ObjRG w' B' mb mo k o:=by
 obtain⟨A,len,cap,c0,c1,c2,h1,h2⟩:=h;exact⟨A,len,cap,(hb.cell (p:=⟨mb,mo+k*3,none⟩) hm).trans c0,(hb.cell (p:=⟨mb,mo+k*3+1,none⟩) hm).trans c1,(hb.cell (p:=⟨mb,mo+k*3+2,none⟩) hm).trans c2,fun hl=>⟨(h1 hl).1,(h1 hl).2.below hb hB⟩,h2⟩
theorem MemRG.below{w w':World}{B B' n:Nat}{A:Option Addr}{M:List MO}(h:MemRG w B A n M)(hb:Below B w w')(hB:B≤B'):MemRG w' B' A n M:=by
 refine⟨h.1,h.2.1,fun k o hk=>?_⟩;obtain⟨mb,mo,hA,hlt,hkn,ho⟩:=h.2.2 k o hk;exact⟨mb,mo,hA,by omega,hkn,ho.below hb hB hlt⟩
theorem atF_some{M:List MO}{a:V}{s j:Nat}(h:atF M a s=some j):0<a.obj∧(mget M a.obj).live=true∧(mget M a.obj).size=s∧a.n%s=0∧a.n<(mget M a.obj).bytes∧j=a.n.toNat/s:=by
 unfold atF at h;split at h
 ·rename_i h1;simp only[Option.some.injEq]at h;exact⟨h1.1,h1.2.1,h1.2.2.1,h1.2.2.2.1,h1.2.2.2.2,h.symm⟩
 ·cases h
def fitL(op:Int):Int:=if op=5 then 31 else if op=6 then 32 else if op=7 then 33 else if op=9 then 34 else if op=10 then 35 else if op=11 then 36 else 0
theorem fit_loaded{op n:Int}(h0:5≤op)(h1:op≤11)(h8:op≠8):31≤fitL op∧fitL op≤36∧unR (fitL op) n=loadedF op n:=by
 rcases loads_seven h0 h1 with rfl|rfl|rfl|rfl|rfl|rfl|rfl
 all_goals first|(exact absurd rfl h8)|(simp[fitL,unR,loadedF,sizeL])
def apartF(M:List MO)(a:V):Bool:=(mget M a.obj).live && decide (a.n<(mget M a.obj).bytes)
theorem eq_25(a b:Int):twoR 25 a b=tru (a==b):=by simp[twoR,isDiv,cmpR]
theorem ne_26(a b:Int):twoR 26 a b=tru (a !=b):=by simp[twoR,isDiv,cmpR]
theorem binF_two{M:List MO}{op:Int}{a b:V}(ha:a.obj≠0)(hb:b.obj≠0):binF twoR M op a b=
  (if op=25∨op=26 then(if cmpF M a b=false then none else some ⟨0,twoR op (if a=b then 1 else 0) 1⟩)
   else if a.obj≠b.obj∨(mget M a.obj).live=false∨(op≠13∧¬(27≤op∧op≤30))then none else some ⟨0,twoR op a.n b.n⟩):=by
 unfold binF;rw[if_neg (by omega),if_neg (by omega),if_neg (by omega),if_neg (by omega)];by_cases h:op=25∨op=26
 ·rw[if_pos h,if_pos h,if_neg (by omega)];by_cases hc:cmpF M a b=false
  ·rw[if_pos ⟨by omega,by omega,hc⟩,if_pos hc]
  ·rw[if_neg (fun h=>hc h.2.2),if_neg hc]
 ·rw[if_neg h,if_neg h]
theorem binF_far{M:List MO}{op:Int}{a b:V}(ha:a.obj≠0)(hb:b.obj≠0)(hne:a.obj≠b.obj):binF twoR M op a b=if(op=25∨op=26)∧apartF M a=true∧apartF M b=true then some ⟨0,op-25⟩else none:=by
 rw[binF_two ha hb];have hab:a≠b:=fun h=>hne (by rw[h]);have hc:cmpF M a b=(apartF M a && apartF M b):=by
  unfold cmpF apartF;rw[decide_eq_false hne,Bool.false_or];cases (mget M a.obj).live<;>cases (mget M b.obj).live<;>simp
 by_cases h:op=25∨op=26
 ·rw[if_pos h,if_neg hab,hc];cases h1:apartF M a<;>cases h2:apartF M b<;>simp[h];rcases h with rfl|rfl
  ·rw[eq_25];decide
  ·rw[ne_26];decide
 ·rw[if_neg h,if_pos (Or.inl hne),if_neg (fun hh=>h hh.1)]
theorem binF_near{M:List MO}{op:Int}{a b:V}(ha:a.obj≠0)(heq:a.obj=b.obj):binF twoR M op a b=if(mget M a.obj).live=true∧(op=25∨op=26∨op=13∨(27≤op∧op≤30))then some ⟨0,twoR op a.n b.n⟩else none:=by
 rw[binF_two ha (by omega)];have hc:cmpF M a b=(mget M a.obj).live:=by
  unfold cmpF;rw[←heq,decide_eq_true (rfl:a.obj=a.obj)];cases (mget M a.obj).live<;>simp
 have hab:(a=b)↔a.n=b.n:=by
  constructor
  ·intro h;rw[h]
  ·intro h;cases a;cases b;simp_all
 by_cases hl:(mget M a.obj).live=true
 ·by_cases h:op=25∨op=26
  ·have e1:(if op=25∨op=26 then(if cmpF M a b=false then none else some (⟨0,twoR op (if a=b then 1 else 0) 1⟩:V))else if a.obj≠b.obj∨(mget M a.obj).live=false∨(op≠13∧¬(27≤op∧op≤30))then none else some ⟨0,twoR op a.n b.n⟩)=some ⟨0,twoR op (if a=b then 1 else 0) 1⟩:=by
    rw[if_pos h,if_neg (by rw[hc,hl];simp)]
   have e2:(if(mget M a.obj).live=true∧(op=25∨op=26∨op=13∨(27≤op∧op≤30))then some (⟨0,twoR op a.n b.n⟩:V)else none)=some ⟨0,twoR op a.n b.n⟩:=if_pos ⟨hl,by omega⟩;rw[e1,e2];have e3:twoR op (if a=b then 1 else 0) 1=twoR op a.n b.n:=by
    rcases h with rfl|rfl
    ·rw[eq_25,eq_25];by_cases hn:a.n=b.n
     ·rw[if_pos (hab.2 hn),hn];simp
     ·have:(a.n==b.n)=false:=by simpa using hn
      rw[if_neg (fun hh=>hn (hab.1 hh)),this];rfl
    ·rw[ne_26,ne_26];by_cases hn:a.n=b.n
     ·rw[if_pos (hab.2 hn),hn];simp
     ·have:(a.n !=b.n)=true:=by simpa using hn
      rw[if_neg (fun hh=>hn (hab.1 hh)),this];rfl
   rw[e3]
  ·rw[if_neg h];by_cases h3:op≠13∧¬(27≤op∧op≤30)
   ·rw[if_pos (Or.inr (Or.inr h3)),if_neg (fun hh=>by have:=hh.2;omega)]
   ·rw[if_neg (fun hh=>by rcases hh with hh|hh|hh;exact hh heq;rw[hl]at hh;cases hh;exact h3 hh),if_pos ⟨hl,by omega⟩]
 ·have hl':(mget M a.obj).live=false:=by simpa using hl
  have e2:(if(mget M a.obj).live=true∧(op=25∨op=26∨op=13∨(27≤op∧op≤30))then some (⟨0,twoR op a.n b.n⟩:V)else none)=none:=if_neg (fun hh=>hl hh.1);rw[e2];by_cases h:op=25∨op=26
  ·rw[if_pos h,if_pos (by rw[hc,hl'])]
  ·rw[if_neg h,if_pos (Or.inr (Or.inl hl'))]
structure Box3 (w W:World) (a b:V):Prop where
 r0:Row W w.heap.size #[.int .i64 a.obj,.int .i64 a.n] 70
 r1:Row W (w.heap.size+1) #[.int .i64 b.obj,.int .i64 b.n] 70
 r2:Row W (w.heap.size+1+1) #[.int .i64 0,.int .i64 0] 70
 below:Below w.heap.size w W
theorem Box3.mk'(w:World)(a b:V):Box3 w (((w.alloc (.cells #[.int .i64 a.obj,.int .i64 a.n] 70)).alloc (.cells #[.int .i64 b.obj,.int .i64 b.n] 70)).alloc (.cells #[.int .i64 0,.int .i64 0] 70)) a b:=
 ⟨((Row.new _ _ _).alloc _).alloc _,(Row.new' _ _ (by simp)).alloc _,Row.new' _ _ (by simp),below3 _ _ _ _⟩
theorem Box3.grow{w W W':World}{a b:V}(h:Box3 w W a b)(hb:Below W.heap.size W W'):Box3 w W' a b:=
 ⟨h.r0.below hb h.r0.lt,h.r1.below hb h.r1.lt,h.r2.below hb h.r2.lt,h.below.trans (hb.mono h.below.size)⟩
def Fits(r:Option V)(y0 y1:Int):Prop:=∀x,r=some x→y0=x.obj∧y1=x.n
theorem AnsV.fits{r:Option V}{e:Ending}(h:AnsV r e):∃y0 y1,e= .returned (.tuple #[.agg #[.int .i64 y0,.int .i64 y1],.bool r.isSome])∧Fits r y0 y1:=by
 cases r with
 |none=>
  obtain⟨a,b,h⟩:=h;exact⟨a,b,h,fun x hx=>by cases hx⟩
 |some v=>exact⟨_,_,h,fun x hx=>by cases hx;exact⟨rfl,rfl⟩⟩
theorem Fits.ans{r:Option V}{y0 y1:Int}(h:Fits r y0 y1):AnsV r (.returned (.tuple #[.agg #[.int .i64 y0,.int .i64 y1],.bool r.isSome])):=by
 cases r with
 |none=>exact⟨y0,y1,rfl⟩
 |some v=>
  obtain⟨rfl,rfl⟩:=h v rfl;rfl
theorem size2'{cs:Array Value}(h:cs.size=2):∃a b,cs=#[a,b]:=by
 obtain⟨l⟩:=cs
 match l,h with
 |[a,b],_=>exact⟨a,b,rfl⟩
def vadL(rb fb ib pw hb tb tof tl tc ma:Nat)(opv dstv bv nv:Int)(AV:Value)(va:V)(r:Option V):List (Value→Prop):=[fun v=>v= .pointer (some ⟨rb,0,none⟩),
 fun v=>v= .pointer (some ⟨rb,0,none⟩),
 fun v=>v= .pointer (some ⟨rb,4,none⟩),
 fun v=>v= .pointer (some ⟨hb,0,none⟩),
 fun v=>v= .pointer (some ⟨fb,0,none⟩),
 fun v=>v= .pointer (some ⟨fb,0,none⟩),
 fun v=>v= .pointer (some ⟨fb,0,none⟩),
 fun v=>v= .slice (some ⟨tb,tof,none⟩) tl tc,
 fun v=>v= .pointer (some ⟨ib,2,none⟩),
 fun v=>v= .int .i64 (ma:Nat),
 fun v=>v= .pointer (some ⟨tb,tof+ma*2,none⟩),
 fun v=>v= .agg #[.int .i64 va.obj,.int .i64 va.n],
 fun v=>v= .pointer (some ⟨ib,3,none⟩),
 fun v=>v= .int .i64 bv,
 fun v=>v= .agg #[.int .i64 0,.int .i64 bv],
 fun v=>∃y0 y1,v= .tuple #[.agg #[.int .i64 y0,.int .i64 y1],.bool r.isSome]∧Fits r y0 y1,
 fun v=>∃y0 y1,v= .agg #[.int .i64 y0,.int .i64 y1]∧Fits r y0 y1,
 fun v=>v= .bool r.isSome,
 fun _=>True,
 fun v=>v= .bool r.isSome]
def vadC(rb fb ib pw hb tb tof tl tc ma:Nat)(opv dstv bv nv:Int)(AV:Value)(va:V)(r:Option V)(i:Nat)(v:Value):Prop:=((vadL rb fb ib pw hb tb tof tl tc ma opv dstv bv nv AV va r).getD i (fun _=>True)) v
def vr5L(mb rb fb ib pw hb tb tof tl tc ma:Nat)(opv dstv bv nv:Int)(AV:Value)(va vb:V)(r:Option V):List (Value→Prop):=[fun v=>v= .pointer (some ⟨rb,0,none⟩),
 fun v=>v= .pointer (some ⟨rb,0,none⟩),
 fun v=>v= .pointer (some ⟨rb,4,none⟩),
 fun v=>v= .pointer (some ⟨hb,0,none⟩),
 fun v=>v= .pointer (some ⟨ib,4,none⟩),
 fun v=>v= .int .i64 nv,
 fun v=>v= .pointer (some ⟨fb,0,none⟩),
 fun v=>v= .pointer (some ⟨fb,0,none⟩),
 fun v=>v= .pointer (some ⟨fb,0,none⟩),
 fun v=>v= .slice (some ⟨tb,tof,none⟩) tl tc,
 fun v=>v= .pointer (some ⟨ib,2,none⟩),
 fun v=>v= .int .i64 (ma:Nat),
 fun v=>v= .pointer (some ⟨tb,tof+ma*2,none⟩),
 fun v=>v= .agg #[.int .i64 va.obj,.int .i64 va.n],
 fun v=>v= .pointer (some ⟨fb,0,none⟩),
 fun v=>v= .pointer (some ⟨fb,0,none⟩),
 fun v=>v= .pointer (some ⟨fb,0,none⟩),
 fun v=>v= .slice (some ⟨tb,tof,none⟩) tl tc,
 fun v=>v= .pointer (some ⟨ib,3,none⟩),
 fun v=>v= .int .i64 (mb:Nat),
 fun v=>v= .pointer (some ⟨tb,tof+mb*2,none⟩),
 fun v=>v= .agg #[.int .i64 vb.obj,.int .i64 vb.n],
 fun v=>∃y0 y1,v= .tuple #[.agg #[.int .i64 y0,.int .i64 y1],.bool r.isSome]∧Fits r y0 y1,
 fun v=>∃y0 y1,v= .agg #[.int .i64 y0,.int .i64 y1]∧Fits r y0 y1,
 fun v=>v= .bool r.isSome,
 fun _=>True,
 fun v=>v= .bool r.isSome]
def vr5C(mb rb fb ib pw hb tb tof tl tc ma:Nat)(opv dstv bv nv:Int)(AV:Value)(va vb:V)(r:Option V)(i:Nat)(v:Value):Prop:=((vr5L mb rb fb ib pw hb tb tof tl tc ma opv dstv bv nv AV va vb r).getD i (fun _=>True)) v
def vr6L(ab aof an ac rb fb ib pw hb tb tof tl tc ma:Nat)(opv dstv bv nv:Int)(xv:Int)(va:V)(r:Option V):List (Value→Prop):=[fun v=>v= .pointer (some ⟨rb,0,none⟩),
 fun v=>v= .pointer (some ⟨rb,0,none⟩),
 fun v=>v= .pointer (some ⟨rb,4,none⟩),
 fun v=>v= .pointer (some ⟨hb,0,none⟩),
 fun v=>v= .pointer (some ⟨ib,4,none⟩),
 fun v=>v= .int .i64 nv,
 fun v=>v= .pointer (some ⟨fb,0,none⟩),
 fun v=>v= .pointer (some ⟨fb,0,none⟩),
 fun v=>v= .pointer (some ⟨fb,0,none⟩),
 fun v=>v= .slice (some ⟨tb,tof,none⟩) tl tc,
 fun v=>v= .pointer (some ⟨ib,2,none⟩),
 fun v=>v= .int .i64 (ma:Nat),
 fun v=>v= .pointer (some ⟨tb,tof+ma*2,none⟩),
 fun v=>v= .agg #[.int .i64 va.obj,.int .i64 va.n],
 fun v=>v= .pointer (some ⟨ib,5,none⟩),
 fun v=>v= .slice (some ⟨ab,aof,none⟩) an ac,
 fun v=>v= .pointer (some ⟨ab,aof,none⟩),
 fun v=>v= .int .i64 xv,
 fun v=>v= .agg #[.int .i64 0,.int .i64 xv],
 fun v=>∃y0 y1,v= .tuple #[.agg #[.int .i64 y0,.int .i64 y1],.bool r.isSome]∧Fits r y0 y1,
 fun v=>∃y0 y1,v= .agg #[.int .i64 y0,.int .i64 y1]∧Fits r y0 y1,
 fun v=>v= .bool r.isSome,
 fun _=>True,
 fun v=>v= .bool r.isSome]
def vr6C(ab aof an ac rb fb ib pw hb tb tof tl tc ma:Nat)(opv dstv bv nv:Int)(xv:Int)(va:V)(r:Option V)(i:Nat)(v:Value):Prop:=((vr6L ab aof an ac rb fb ib pw hb tb tof tl tc ma opv dstv bv nv xv va r).getD i (fun _=>True)) v
def vr7L(rb fb ib pw hb tb tof tl tc ma:Nat)(opv dstv bv nv:Int)(AV:Value)(va:V)(r:Option V):List (Value→Prop):=[fun v=>v= .pointer (some ⟨rb,0,none⟩),
 fun v=>v= .pointer (some ⟨rb,0,none⟩),
 fun v=>v= .pointer (some ⟨rb,4,none⟩),
 fun v=>v= .pointer (some ⟨hb,0,none⟩),
 fun v=>v= .pointer (some ⟨ib,4,none⟩),
 fun v=>v= .int .i64 nv,
 fun v=>v= .pointer (some ⟨fb,0,none⟩),
 fun v=>v= .pointer (some ⟨fb,0,none⟩),
 fun v=>v= .pointer (some ⟨fb,0,none⟩),
 fun v=>v= .slice (some ⟨tb,tof,none⟩) tl tc,
 fun v=>v= .pointer (some ⟨ib,2,none⟩),
 fun v=>v= .int .i64 (ma:Nat),
 fun v=>v= .pointer (some ⟨tb,tof+ma*2,none⟩),
 fun v=>v= .agg #[.int .i64 va.obj,.int .i64 va.n],
 fun v=>∃y0 y1,v= .tuple #[.agg #[.int .i64 y0,.int .i64 y1],.bool r.isSome]∧Fits r y0 y1,
 fun v=>∃y0 y1,v= .agg #[.int .i64 y0,.int .i64 y1]∧Fits r y0 y1,
 fun v=>v= .bool r.isSome,
 fun _=>True,
 fun v=>v= .bool r.isSome]
def vr7C(rb fb ib pw hb tb tof tl tc ma:Nat)(opv dstv bv nv:Int)(AV:Value)(va:V)(r:Option V)(i:Nat)(v:Value):Prop:=((vr7L rb fb ib pw hb tb tof tl tc ma opv dstv bv nv AV va r).getD i (fun _=>True)) v
def vr8L(vb rb fb ib pw hb tb tof tl tc ma:Nat)(opv dstv bv nv:Int)(AV:Value)(va wv:V)(r:Option V):List (Value→Prop):=[fun v=>v= .pointer (some ⟨rb,0,none⟩),
 fun v=>v= .pointer (some ⟨rb,0,none⟩),
 fun v=>v= .pointer (some ⟨rb,4,none⟩),
 fun v=>v= .pointer (some ⟨hb,0,none⟩),
 fun v=>v= .pointer (some ⟨ib,4,none⟩),
 fun v=>v= .int .i64 nv,
 fun v=>v= .agg #[.int .i64 wv.obj,.int .i64 wv.n],
 fun v=>∃y0 y1,v= .tuple #[.agg #[.int .i64 y0,.int .i64 y1],.bool r.isSome]∧Fits r y0 y1,
 fun v=>∃y0 y1,v= .agg #[.int .i64 y0,.int .i64 y1]∧Fits r y0 y1,
 fun v=>v= .bool r.isSome,
 fun _=>True,
 fun v=>v= .bool r.isSome]
def vr8C(vb rb fb ib pw hb tb tof tl tc ma:Nat)(opv dstv bv nv:Int)(AV:Value)(va wv:V)(r:Option V)(i:Nat)(v:Value):Prop:=((vr8L vb rb fb ib pw hb tb tof tl tc ma opv dstv bv nv AV va wv r).getD i (fun _=>True)) v
end Go.Proofs.YtlenilbkifofjaaGreatDoor
namespace Go.Proofs.YtlenilbkifofjaaGreatDoor
open Go.RowKit
def regF(tp:List V)(r:Int):V:=tp.getD r.toNat ⟨0,0⟩
def addrF(M:List MO)(tp:List V)(x:InsS):Option V:=binF twoR M 12 (regF tp x.a) ⟨0,x.b⟩
def reckF(M:List MO)(tp:List V)(lo:List Nat)(x:InsS):Option V:=
 if x.op=1 then some ⟨0,x.n⟩
 else if x.op=2 then some (regF tp x.a)
 else if x.op=3 then some ⟨lo.getD x.n.toNat 0,0⟩
 else if x.op=4 then some ⟨x.n.toNat+1,0⟩
 else if x.op=5 then binF twoR M x.n (regF tp x.a) (regF tp x.b)
 else if x.op=6 then binF twoR M x.n (regF tp x.a) ⟨0,x.arg.getD 0 0⟩
 else if x.op=7 then(if(regF tp x.a).obj=0 then some ⟨0,unR x.n (regF tp x.a).n⟩else none)
 else match addrF M tp x with
  |none=>none
  |some v=>loadF M x.n v
section
variable {M:List MO} {tp:List V} {lo:List Nat}
theorem evalTs_one(t:T):evalTs M tp lo [t]=(evalT M tp lo t).map ([·]):=by
 rw[evalTs,evalTs];cases evalT M tp lo t<;>rfl
theorem evalT_two{op:Int}{t u:T}(h:12≤op∧op≤30){a b:V}(ha:evalT M tp lo t=some a)(hb:evalT M tp lo u=some b):evalT M tp lo (.node op 0 [t,u])=binF twoR M op a b:=by
 rw[evalT,evalTs,evalTs,evalTs,ha,hb];show opF M tp lo op 0 [a,b]=_;unfold opF applyF;rw[if_neg (by omega),if_neg (by omega),if_neg (by omega),if_neg (by omega),if_neg (by omega),if_neg (by omega)];rfl
theorem evalT_addr(x:InsS):evalT M tp lo (.node 12 0 [tmpT x.a,conT x.b])=addrF M tp x:=evalT_two (by decide) (evalT_tmp _ _ _ _) (evalT_con _ _ _ _)
theorem reck_eval{c:CodeS}{ng nf:Nat}{par:Int→Int→Bool}{x:InsS}(h:InsOk c ng nf par x)(h8:x.op≤8):evalTs M tp lo (stepI x).args=(reckF M tp lo x).map ([·]):=by
 obtain⟨hop,_,_,_,hn⟩:=h;obtain⟨op,dst,a,b,n,arg⟩:=x;simp only at*;have hs:op=1∨op=2∨op=3∨op=4∨op=5∨op=6∨op=7∨op=8:=by omega
 rcases hs with rfl|rfl|rfl|rfl|rfl|rfl|rfl|rfl
 ·rw[show(stepI ⟨1,dst,a,b,n,arg⟩).args=[conT n]from rfl,evalTs_one,evalT_con];rfl
 ·rw[show(stepI ⟨2,dst,a,b,n,arg⟩).args=[tmpT a]from rfl,evalTs_one,evalT_tmp];rfl
 ·rw[show(stepI ⟨3,dst,a,b,n,arg⟩).args=[.node 3 n []]from rfl,evalTs_one,evalT,evalTs];rfl
 ·rw[show(stepI ⟨4,dst,a,b,n,arg⟩).args=[.node 4 n []]from rfl,evalTs_one,evalT,evalTs];rfl
 ·simp[numberI]at hn;rw[show(stepI ⟨5,dst,a,b,n,arg⟩).args=[.node n 0 [tmpT a,tmpT b]]from rfl,evalTs_one,evalT_two hn (evalT_tmp _ _ _ _) (evalT_tmp _ _ _ _)];rfl
 ·simp[numberI]at hn;rw[show(stepI ⟨6,dst,a,b,n,arg⟩).args=[.node n 0 [tmpT a,conT (arg.getD 0 0)]]from rfl,evalTs_one,evalT_two hn.1 (evalT_tmp _ _ _ _) (evalT_con _ _ _ _)];rfl
 ·simp[numberI]at hn;rw[show(stepI ⟨7,dst,a,b,n,arg⟩).args=[.node n 0 [tmpT a]]from rfl,evalTs_one,evalT,evalTs_one,evalT_tmp];show(opF M tp lo n 0 [tp.getD a.toNat ⟨0,0⟩]).map _=_;unfold opF applyF;rw[if_neg (by omega),if_neg (by omega),if_neg (by omega),if_neg (by omega),if_neg (by omega),if_pos (by omega)];rfl
 ·simp[numberI]at hn;rw[show(stepI ⟨8,dst,a,b,n,arg⟩).args=[.node n 0 [.node 12 0 [tmpT a,conT b]]]from rfl,evalTs_one,evalT,evalTs_one,show evalT M tp lo (.node 12 0 [tmpT a,conT b])=addrF M tp ⟨8,dst,a,b,n,arg⟩from evalT_addr ⟨8,dst,a,b,n,arg⟩];have e:reckF M tp lo ⟨8,dst,a,b,n,arg⟩=match addrF M tp ⟨8,dst,a,b,n,arg⟩with
   |none=>none
   |some v=>loadF M n v:=rfl
  rw[e];cases addrF M tp ⟨8,dst,a,b,n,arg⟩with
  |none=>rfl
  |some v=>
   show(opF M tp lo n 0 [v]).map _=_;unfold opF applyF;rw[if_neg (by omega),if_neg (by omega),if_neg (by omega),if_neg (by omega),if_pos (by omega)];rfl
end
end Go.Proofs.YtlenilbkifofjaaGreatDoor
namespace Go.Proofs.YtlenilbkifofjaaGreatDoor
open Go.RowKit
def ccells(fuel:Int)(s:St)(inv outv:Value):Array Value:=#[.int .i64 s.kind,.int .i64 s.code,outv,.int .i64 s.steps,.int .i64 s.deep,.int .i64 fuel,inv,.int .i64 s.calls]
def GObjIn(xs:List Value)(rb:Nat→Nat)(k:Nat)(o:MO):Prop:=
 xs[k*3]? =some (.int .i64 o.size)∧xs[k*3+1]? =some (if o.live=true then .slice (some ⟨rb k,0,none⟩) o.l.length o.l.length else .slice none 0 0)∧xs[k*3+2]? =some (.bool (!o.live))
def putV(j:Nat)(v:V)(o:MO):MO:={o with l:=o.l.set j v}
def StoreSays(ob o:Nat)(v:V)(w:World)(e:Ending)(w':World):Prop:=
 e= .returned (.bool true)∧∃W,Below w.heap.size w W∧w'=(W.setCell ⟨ob,o,none⟩ (.int .i64 v.obj)).setCell ⟨ob,o+1,none⟩ (.int .i64 v.n)
end Go.Proofs.YtlenilbkifofjaaGreatDoor
namespace Go.Proofs.YtlenilbkifofjaaGreatDoor
open Go.RowKit
attribute [local go_sem ↓] Go.wp_at_zero Go.wp_at_succ
end Go.Proofs.YtlenilbkifofjaaGreatDoor
