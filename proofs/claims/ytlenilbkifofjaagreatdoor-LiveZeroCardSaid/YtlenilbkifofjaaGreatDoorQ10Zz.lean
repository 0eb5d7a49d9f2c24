/- How many elements objects have. Conditions: as stated. The graph's heap and clock together: stores, ticks, ends. Conditions: as stated. The graph's clock: Put of a number, Get. Conditions: as stated. A tree's value in the graph's machine: how the machine is read; leaves. Conditions: as stated. A tree's value in the graph's machine: nodes. Conditions: as stated. A tree's value in the graph's machine: nodes of two kids. Conditions: as stated. A tree's value in the graph's machine is the page's. Conditions: as stated. The graph's heap: objects are made, one by one. Conditions: as stated. The graph's heap: objects are no more. Conditions: as stated. The graph's machine: how a run and a frame lie; trees' values, gathered. Conditions: as stated. virt's frame and run: how they lie. No program in sight but its name. No condition. virt: address, reckon. Conditions: as stated. virt: reckon, every instruction. Conditions: as stated. virt: an instruction: what it reckons is laid into a register; stuck; a label. Conditions: as stated. virt: Labels; the region in which a run keeps a function's labels. Conditions: as stated. virt: an instruction: a label, a number put out, an exit. Conditions: as stated. virt: an instruction: a store. Conditions: as stated. virt: an instruction: a number comes in; every instruction but a call. Conditions: as stated. virt: an instruction: every one but a call. Conditions: as stated. virt: a call's contract; a call's arguments. Conditions: as stated. virt: next: no fuel; a return; a branch that is not taken. Conditions: as stated. virt: an instruction: a call. Conditions: as stated. 'copy' of a row of values into a row that is known whole. No program in sight but its name. No condition. virt: calls that do not begin. Conditions: as stated. virt: the state between a call's instructions. Conditions: as stated. virt: next, whole. Conditions: as stated. virt: an instruction against the blocks of its translation (plain). No condition. virt: a call that begins. Conditions: as stated. virt: calls, whole. Conditions: as stated. The graph's machine: a step: no fuel; stuck trees. Conditions: as stated. The graph's machine: a step: a temporary is set; what comes in is read. Conditions: as stated. The graph's machine: a step: a number is put out; an exit; a store. Conditions: as stated. The graph's machine: a step: a store. Conditions: as stated. The graph's machine: a step: a call. Conditions: as stated. The graph's machine: a step, whole. Conditions: as stated. The graph's machine: the state between a block's steps. Conditions: as stated. The graph's machine: a block, whole. Conditions: as stated. The graph's machine: calls that do not begin. Conditions: as stated. The graph's machine: the state between a call's blocks. Conditions: as stated. The graph's machine: a call that begins. Conditions: as stated. The graph's machine: calls, whole. Conditions: as stated. The page's machine: how a run starts (plain). No condition. The graph's machine: how a run starts and ends (plain). Conditions: as stated. virt.Run, of a program that may be. Conditions: as stated. -/
import Derived.Test.YtlenilbkifofjaaGreatDoorQ09Zz
import Derived.Test.YtlenilbkifofjaaGreatDoorQ04Zz
import Derived.Test.YtlenilbkifofjaaGreatDoorQ02Zz
import Derived.Test.YtlenilbkifofjaaGreatDoorQ05Zz
import Derived.Test.YtlenilbkifofjaaGreatDoorQ08Zz
import Derived.Test.YtlenilbkifofjaaGreatDoorQ03Zz
import Derived.Laws.CopyOwn
import Derived.Deep.RegionHeld3
import Derived.WalkLawsBesides
import Derived.Outline
import Derived.Deep.Cut
import Derived.Deep.RegionWith
set_option linter.unusedVariables false
set_option linter.unusedSimpArgs false
set_option maxHeartbeats 8000000
set_option maxRecDepth 100000
namespace Go.Proofs.YtlenilbkifofjaaGreatDoor
open Go.RowKit
end Go.Proofs.YtlenilbkifofjaaGreatDoor
namespace Go.Proofs.YtlenilbkifofjaaGreatDoor
open Go.RowKit
section
variable {base:Nat} {own:Nat→Prop} {cb hb:Nat} {fuel:Int} {s:St} {w:World}
end
end Go.Proofs.YtlenilbkifofjaaGreatDoor
namespace Go.Proofs.YtlenilbkifofjaaGreatDoor
open Go.RowKit
theorem long_info:(Tryz.prog.info? 2).map (fun i=>(i.zero,i.size,i.bytes))=some (some (.int .i64 0),1,8):=by kernel_rfl
theorem int_one(a:Int):∀u:Value,u∈[Value.int .i64 a]→u.oneCell'=true:=by
 intro u hu;simp at hu;subst hu;rfl
def getF(s:St):Int×St:=match s.inp with|[]=>(0,s)|n::r=>(n,{s with inp:=r})
def globV(ng:Nat):List V:=(List.range ng).map fun i=>⟨i+1,0⟩
def locV(lo:List Nat):List V:=lo.map fun x=>⟨x,0⟩
def RunR(w:World)(B rb fb:Nat)(M:List MO)(tp:List V)(lo:List Nat)(ng:Nat):Prop:=
 ∃(hb n cap tc lc gc:Nat)(A TA LA GA:Option Addr),w.cell? ⟨rb,4,none⟩=some (.pointer (some ⟨hb,0,none⟩))∧w.cell? ⟨hb,0,none⟩=some (.slice A n cap)∧MemRG w B A n M∧
  w.cell? ⟨rb,5,none⟩=some (.slice GA ng gc)∧RowV w B GA (globV ng)∧w.cell? ⟨fb,0,none⟩=some (.slice TA tp.length tc)∧RowV w B TA tp∧w.cell? ⟨fb,1,none⟩=some (.slice LA lo.length lc)∧RowV w B LA (locV lo)∧rb<B∧fb<B∧hb<B
theorem RunR.below{w w':World}{B B' rb fb:Nat}{M:List MO}{tp:List V}{lo:List Nat}{ng:Nat}(h:RunR w B rb fb M tp lo ng)(hb:Below B w w')(hB:B≤B'):RunR w' B' rb fb M tp lo ng:=by
 obtain⟨hb',n,cap,tc,lc,gc,A,TA,LA,GA,h1,h2,h3,h4,h5,h6,h7,h8,h9,h10,h11,h12⟩:=h;exact⟨hb',n,cap,tc,lc,gc,A,TA,LA,GA,cell_below h1 hb h10,cell_below h2 hb h12,h3.below hb hB,cell_below h4 hb h10,h5.below hb hB,cell_below h6 hb h11,h7.below hb hB,cell_below h8 hb h11,h9.below hb hB,by omega,by omega,by omega⟩
theorem globV_get{ng k:Nat}(h:k<ng):(globV ng)[k]? =some ⟨k+1,0⟩:=by simp[globV,h]
theorem locV_get{lo:List Nat}{k:Nat}(h:k<lo.length):(locV lo)[k]? =some ⟨lo.getD k 0,0⟩:=by simp[locV,h,List.getD]
theorem tload_any(op:Int)(w:World):
  Calls Tryz.prog 84 #[.int .i64 op] w fun e w'=>e= .returned (.bool (decide (5≤op∧op≤11)))∧w=w':=by
 go_enter Tryz.func84,Tryz.ntmps84;go_wp2
 all_goals go_ret
 ·exact⟨ret_b (by simp[*]),rfl⟩
 ·exact⟨ret_b (by simp;omega),rfl⟩
theorem unary_any(op:Int)(w:World):
  Calls Tryz.prog 83 #[.int .i64 op] w fun e w'=>e= .returned (.bool (decide (31≤op∧op≤36)))∧w=w':=by
 go_enter Tryz.func83,Tryz.ntmps83;go_wp2
 all_goals go_ret
 ·exact⟨ret_b (by simp[*]),rfl⟩
 ·exact⟨ret_b (by simp;omega),rfl⟩
theorem TreeAt.rootG{w:World}{C:Nat→Nat→Prop}{t:T}{v0 v1 v2:Value}(h:TreeAt w C t v0 v1 v2):∃A n c,v0= .int .i64 t.op∧v1= .int .i64 t.n∧v2= .slice A n c:=by
 cases t with
 |node op n ks=>
  rw[TreeAt]at h;obtain⟨h0,h1,_,_,_,A,c,h2,_⟩:=h;exact⟨A,_,c,h0,h1,h2⟩
theorem geval_node(M:List MO)(tp:List V)(lo:List Nat)(op x:Int)(ks:List T):evalT M tp lo (.node op x ks)=(evalTs M tp lo ks).bind (opF M tp lo op x):=by rw[evalT]
theorem RunR.row{w:World}{B rb fb:Nat}{M:List MO}{tp:List V}{lo:List Nat}{ng:Nat}(h:RunR w B rb fb M tp lo ng):rb<B∧fb<B∧∃hb n cap A,w.cell? ⟨rb,4,none⟩=some (.pointer (some ⟨hb,0,none⟩))∧w.cell? ⟨hb,0,none⟩=some (.slice A n cap)∧MemRG w B A n M∧hb<B:=by
 obtain⟨hb',n,cap,tc,lc,gc,A,TA,LA,GA,h1,h2,h3,h4,h5,h6,h7,h8,h9,h10,h11,h12⟩:=h;exact⟨h10,h11,hb',n,cap,A,h1,h2,h3,h12⟩
end Go.Proofs.YtlenilbkifofjaaGreatDoor
namespace Go.Proofs.YtlenilbkifofjaaGreatDoor
open Go.RowKit
attribute [local go_sem ↓] Go.wp_at_zero Go.wp_at_succ
theorem makesF_size(M:List MO)(l:List ObS):(memBase (makesF M l)).length=(memBase M).length+l.length:=by
 rw[←makesF_base,makesF_length,memBase_twice];split
 ·rename_i h;subst h;rfl
 ·rfl
theorem flat_succ(M:List MO)(k:Nat):flatV (locV (numsF M (k+1)))=flatV (locV (numsF M k))++[.int .i64 (((memBase M).length:Int)+(k:Int)),.int .i64 0]:=by
 rw[numsF_succ];unfold locV;rw[List.map_append,flatV_append];simp[flatV,memBase_length]
end Go.Proofs.YtlenilbkifofjaaGreatDoor
namespace Go.Proofs.YtlenilbkifofjaaGreatDoor
open Go.RowKit
theorem killF_take{M:List MO}{lo:List Nat}{k x:Nat}(h:lo[k]? =some x):killF M (lo.take (k+1))=(killF M (lo.take k)).modify x dead:=by
 rw[take_succ_of h,killF_snoc]
end Go.Proofs.YtlenilbkifofjaaGreatDoor
namespace Go.Proofs.YtlenilbkifofjaaGreatDoor
open Go.RowKit
attribute [local go_sem ↓] Go.wp_at_zero Go.wp_at_succ
structure GOff (base:Nat) (own:Nat→Prop) (rb fb tb:Nat) (lv gv:Value):Prop where
 orb:¬own rb∧base≤rb
 ofb:¬own fb∧base≤fb
 otb:¬own tb∧base≤tb
 olv:∀g,lv.ownBlock=some g→¬own g∧base≤g
 ogv:∀g,gv.ownBlock=some g→¬own g∧base≤g∧g≠tb
 ort:rb≠tb
theorem rowV_own{w:World}{base:Nat}{v:Value}{l:List V}{k:Nat}(h:w.ownsRow base 70 2 v k (flatV l))(hk:l.length=k):∃A cap,v= .slice A k cap∧RowV w w.heap.size A l∧(∀j x,l[j]? =some x→∃b off,A=some ⟨b,off,none⟩∧b<w.heap.size∧v.ownBlock=some b∧ValCells w b (off+j*2) x):=by
 rcases Nat.eq_zero_or_pos k with h0|hp
 ·have hl:l=[]:=List.eq_nil_of_length_eq_zero (by omega);subst hl;rcases h.2 with⟨e,e2⟩|⟨g,cap,cur,e,_⟩
  ·exact⟨none,0,by rw[e,h0],fun j v hj=>by simp at hj,fun j v hj=>by simp at hj⟩
  ·exact⟨_,cap,e,fun j v hj=>by simp at hj,fun j v hj=>by simp at hj⟩
 ·obtain⟨g,cap,e,h1,h2,h3⟩:=ownsRow_vals' h hk hp;refine⟨some ⟨g,0,none⟩,cap,e,fun j x hj=>⟨g,0,rfl,h2,by rw[Nat.zero_add];exact h3 j x hj⟩,fun j x hj=>⟨g,0,rfl,h2,by rw[e];rfl,by rw[Nat.zero_add];exact h3 j x hj⟩⟩
theorem globV_length(n:Nat):(globV n).length=n:=by simp[globV]
theorem locV_length(lo:List Nat):(locV lo).length=lo.length:=by simp[locV]
end Go.Proofs.YtlenilbkifofjaaGreatDoor
namespace Go.Proofs.YtlenilbkifofjaaGreatDoor
open Go.RowKit
structure VOff (base:Nat) (own:Nat→Prop) (rb fb tb:Nat) (lv gv:Value):Prop where
 orb:¬own rb∧base≤rb
 ofb:¬own fb∧base≤fb
 otb:¬own tb∧base≤tb
 olv:∀g,lv.ownBlock=some g→¬own g∧base≤g
 ogv:∀g,gv.ownBlock=some g→¬own g∧base≤g∧g≠tb
 ort:rb≠tb
def afterF(R:CallR)(lo:List Nat)(s:St)(tp:List V)(y:StepS):Bool×St×List V:=
 match evalTs s.mem tp lo y.args with
 |none=>(false,{s with kind:=3},tp)
 |some l=>actF R s tp y l
theorem doesF_after{R:CallR}{fuel:Int}{lo:List Nat}{s:St}{tp:List V}{y:StepS}(h:(stepF fuel 1 s).1=true):doesF R fuel lo s tp y=afterF R lo (stepF fuel 1 s).2 tp y:=by
 unfold doesF afterF;rw[if_neg (by rw[h];simp)];rfl
theorem setT_natV{tp:List V}{m:Nat}{v:V}:setT tp (m:Int) v=tp.set m v:=by
 unfold setT;rw[if_pos (by omega),Int.toNat_natCast]
theorem lmap_info:(Tryz.prog.info? 86).map (fun i=>(i.zero,i.size,i.bytes))=some (some (.map none),1,8):=by kernel_rfl
def LabsSays(l:List InsS)(N:Nat)(w:World)(v:Value)(w':World):Prop:=∃mb n,v= .map (some mb)∧LabM w' mb n (labO l)∧N≤mb∧Below w.heap.size w w'
theorem vlabels_any(c:CodeS)(LA:Option Addr)(lc:Nat)(BA:Option Addr)(bc:Nat)(B:Nat)(w:World)(hB:B≤w.heap.size)(hl:SliceAt w B 6 (InsE w B) c.ins (.slice BA c.ins.length bc))(hlen:c.ins.length≤8000)(hlay:layB [] c.ins=true):
  Calls Tryz.prog 32 #[.agg #[.int .i64 c.params,.int .i64 c.regs,.slice LA c.locs.length lc,.slice BA c.ins.length bc]] w fun e w'=>∃v,e= .returned v∧LabsSays c.ins w.heap.size w v w':=by
 have HL:=Lib.hid (fun(fv:Value)=>vlay_any B (w.heap.size+1) c.ins BA bc (.int .i64 c.params) (.int .i64 c.regs) (.slice LA c.locs.length lc) (.int .i64 0) (.int .i64 0) fv (.map none) ((w.alloc (.cells #[.int .i64 c.params,.int .i64 c.regs,.slice LA c.locs.length lc,.slice BA c.ins.length bc] 39)).alloc (.cells #[.int .i64 c.params,.int .i64 c.regs,.slice LA c.locs.length lc,.slice BA c.ins.length bc,.int .i64 0,.int .i64 0,fv,.map none] 88)) (Row.new' _ _ (by simp)) (hl.below ((below2 w _ _).mono hB) (Nat.le_refl _) (fun _ _ h=>h.below ((below2 w _ _).mono hB) (Nat.le_refl _))) (by omega) hlen);have HLAY:=Lib.hid hlay;clear hl hlay;go_enter Tryz.func32,Tryz.ntmps32;refine wp_letter (fun Q hQ=>?_);have HQ:=Lib.hid hQ;clear hQ;go_wp2_with fail;refine(HL.out _).mono ?_;rintro e w2 ⟨rfl,mb,n,h1,h2,h3,h4,h5,h6⟩;have hmb:=h1
 simp only[World.size_alloc]at hmb;have HM:=Lib.hid (h6 HLAY.out);have k7:=h3.cell (j:=7) rfl;have kl:=h3.lt;have HW:=Lib.hid h4;clear h3 h4 h6;go_wp2_with fail;refine HQ.out _ _ _ ?_;refine bodyPost_ret (v:= .map (some mb)) (by simp[results,Tryz.results32,go_sem]) rfl ⟨_,rfl,mb,n,rfl,HM.out,by omega,?_⟩;exact((Wr.of_below (F:=fun _=>False) (below2 w _ _)).trans HW.out (fun i hi=>Or.inr (by omega))).below (Nat.le_refl _) (fun _ h=>h.elim)
def vrlC(rb:Nat)(lv cv:Value)(l:List InsS)(N:Nat)(W:World):Nat→Value→Prop
 |0,v|1,v|2,v=>v= .pointer (some ⟨rb,0,none⟩)
 |3,v=>v= .pointer (some ⟨rb,6,none⟩)
 |4,v=>v=lv
 |5,v=>v=cv
 |6,v=>∃mb n,v= .map (some mb)∧LabM W mb n (labO l)∧N≤mb
 |7,v=>∃nb mb n,v= .slice (some ⟨nb,0,none⟩) 1 1∧Row W nb #[.map (some mb)] 86∧LabM W mb n (labO l)∧N≤mb
 |_,_=>True
def vrlF(base N:Nat)(lv:Value)(k:Nat)(xs:List Value)(l:List InsS)(w W':World)(v:Value):Prop:=
 ∃W g cap mb n,v= .slice (some ⟨g,0,none⟩) (k+1) cap∧Below w.heap.size w W∧LabM W mb n (labO l)∧N≤mb∧W'.ownsRow base 86 1 v (k+1) (xs++[.map (some mb)])∧W.grownBy W' lv.ownBlock∧(lv.ownBlock=some g∨g=W.heap.size)
theorem num_zero{w:World}{b o:Nat}{v:V}(h:w.cell? ⟨b,o,none⟩=some (.int .i64 v.obj))(hv:v.obj=0):w.cell? ⟨b,o,none⟩=some (.int .i64 0):=by
 rw[hv]at h;exact h
theorem afterF_one{R:CallR}{lo:List Nat}{s:St}{tp:List V}{y:StepS}{r:Int}(h:y.args=[tmpT r]):afterF R lo s tp y=actF R s tp y [tp.getD r.toNat ⟨0,0⟩]:=by
 unfold afterF;rw[h,evalTs_one,evalT_tmp];rfl
theorem afterF_store{R:CallR}{lo:List Nat}{s:St}{tp:List V}{ma md:Nat}{b n:Int}{l:List Int}:afterF R lo s tp (stepI ⟨9,(md:Int),(ma:Int),b,n,l⟩)=match binF twoR (memBase s.mem) 12 (tp.getD ma ⟨0,0⟩) ⟨0,b⟩with
  |none=>(false,{s with kind:=3},tp)
  |some va=>match storeF s.mem n va (tp.getD md ⟨0,0⟩)with
   |some M=>(true,{s with mem:=M},tp)
   |none=>(false,{s with kind:=3},tp):=by
 rw[show stepI ⟨9,(md:Int),(ma:Int),b,n,l⟩=⟨2,-1,n,0,[.node 12 0 [tmpT (ma:Int),conT b],tmpT (md:Int)]⟩from rfl];unfold afterF;simp only;rw[←evalTs_base s.mem,evalTs,evalT_two (by decide) (evalT_tmp _ _ _ _) (evalT_con _ _ _ _),evalTs_one,evalT_tmp,Int.toNat_natCast,Int.toNat_natCast];cases binF twoR (memBase s.mem) 12 (tp.getD ma ⟨0,0⟩) ⟨0,b⟩with
 |none=>rfl
 |some va=>
  show actF R s tp ⟨2,-1,n,0,_⟩ [va,tp.getD md ⟨0,0⟩]=_;unfold actF;simp only[List.getD_cons_zero,List.getD_cons_succ];rw[if_neg (show¬(2:Int)=1 by decide),if_pos trivial];cases storeF s.mem n va (tp.getD md ⟨0,0⟩)<;>rfl
theorem any_ex{es:Array Edge}{j:Nat}(h:es.any (fun e=>decide (e.on=j)&& Region.binds .any e)=true):∃e∈es,e.on=j∧Region.binds .any e=true:=by
 obtain⟨i,hi,h⟩:=Array.any_eq_true.1 h;simp only[Bool.and_eq_true,decide_eq_true_eq]at h;exact⟨es[i],Array.getElem_mem hi,h.1,h.2⟩
def vgtL(rb fb ib cb tb tl m:Nat)(x:Int):List (Value→Prop):=[fun v=>v= .pointer (some ⟨fb,0,none⟩),
 fun v=>v= .pointer (some ⟨fb,0,none⟩),
 fun v=>v= .pointer (some ⟨fb,0,none⟩),
 fun v=>v= .slice (some ⟨tb,0,none⟩) tl tl,
 fun v=>v= .pointer (some ⟨ib,1,none⟩),
 fun v=>v= .int .i64 (m:Nat),
 fun v=>v= .pointer (some ⟨rb,0,none⟩),
 fun v=>v= .pointer (some ⟨rb,0,none⟩),
 fun v=>v= .pointer (some ⟨rb,0,none⟩),
 fun v=>v= .pointer (some ⟨cb,0,none⟩),
 fun _=>True,
 fun v=>v= .pointer (some ⟨tb,m*2,none⟩),
 fun _=>True]
def vgtC(rb fb ib cb tb tl m:Nat)(x:Int)(i:Nat)(v:Value):Prop:=((vgtL rb fb ib cb tb tl m x).getD i (fun _=>True)) v
theorem afterF_get{R:CallR}{lo:List Nat}{s:St}{tp:List V}{m:Nat}{a b n:Int}{l:List Int}:afterF R lo s tp (stepI ⟨12,(m:Int),a,b,n,l⟩)=(true,(getF s).2,tp.set m ⟨0,(getF s).1⟩):=by
 rw[show stepI ⟨12,(m:Int),a,b,n,l⟩=⟨5,(m:Int),0,0,[]⟩from rfl];unfold afterF;simp only;rw[evalTs];show actF R s tp ⟨5,(m:Int),0,0,[]⟩ []=_;unfold actF getF;simp only;rw[if_neg (show¬(5:Int)=1 by decide),if_neg (show¬(5:Int)=2 by decide),if_neg (show¬(5:Int)=3 by decide),if_pos trivial];cases s.inp with
 |nil=>simp only[setT_natV]
 |cons q r=>simp only[setT_natV]
structure VLabs (w:World) (base:Nat) (own:Nat→Prop) (B:Nat) (bv:Value) (v:VirtS):Prop where
 lie:∃lb loff lcap,bv= .slice (some ⟨lb,loff,none⟩) v.funcs.length lcap∧¬own lb∧base≤lb∧lb<B∧∀f c,v.funcs[f]? =some c→∃mb n,w.cell? ⟨lb,loff+f,none⟩=some (.map (some mb))∧LabM w mb n (labO c.ins)∧¬own mb∧base≤mb∧mb<B
theorem VLabs.wr{F:Nat→Prop}{w w':World}{base B:Nat}{own:Nat→Prop}{bv:Value}{v:VirtS}(h:VLabs w base own B bv v)(hw:Wr F w w')(hF:∀k,F k→own k∨B≤k)(hB:B≤w.heap.size):VLabs w' base own B bv v:=by
 obtain⟨lb,loff,lcap,h1,h2,h3,h4,h5⟩:=h.lie;have hn:∀k,¬own k→k<B→¬F k:=fun k h1 h2 h3=>(hF k h3).elim h1 (fun h=>by omega);refine⟨lb,loff,lcap,h1,h2,h3,h4,fun f c hf=>?_⟩;obtain⟨mb,n,g1,g2,g3,g4,g5⟩:=h5 f c hf;exact⟨mb,n,(World.cell?_of_block (a:=⟨lb,loff+f,none⟩) (hw.block lb (by omega) (hn lb h2 h4))).trans g1,g2.wr hw (hn mb g3 g5),g3,g4,g5⟩
theorem VLabs.up{w:World}{base B:Nat}{own own':Nat→Prop}{bv:Value}{v:VirtS}(h:VLabs w base own B bv v)(hu:∀k,own' k→own k∨B≤k):VLabs w base own' B bv v:=by
 obtain⟨lb,loff,lcap,h1,h2,h3,h4,h5⟩:=h.lie;have hn:∀k,¬own k→k<B→¬own' k:=fun k h1 h2 h3=>(hu k h3).elim h1 (fun h=>by omega);refine⟨lb,loff,lcap,h1,hn lb h2 h4,h3,h4,fun f c hf=>?_⟩;obtain⟨mb,n,g1,g2,g3,g4,g5⟩:=h5 f c hf;exact⟨mb,n,g1,g2,hn mb g3 g5,g4,g5⟩
theorem VLabs.mono{w:World}{base B B':Nat}{own:Nat→Prop}{bv:Value}{v:VirtS}(h:VLabs w base own B bv v)(hB:B≤B'):VLabs w base own B' bv v:=by
 obtain⟨lb,loff,lcap,h1,h2,h3,h4,h5⟩:=h.lie;refine⟨lb,loff,lcap,h1,h2,h3,by omega,fun f c hf=>?_⟩;obtain⟨mb,n,g1,g2,g3,g4,g5⟩:=h5 f c hf;exact⟨mb,n,g1,g2,g3,g4,by omega⟩
def argV(tp:List V)(l:List Int):List V:=l.map fun r=>tp.getD r.toNat ⟨0,0⟩
theorem argV_next{tp:List V}{l:List Int}{k:Nat}{r:Int}{v:V}(h:l[k]? =some r)(hv:tp.getD r.toNat ⟨0,0⟩=v):argV tp (l.take (k+1))=argV tp (l.take k)++[v]:=by
 unfold argV;rw[take_succ_of h,List.map_append,←hv];rfl
theorem evalTs_tmps{M:List MO}{tp:List V}{lo:List Nat}:∀l:List Int,evalTs M tp lo (l.map tmpT)=some (argV tp l)
 |[]=>by rw[List.map_nil,evalTs];rfl
 |r::l=>by
  rw[List.map_cons,evalTs,evalT_tmp,evalTs_tmps l];rfl
def callR(r:Option V×St)(tp:List V)(dst:Int):Bool×St×List V:=match r with|(some v,s')=>(true,s',setT tp dst v)|(none,s')=>(false,s',tp)
def nextF(R:CallR)(fuel:Int)(lo:List Nat)(l:List InsS)(s:St)(tp:List V)(k:Nat)(x:InsS):Bool×Int×St×List V:=
 if(stepF fuel 1 s).1=false then(false,0,(stepF fuel 1 s).2,tp)
 else if x.op=17 then(true,-1,(stepF fuel 1 s).2,tp)
 else if x.op=15 then(true,(labN l x.n:Nat),(stepF fuel 1 s).2,tp)
 else if x.op=16 then(true,(if tp.getD x.a.toNat ⟨0,0⟩=⟨0,0⟩then((k+1:Nat):Int)else(labN l x.n:Nat)),(stepF fuel 1 s).2,tp)
 else((afterF R lo (stepF fuel 1 s).2 tp (stepI x)).1,((k+1:Nat):Int),(afterF R lo (stepF fuel 1 s).2 tp (stepI x)).2.1,(afterF R lo (stepF fuel 1 s).2 tp (stepI x)).2.2)
theorem afterF_call{R:CallR}{lo:List Nat}{s:St}{tp:List V}{dst a b n:Int}{l:List Int}:afterF R lo s tp (stepI ⟨10,dst,a,b,n,l⟩)=callR (R n (argV tp l) s) tp dst:=by
 rw[show stepI ⟨10,dst,a,b,n,l⟩=⟨3,dst,0,n,l.map tmpT⟩from rfl];unfold afterF;simp only;rw[evalTs_tmps];show actF R s tp ⟨3,dst,0,n,l.map tmpT⟩ (argV tp l)=_;unfold actF;simp only;rw[if_neg (show¬(3:Int)=1 by decide),if_neg (show¬(3:Int)=2 by decide),if_pos trivial];rcases R n (argV tp l) s with⟨o,s'⟩
 cases o<;>rfl
theorem flatV_at(l:List V):∀(i:Nat)(u:Value),(flatV l)[i]? =some u→∃v,l[i/2]? =some v∧((i%2=0∧u= .int .i64 v.obj)∨(i%2=1∧u= .int .i64 v.n)):=by
 induction l with
 |nil=>intro i u h;simp[flatV]at h
 |cons v l ih=>
  intro i u h
  match i,h with
  |0,h=>simp[flatV]at h;exact⟨v,by simp,Or.inl ⟨rfl,h.symm⟩⟩
  |1,h=>simp[flatV]at h;exact⟨v,by simp,Or.inr ⟨rfl,h.symm⟩⟩
  |i+2,h=>
   simp only[flatV,List.getElem?_cons_succ]at h;obtain⟨x,h1,h2⟩:=ih i u h;exact⟨x,by rw[show(i+2)/2=i/2+1 by omega,List.getElem?_cons_succ];exact h1,by rw[show(i+2)%2=i%2 by omega];exact h2⟩
theorem flatV_cell1(l:List V):∀v∈flatV l,v.oneCell'=true:=by
 intro u hu;obtain⟨i,hi⟩:=List.mem_iff_getElem?.1 hu;obtain⟨v,_,h⟩:=flatV_at l i u hi;rcases h with⟨_,rfl⟩|⟨_,rfl⟩<;>rfl
theorem flatV_cells{w:World}{b off:Nat}{l:List V}(h:∀j v,l[j]? =some v→ValCells w b (off+j*2) v)(i:Nat)(u:Value)(hi:(flatV l)[i]? =some u):w.cell? ((⟨b,off,none⟩:Addr).add i)=some u:=by
 have hadd:(⟨b,off,none⟩:Addr).add i=⟨b,off+i,none⟩:=by unfold Addr.add;split<;>simp_all
 rw[hadd];obtain⟨v,h1,h2⟩:=flatV_at l i u hi;obtain⟨c0,c1⟩:=h _ _ h1;rcases h2 with⟨e,rfl⟩|⟨e,rfl⟩
 ·rw[show off+i=off+i/2*2 by omega];exact c0
 ·rw[show off+i=off+i/2*2+1 by omega];exact c1
theorem run_copy_vals{P:Program}(w:World)(dT sT ty elem:TypeId)(g dLen dCap:Nat)(sp:Option Addr)(sLen sCap:Nat)(cur:Array Value)(t:TypeId)(l:List V)
  (hu:P.underlying dT=some (.slice elem))(hs:(P.info? elem).map (·.size)=some 2)(hg:w.heap[g]? =some (.cells cur t (0,0)))(hn:l.length=Nat.min sLen dLen)
  (hsrc:∀j v,l[j]? =some v→∃b off,sp=some ⟨b,off,none⟩∧ValCells w b (off+j*2) v)(hfit:l.length*2≤cur.size):
  ∃w',(Builtin.copy_ #[dT,sT] ty #[.slice (some ⟨g,0,none⟩) dLen dCap,.slice sp sLen sCap]).run P w= .ok (goInt l.length) w'∧Row w' g (flatV l++cur.toList.drop (l.length*2)).toArray t∧Wr (fun i=>i=g) w w':=by
 cases hq:P.info? elem with
 |none=>simp[hq]at hs
 |some i=>
  have hi:i.size=2:=by simpa [hq]using hs
  by_cases h0:l=[]
  ·subst h0;have hz:∀(x:Addr),(loadCells x 0).run P w= .ok #[] w:=fun x=>by simpa using run_loadCells_list (P:=P) w x [] (by simp)
   refine⟨w,?_,(by have:=hg;simp only[flatV,List.length_nil,Nat.zero_mul,List.drop_zero,List.nil_append,Array.toArray_toList];exact this),Wr.refl _ _⟩;cases sp<;>simp[Builtin.copy_,run_underlying hu,Builtin.lenOf,Builtin.firstCells,sizeOf,typeInfo,hq,hi,←hn,storeCells,hz]
  ·obtain⟨b,off,rfl⟩:∃b off,sp=some ⟨b,off,none⟩:=by
    cases l with
    |nil=>exact absurd rfl h0
    |cons v l=>obtain⟨b,off,h,_⟩:=hsrc 0 v rfl;exact⟨b,off,h⟩
   have hc:=flatV_cells (w:=w) (b:=b) (off:=off) (l:=l) (fun j v hj=>by obtain⟨b',off',h,h'⟩:=hsrc j v hj;injection h with h;injection h with e1 e2;subst e1 e2;exact h');have hl:=run_loadCells_list (P:=P) w ⟨b,off,none⟩ (flatV l) hc;rw[flatV_length]at hl;have hst:=run_storeCells_at P g 0 t (flatV l) 0 cur w hg (by rw[flatV_length];omega) (flatV_cell1 l);refine⟨w.setRow g (flatV l++cur.toList.drop (l.length*2)).toArray,?_,setRow_heap w g _ _ t _ hg,⟨rfl,rfl,rfl,by simp[World.setRow],fun k hk hne=>setRow_other w g k _ hne⟩⟩;simp only[Nat.add_zero,List.take_zero,List.nil_append,Nat.zero_add,flatV_length]at hst;simp[Builtin.copy_,run_underlying hu,Builtin.lenOf,Builtin.firstCells,sizeOf,typeInfo,hq,hi,←hn,hl,hst]
theorem wpList_copy_vals{P:Program}{w:World}{ops:Array Oper}{rest:List Oper}{o:Oper}{a:Act}{Q:Exit→Act→World→Prop}(hgd:o.guard=none)(d s:Operand)(dT sT:TypeId)
  (ho:o.op= .call {callee:= .builtin .copy,args:=#[d,s],argTypes:=#[dT,sT]})(elem:TypeId)(hu:P.underlying dT=some (.slice elem))(hs:(P.info? elem).map (·.size)=some 2)
  (g dLen dCap:Nat)(sp:Option Addr)(sLen sCap:Nat)(hd:a.eval d= .slice (some ⟨g,0,none⟩) dLen dCap)(hsv:a.eval s= .slice sp sLen sCap)
  (cur:Array Value)(t:TypeId)(l:List V)(hg:Row w g cur t)(hn:l.length=Nat.min sLen dLen)
  (hsrc:∀j v,l[j]? =some v→∃b off,sp=some ⟨b,off,none⟩∧ValCells w b (off+j*2) v)(hfit:l.length*2≤cur.size)
  (h:∀w',Row w' g (flatV l++cur.toList.drop (l.length*2)).toArray t→Wr (fun i=>i=g) w w'→wpList P ops Q rest (a.put o.dst (goInt l.length)) w'):wpList P ops Q (o::rest) a w:=by
 obtain⟨w',hrun,hr,hw⟩:=run_copy_vals (P:=P) w dT sT o.type elem g dLen dCap sp sLen sCap cur t l hu hs hg hn hsrc hfit;refine wpList_plain hgd fun K hK=>?_;unfold Oper.wp;simp[execOp,ho,resolve,invoke,builtin,hd,hsv,hrun,Result.andThen];exact hK _ _ (h w' hr hw)
theorem start_vals{cur:Array Value}{nt:Nat}{l:List V}(hc:ValsIn cur (List.replicate nt ⟨0,0⟩))(hl:l.length≤nt):ValsIn (flatV l++cur.toList.drop (l.length*2)).toArray (startF nt l):=by
 obtain⟨h1,h2⟩:=hc;simp only[List.length_replicate]at h1;refine⟨by simp[startF,flatV_length,h1];omega,fun j v hj=>?_⟩;unfold startF at hj;simp only[List.getElem?_toArray];rcases Nat.lt_or_ge j l.length with hlt|hge
 ·rw[List.getElem?_append_left hlt]at hj;have hf:∀(l:List V)(j:Nat)(v:V),l[j]? =some v→(flatV l)[j*2]? =some (.int .i64 v.obj)∧(flatV l)[j*2+1]? =some (.int .i64 v.n):=by
   intro l
   induction l with
   |nil=>intro j v h;simp at h
   |cons x l ih=>
    intro j v h;cases j with
    |zero=>simp at h;subst h;simp[flatV]
    |succ j=>
     simp only[List.getElem?_cons_succ]at h;obtain⟨a,b⟩:=ih j v h;rw[show(j+1)*2=j*2+1+1 by omega,show j*2+1+1+1=j*2+1+1+1 from rfl];simp only[flatV,List.getElem?_cons_succ];exact⟨a,b⟩
  obtain⟨a,b⟩:=hf l j v hj;rw[List.getElem?_append_left (by rw[flatV_length];omega),List.getElem?_append_left (by rw[flatV_length];omega)];exact⟨a,b⟩
 ·rw[List.getElem?_append_right hge]at hj;have hj':(List.replicate nt (⟨0,0⟩:V))[j]? =some v:=by
   rw[List.getElem?_replicate]at hj ⊢;split at hj
   ·rw[if_pos (by omega)];exact hj
   ·cases hj
  obtain⟨a,b⟩:=h2 j v hj';rw[List.getElem?_append_right (by rw[flatV_length];omega),List.getElem?_append_right (by rw[flatV_length];omega),List.getElem?_drop,List.getElem?_drop,flatV_length];rw[show l.length*2+(j*2-l.length*2)=j*2 by omega,show l.length*2+(j*2+1-l.length*2)=j*2+1 by omega];simp only[Array.getElem?_toList];exact⟨a,b⟩
theorem setcells_wrV(w:World)(b:Nat)(u v:Value):Wr (fun i=>i=b) w ((w.setCell ⟨b,0,none⟩ u).setCell ⟨b,1,none⟩ v):=wr_pair w b 0 1 u v
end Go.Proofs.YtlenilbkifofjaaGreatDoor
namespace Go.Proofs.YtlenilbkifofjaaGreatDoor
open Go.RowKit
theorem numsF_posV{M:List MO}{n x:Nat}(h:x∈numsF M n):1≤x:=by
 unfold numsF at h;simp only[List.mem_map,List.mem_range]at h;obtain⟨i,_,rfl⟩:=h;split
 ·omega
 ·rename_i hM;have:=List.length_pos_iff.2 hM;omega
section
variable {base cb hb rb fb tb:Nat} {own:Nat→Prop} {fuel:Int} {P:Value×Value×Value} {gv bv lv:Value} {mb nl:Nat} {lf:Int→Option Nat} {vp:VirtS} {lo:List Nat} {ng nt:Nat} {c:Int} {gc:Array Value} {w:World} {own2:Nat→Prop} {st:St} {tp:List V} {wr wr':World}
end
end Go.Proofs.YtlenilbkifofjaaGreatDoor
namespace Go.Proofs.YtlenilbkifofjaaGreatDoor
open Go.RowKit
end Go.Proofs.YtlenilbkifofjaaGreatDoor
namespace Go.Proofs.YtlenilbkifofjaaGreatDoor
open Go.RowKit
section
variable {R:CallR} {fuel:Int} {lo:List Nat} {l:List InsS} {x:InsS} {k:Nat} {s:St} {tp:List V}
theorem doesF_dryV{y:StepS}(h:(stepF fuel 1 s).1=false):doesF R fuel lo s tp y=(false,(stepF fuel 1 s).2,tp):=by
 unfold doesF;rw[if_pos h]
theorem afterF_exit(h:x.op=13):(afterF R lo s tp (stepI x)).1=false:=by
 obtain⟨op,dst,a,b,n,arg⟩:=x;simp only at h;subst h;rw[show stepI ⟨13,dst,a,b,n,arg⟩=⟨6,-1,0,0,[tmpT a]⟩from rfl,afterF_one (r:=a) rfl];unfold actF;simp only[List.getD_cons_zero];rw[if_neg (show¬(6:Int)=1 by decide),if_neg (show¬(6:Int)=2 by decide),if_neg (show¬(6:Int)=3 by decide),if_neg (show¬(6:Int)=5 by decide)];by_cases hz:(tp.getD a.toNat ⟨0,0⟩).obj>0
 ·rw[if_pos hz]
 ·rw[if_neg hz];rfl
theorem goI_false(h:l[k]? =some x)(g:Nat)(hr:(nextF R fuel lo l s tp k x).1=false):blocksF R fuel lo (blocksI l) (g+1) (k:Nat) s tp=(none,(nextF R fuel lo l s tp k x).2.2.1):=by
 cases hy:(stepF fuel 1 s).1 with
 |false=>
  have e:(nextF R fuel lo l s tp k x).2.2.1=(stepF fuel 1 s).2:=by unfold nextF;rw[if_pos hy]
  rw[e];by_cases hx:Straight x
  ·rw[goI_over h hx g (by rw[doesF_dryV hy]),doesF_dryV hy]
  ·exact goI_dry h hx g hy
 |true=>
  by_cases h17:x.op=17
  ·unfold nextF at hr;rw[if_neg (by rw[hy];simp),if_pos h17]at hr;cases hr
  by_cases h15:x.op=15
  ·unfold nextF at hr;rw[if_neg (by rw[hy];simp),if_neg h17,if_pos h15]at hr;cases hr
  by_cases h16:x.op=16
  ·unfold nextF at hr;rw[if_neg (by rw[hy];simp),if_neg h17,if_neg h15,if_pos h16]at hr;cases hr
  have e:nextF R fuel lo l s tp k x=((afterF R lo (stepF fuel 1 s).2 tp (stepI x)).1,((k+1:Nat):Int),(afterF R lo (stepF fuel 1 s).2 tp (stepI x)).2.1,(afterF R lo (stepF fuel 1 s).2 tp (stepI x)).2.2):=by unfold nextF;rw[if_neg (by rw[hy];simp),if_neg h17,if_neg h15,if_neg h16]
  rw[e]at hr ⊢;rw[goI_over h ⟨h15,h16,h17⟩ g (by rw[doesF_after hy];exact hr),doesF_after hy]
theorem goI_end(h:l[k]? =some x)(g:Nat)(hx:x.op=17)(hr:(nextF R fuel lo l s tp k x).1=true):blocksF R fuel lo (blocksI l) (g+1) (k:Nat) s tp=(some (tp.getD x.a.toNat ⟨0,0⟩),{(nextF R fuel lo l s tp k x).2.2.1 with mem:=killF (nextF R fuel lo l s tp k x).2.2.1.mem lo,calls:=(nextF R fuel lo l s tp k x).2.2.1.calls-1})∧(nextF R fuel lo l s tp k x).2.2.2=tp∧(nextF R fuel lo l s tp k x).2.1= -1:=by
 cases hy:(stepF fuel 1 s).1 with
 |false=>unfold nextF at hr;rw[if_pos hy]at hr;cases hr
 |true=>
  have e:nextF R fuel lo l s tp k x=(true,-1,(stepF fuel 1 s).2,tp):=by unfold nextF;rw[if_neg (by rw[hy];simp),if_pos hx]
  rw[e];exact⟨goI_ret h hx g hy,rfl,rfl⟩
theorem goI_true(h:l[k]? =some x)(hlast:x.op≠15→x.op≠13→x.op≠17→k+1<l.length)(hlab:x.op=15∨x.op=16→labN l x.n<l.length)(g:Nat)(hx:x.op≠17)(hr:(nextF R fuel lo l s tp k x).1=true):∃(g':Nat)(k':Nat),(nextF R fuel lo l s tp k x).2.1=(k':Int)∧k'<l.length∧
  (Straight x→g'=g+1∧k'=k+1)∧(¬Straight x→g'=g)∧blocksF R fuel lo (blocksI l) (g+1) (k:Nat) s tp=blocksF R fuel lo (blocksI l) g' (k':Nat) (nextF R fuel lo l s tp k x).2.2.1 (nextF R fuel lo l s tp k x).2.2.2:=by
 cases hy:(stepF fuel 1 s).1 with
 |false=>unfold nextF at hr;rw[if_pos hy]at hr;cases hr
 |true=>
  by_cases h15:x.op=15
  ·have e:nextF R fuel lo l s tp k x=(true,((labN l x.n:Nat):Int),(stepF fuel 1 s).2,tp):=by unfold nextF;rw[if_neg (by rw[hy];simp),if_neg hx,if_pos h15]
   rw[e];exact⟨g,labN l x.n,rfl,hlab (Or.inl h15),fun hs=>absurd h15 hs.1,fun _=>rfl,goI_jump h h15 g hy⟩
  by_cases h16:x.op=16
  ·have e:nextF R fuel lo l s tp k x=(true,(if tp.getD x.a.toNat ⟨0,0⟩=⟨0,0⟩then((k+1:Nat):Int)else(labN l x.n:Nat)),(stepF fuel 1 s).2,tp):=by unfold nextF;rw[if_neg (by rw[hy];simp),if_neg hx,if_neg h15,if_pos h16]
   rw[e,goI_branch h h16 g hy];by_cases hz:tp.getD x.a.toNat ⟨0,0⟩=⟨0,0⟩
   ·rw[if_pos hz];exact⟨g,k+1,rfl,hlast h15 (by omega) hx,fun hs=>absurd h16 hs.2.1,fun _=>rfl,rfl⟩
   ·rw[if_neg hz];exact⟨g,labN l x.n,rfl,hlab (Or.inr h16),fun hs=>absurd h16 hs.2.1,fun _=>rfl,rfl⟩
  have e:nextF R fuel lo l s tp k x=((afterF R lo (stepF fuel 1 s).2 tp (stepI x)).1,((k+1:Nat):Int),(afterF R lo (stepF fuel 1 s).2 tp (stepI x)).2.1,(afterF R lo (stepF fuel 1 s).2 tp (stepI x)).2.2):=by unfold nextF;rw[if_neg (by rw[hy];simp),if_neg hx,if_neg h15,if_neg h16]
  rw[e]at hr ⊢;simp only at hr ⊢;have h13:x.op≠13:=fun h13=>by rw[afterF_exit h13]at hr;cases hr
  refine⟨g+1,k+1,rfl,hlast h15 h13 hx,fun _=>⟨rfl,rfl⟩,fun hs=>absurd ⟨h15,h16,hx⟩ hs,?_⟩;rw[goI_straight h ⟨h15,h16,hx⟩ (hlast h15 h13 hx) g,doesF_after hy];rcases hd:afterF R lo (stepF fuel 1 s).2 tp (stepI x)with⟨ok,s',tp'⟩
  rw[hd]at hr;simp only at hr;subst hr;rfl
theorem last_more{c:CodeS}(h:lastB c=true){x:InsS}{k:Nat}(hk:c.ins[k]? =some x)(h15:x.op≠15)(h13:x.op≠13)(h17:x.op≠17):k+1<c.ins.length:=by
 have hkl:k<c.ins.length:=(List.getElem?_eq_some_iff.1 hk).1;rcases Nat.lt_or_ge (k+1) c.ins.length with h'|h'
 ·exact h'
 ·exfalso;have hke:c.ins.length-1=k:=by omega
  unfold lastB at h;rw[hke,List.getD_eq_getElem?_getD,hk]at h;simp at h;omega
theorem lab_lt_of{c:CodeS}{ng nf:Nat}{par:Int→Int→Bool}{x:InsS}(hi:InsOk c ng nf par x)(h:x.op=15∨x.op=16):labN c.ins x.n<c.ins.length:=by
 have hn:=hi.num;rcases h with h|h
 ·exact labN_lt (by simpa [numberI,h]using hn)
 ·exact labN_lt (by simpa [numberI,h]using hn)
theorem GKept.ticked(hI:GInv fuel s)(hy:(stepF fuel 1 s).1=true):GKept fuel s (stepF fuel 1 s).2:=by
 obtain⟨e1,hI1⟩:=hI.tick (by omega) hy;rw[e1];exact⟨hI1,rfl,Nat.le_refl _,show s.steps≤s.steps+1 by omega⟩
theorem next_kept{p:ProgS}{nt nl:Nat}(hR:∀c,RKept p fuel c R)(hI:GInv fuel s)(hF:FrOk (memBase s.mem) tp lo p.globs.length)(ht:tp.length=nt)(hl:lo.length=nl)(hx:Straight x→StepOkG p nt nl (stepI x))(hr:(nextF R fuel lo l s tp k x).1=true):
  GKept fuel s (nextF R fuel lo l s tp k x).2.2.1∧FrOk (memBase (nextF R fuel lo l s tp k x).2.2.1.mem) (nextF R fuel lo l s tp k x).2.2.2 lo p.globs.length∧(nextF R fuel lo l s tp k x).2.2.2.length=tp.length∧(¬Straight x→(nextF R fuel lo l s tp k x).2.2.1.steps=s.steps+1):=by
 cases hy:(stepF fuel 1 s).1 with
 |false=>unfold nextF at hr;rw[if_pos hy]at hr;cases hr
 |true=>
  obtain⟨e1,hI1⟩:=hI.tick (by omega) hy;have hk:=GKept.ticked hI hy;have hm:memBase (stepF fuel 1 s).2.mem=memBase s.mem:=by rw[stepF_mem]
  have hst:(stepF fuel 1 s).2.steps=s.steps+1:=by rw[e1]
  by_cases h17:x.op=17
  ·have e:nextF R fuel lo l s tp k x=(true,-1,(stepF fuel 1 s).2,tp):=by unfold nextF;rw[if_neg (by rw[hy];simp),if_pos h17]
   rw[e];exact⟨hk,by show FrOk (memBase (stepF fuel 1 s).2.mem) tp lo _;rw[hm];exact hF,rfl,fun _=>hst⟩
  by_cases h15:x.op=15
  ·have e:nextF R fuel lo l s tp k x=(true,((labN l x.n:Nat):Int),(stepF fuel 1 s).2,tp):=by unfold nextF;rw[if_neg (by rw[hy];simp),if_neg h17,if_pos h15]
   rw[e];exact⟨hk,by show FrOk (memBase (stepF fuel 1 s).2.mem) tp lo _;rw[hm];exact hF,rfl,fun _=>hst⟩
  by_cases h16:x.op=16
  ·have e:nextF R fuel lo l s tp k x=(true,(if tp.getD x.a.toNat ⟨0,0⟩=⟨0,0⟩then((k+1:Nat):Int)else(labN l x.n:Nat)),(stepF fuel 1 s).2,tp):=by unfold nextF;rw[if_neg (by rw[hy];simp),if_neg h17,if_neg h15,if_pos h16]
   rw[e];exact⟨hk,by show FrOk (memBase (stepF fuel 1 s).2.mem) tp lo _;rw[hm];exact hF,rfl,fun _=>hst⟩
  have hs:Straight x:=⟨h15,h16,h17⟩
  have e:nextF R fuel lo l s tp k x=((afterF R lo (stepF fuel 1 s).2 tp (stepI x)).1,((k+1:Nat):Int),(afterF R lo (stepF fuel 1 s).2 tp (stepI x)).2.1,(afterF R lo (stepF fuel 1 s).2 tp (stepI x)).2.2):=by unfold nextF;rw[if_neg (by rw[hy];simp),if_neg h17,if_neg h15,if_neg h16]
  rw[e]at hr ⊢;simp only at hr ⊢;obtain⟨q1,q2,q3⟩:=does_kept (x:=stepI x) (s':=(afterF R lo (stepF fuel 1 s).2 tp (stepI x)).2.1) (tp':=(afterF R lo (stepF fuel 1 s).2 tp (stepI x)).2.2) hR hI hF ht hl (hx hs) (by rw[doesF_after hy,←hr]);exact⟨q1,q2,q3,fun h=>absurd hs h⟩
end
end Go.Proofs.YtlenilbkifofjaaGreatDoor
namespace Go.Proofs.YtlenilbkifofjaaGreatDoor
open Go.RowKit
theorem vmay_codes{v:VirtS}(h:vmayB v=true){c:CodeS}(hc:c∈v.funcs):codeB c v.globs.length v.funcs.length (parV v)=true:=by
 unfold vmayB at h;by_cases hh:vmayP v
 ·rw[if_pos hh]at h;exact List.all_eq_true.1 h c hc
 ·rw[if_neg hh]at h;cases h
theorem virtG_get{p:VirtS}{f:Nat}{g:CodeS}(hg:p.funcs[f]? =some g):(virtG p).funcs[f]? =some (codeG g):=by
 show(p.funcs.map codeG)[f]? =_;rw[List.getElem?_map,hg];rfl
theorem doesF_dry{R:CallR}{fuel:Int}{lo:List Nat}{s:St}{tp:List V}{x:StepS}(h:(stepF fuel 1 s).1=false):doesF R fuel lo s tp x=(false,(stepF fuel 1 s).2,tp):=by
 unfold doesF;rw[if_pos h]
theorem doesF_fail{R:CallR}{fuel:Int}{lo:List Nat}{s:St}{tp:List V}{x:StepS}(h:(stepF fuel 1 s).1=true)(he:evalTs s.mem tp lo x.args=none):doesF R fuel lo s tp x=(false,{(stepF fuel 1 s).2 with kind:=3},tp):=by
 unfold doesF;rw[if_neg (by rw[h];simp),stepF_mem,he]
theorem setT_nat{tp:List V}{m:Nat}{v:V}:setT tp (m:Int) v=tp.set m v:=by
 unfold setT;rw[if_pos (by omega)];rfl
theorem int_zero{w:World}{b o:Nat}{v:V}(h:w.cell? ⟨b,o,none⟩=some (.int .i64 v.obj))(hv:v.obj=0):w.cell? ⟨b,o,none⟩=some (.int .i64 0):=by
 rw[hv]at h;exact h
theorem int_zero0{w:World}{b:Nat}{v:V}(h:w.cell? ⟨b,0,none⟩=some (.int .i64 v.obj))(hv:v.obj=0):w.cell? ⟨b,0,none⟩=some (.int .i64 0):=int_zero h hv
end Go.Proofs.YtlenilbkifofjaaGreatDoor
namespace Go.Proofs.YtlenilbkifofjaaGreatDoor
open Go.RowKit
def BlkAns:Goes→Int→Int→Int→Bool→Prop
 | .over,_,_,_,ok=>ok=false
 | .next j,k,_,_,ok=>ok=true∧k=j
 | .ret v,k,y0,y1,ok=>ok=true∧k= -1∧y0=v.obj∧y1=v.n
section
variable {base cb hb rb fb tb:Nat} {own:Nat→Prop} {fuel:Int} {P:Value×Value×Value} {gv lv:Value} {lo:List Nat} {ng nt:Nat} {s:St} {bc:Array Value} {w:World} {own2:Nat→Prop} {st:St} {tp:List V} {wr wr':World}
end
theorem then_mono{K:Act→World→Prop}{X Y:Exit→Act→World→Prop}{e:Exit}{a:Act}{w:World}(h:∀e a w,X e a w→Y e a w)(hx:Exit.then K X e a w):Exit.then K Y e a w:=by
 cases e<;>first|exact hx|exact h _ _ _ hx
theorem setcells_wr(w:World)(r:Nat)(a b:Value):Wr (fun i=>i=r) w ((w.setCell ⟨r,0,none⟩ a).setCell ⟨r,1,none⟩ b):=wr_pair w r 0 1 a b
theorem setdrew_wr(w:World)(r:Nat)(a b:Value):Wr (fun i=>i=r) w ((w.drew.setCell ⟨r,0,none⟩ a).setCell ⟨r,1,none⟩ b):=((Wr.refl _ w).drewR).trans (setcells_wr w.drew r a b) (fun _ h=>Or.inl h)
theorem blockF_dry2{R:CallR}{fuel:Int}{lo:List Nat}{s st:St}{tp tp2:List V}{b:BlockS}(h:stepsF R fuel lo s tp b.steps=(true,st,tp2))(hy:(stepF fuel 1 st).1=false):blockF R fuel lo s tp b=(.over,(stepF fuel 1 st).2,tp2):=by
 simp only[blockF,h,hy,if_true]
theorem blockF_jump{R:CallR}{fuel:Int}{lo:List Nat}{s st:St}{tp tp2:List V}{b:BlockS}(h:stepsF R fuel lo s tp b.steps=(true,st,tp2))(hy:(stepF fuel 1 st).1=true)(hf:b.fin=1):blockF R fuel lo s tp b=(.next b.next,(stepF fuel 1 st).2,tp2):=by
 simp only[blockF,h,hy,hf,if_true];rfl
theorem blockF_fail{R:CallR}{fuel:Int}{lo:List Nat}{s st:St}{tp tp2:List V}{b:BlockS}(h:stepsF R fuel lo s tp b.steps=(true,st,tp2))(hy:(stepF fuel 1 st).1=true)(hf:b.fin≠1)(hv:evalT (stepF fuel 1 st).2.mem tp2 lo b.cond=none):blockF R fuel lo s tp b=(.over,{(stepF fuel 1 st).2 with kind:=3},tp2):=by
 simp only[blockF,h,hy,hf,if_false,hv];rfl
theorem blockF_ret{R:CallR}{fuel:Int}{lo:List Nat}{s st:St}{tp tp2:List V}{b:BlockS}{v:V}(h:stepsF R fuel lo s tp b.steps=(true,st,tp2))(hy:(stepF fuel 1 st).1=true)(hf:b.fin=3)(hv:evalT (stepF fuel 1 st).2.mem tp2 lo b.cond=some v):blockF R fuel lo s tp b=(.ret v,(stepF fuel 1 st).2,tp2):=by
 simp only[blockF,h,hy,hf,hv];rfl
theorem blockF_branch{R:CallR}{fuel:Int}{lo:List Nat}{s st:St}{tp tp2:List V}{b:BlockS}{v:V}(h:stepsF R fuel lo s tp b.steps=(true,st,tp2))(hy:(stepF fuel 1 st).1=true)(hf:b.fin=2)(hv:evalT (stepF fuel 1 st).2.mem tp2 lo b.cond=some v):blockF R fuel lo s tp b=(.next (if v=⟨0,0⟩then b.els else b.next),(stepF fuel 1 st).2,tp2):=by
 simp only[blockF,h,hy,hf,hv];rfl
end Go.Proofs.YtlenilbkifofjaaGreatDoor
namespace Go.Proofs.YtlenilbkifofjaaGreatDoor
open Go.RowKit
end Go.Proofs.YtlenilbkifofjaaGreatDoor
namespace Go.Proofs.YtlenilbkifofjaaGreatDoor
open Go.RowKit
theorem numsF_pos{M:List MO}{n x:Nat}(h:x∈numsF M n):1≤x:=by
 unfold numsF at h;simp only[List.mem_map,List.mem_range]at h;obtain⟨i,_,rfl⟩:=h;split
 ·omega
 ·rename_i hM;have:=List.length_pos_iff.2 hM;omega
section
variable {base cb hb rb fb tb:Nat} {own:Nat→Prop} {fuel:Int} {P:Value×Value×Value} {gv lv:Value} {lo:List Nat} {ng nt:Nat} {c:Int} {gc:Array Value} {w:World} {own2:Nat→Prop} {st:St} {tp:List V} {wr wr':World}
end
end Go.Proofs.YtlenilbkifofjaaGreatDoor
namespace Go.Proofs.YtlenilbkifofjaaGreatDoor
open Go.RowKit
def s00(inp:List Int):St:=⟨inp,0,0,[],0,0,0,[]⟩
theorem runF_main{p:ProgS}{inp:List Int}{fuel:Int}{f:Nat}(h:p.main=(f:Nat)):runF p inp fuel=endF (callF p fuel (63+1) f [] {s00 inp with mem:=makesF [] p.globs}):=by
 simp only[runF,h,s00,Nat.reduceAdd]
theorem ProgAt.up{w:World}{B B':Nat}{P:Value×Value×Value}{p:ProgS}(h:ProgAt w B P p)(hB:B≤B'):ProgAt w B' P p:=
 ⟨h.1.below (Below.refl _ _) hB fun _ _ h=>h.below (Below.refl _ _) hB,h.2.1.below (Below.refl _ _) hB fun _ _ h=>h.below (Below.refl _ _) hB,h.2.2⟩
def GRunSays(o:OutS)(base:Nat)(w:World)(e:Ending)(w':World):Prop:=
 ∃outv,e= .returned (.tuple #[.agg #[.int .i64 o.kind,.int .i64 o.code,outv,.int .i64 o.steps,.int .i64 o.deep],.int .i64 0])∧w'.ownsRow base 2 1 outv o.out.length (o.out.map (Value.int .i64))∧Below w.heap.size w w'
theorem memOk_zero:MemOk [⟨0,[],false⟩]:=
 ⟨by simp,fun o h=>by simpa using h.symm,fun k o h1 h2=>by rw[List.getElem?_cons]at h2;split at h2<;>first|omega|(simp at h2),fun o ho v hv=>by simp at ho;subst ho;simp at hv⟩
theorem numOk_zero:NumOk [⟨0,[],false⟩]:=fun o h=>by simp at h;subst h;simp
theorem s00_inv{fuel:Int}(hf:0≤fuel){inp:List Int}(hin:∀x,x∈inp→In64 x){l:List ObS}(hob:∀o,o∈l→ObOk o∧∀x,x∈o.init→In64 x)(hl:l.length≤16):GInv fuel {s00 inp with mem:=makesF [] l}∧(memBase (makesF [] l)).length=l.length+1:=by
 have h1:=memBase_makes [] l;have h2:(memBase ([]:List MO)).length=1:=rfl;have h3:MemOk (memBase (makesF [] l)):=makes_ok l (M:=[]) memOk_zero hob (by omega);refine⟨⟨rfl,Int.le_refl _,hf,?_,Nat.zero_le _,Int.le_refl _,Int.le_refl _,hin,h3,?_⟩,by omega⟩
 ·show(memBase (makesF [] l)).length≤20+_;omega
 ·show NumOk (memBase (makesF [] l));rw[←makesF_base];exact numOk_zero.makes l
theorem InW.in64{w:World}{B:Nat}{v:Value}{l:List Int}(h:InW w B v l):∀x,x∈l→In64 x:=by
 intro x hx;obtain⟨j,hj⟩:=List.mem_iff_getElem?.1 hx;have hlt:0<l.length:=List.length_pos_of_mem hx;obtain⟨A,cap,_,_,_,h3⟩:=h;obtain⟨b,off,_,_,hc⟩:=h3 hlt;exact(hc j x hj).2
theorem setcells5(w:World)(r:Nat)(a b c d e:Value):Wr (fun i=>i=r) w (((((w.setCell ⟨r,0,none⟩ a).setCell ⟨r,1,none⟩ b).setCell ⟨r,2,none⟩ c).setCell ⟨r,3,none⟩ d).setCell ⟨r,4,none⟩ e):=
 (((((Wr.cell1 w r 0 a).trans (Wr.cell1 _ r 1 b) (fun _ h=>Or.inl h)).trans (Wr.cell1 _ r 2 c) (fun _ h=>Or.inl h)).trans (Wr.cell1 _ r 3 d) (fun _ h=>Or.inl h)).trans (Wr.cell1 _ r 4 e) (fun _ h=>Or.inl h))
theorem globV_nums(n:Nat):globV n=locV (numsF [] n):=by
 unfold globV locV numsF;rw[List.map_map];refine List.map_congr_left (fun i _=>?_);simp[Nat.add_comm]
theorem slice_of_own{w:World}{base:Nat}{e:TypeId}{size:Nat}{v:Value}{n:Nat}{xs:List Value}(h:w.ownsRow base e size v n xs):∃A c,v= .slice A n c:=by
 rcases h.2 with⟨e,e'⟩|⟨gg,cap,cur,e,_⟩
 ·exact⟨none,0,by rw[e,e']⟩
 ·exact⟨_,_,e⟩
theorem endF_ret{v:V}{s:St}:endF (some v,s)=endF (none,if v.obj>0 then {s with kind:=3}else {s with code:=v.n,kind:=1}):=by
 unfold endF;by_cases h:v.obj>0
 ·simp only[h,if_true]
 ·simp only[h,if_false]
theorem VirtAt.up{w:World}{B B':Nat}{P:Value×Value×Value}{p:VirtS}(h:VirtAt w B P p)(hB:B≤B'):VirtAt w B' P p:=
 ⟨h.1.below (Below.refl _ _) hB fun _ _ h=>h.below (Below.refl _ _) hB,h.2.1.below (Below.refl _ _) hB fun _ _ h=>h.below (Below.refl _ _) hB,h.2.2⟩
def LabRow(w:World)(N k:Nat)(xs:List Value)(v:VirtS):Prop:=∀(f:Nat)(c:CodeS),f<k→v.funcs[f]? =some c→∃mb n,xs[f]? =some (.map (some mb))∧LabM w mb n (labO c.ins)∧N≤mb
theorem LabRow.wr{F:Nat→Prop}{w w':World}{N k:Nat}{xs:List Value}{v:VirtS}(h:LabRow w N k xs v)(hw:Wr F w w')(hF:∀i,F i→∃cs t,Row w i cs t):LabRow w' N k xs v:=fun f c hf hc=>by
 obtain⟨mb,n,h1,h2,h3⟩:=h f c hf hc;exact⟨mb,n,h1,h2.wr hw (fun hx=>by obtain⟨cs,t,hr⟩:=hF _ hx;exact h2.ne hr rfl),h3⟩
theorem LabRow.next{w:World}{N k:Nat}{xs:List Value}{v:VirtS}{c:CodeS}{mb n:Nat}(h:LabRow w N k xs v)(hx:xs.length=k)(hc:v.funcs[k]? =some c)(hm:LabM w mb n (labO c.ins))(hN:N≤mb):LabRow w N (k+1) (xs++[.map (some mb)]) v:=fun f g hf hg=>by
 by_cases he:f=k
 ·subst he;obtain rfl:c=g:=Option.some.inj (hc.symm.trans hg);exact⟨mb,n,by rw[List.getElem?_append_right (by omega),hx,Nat.sub_self];rfl,hm,hN⟩
 ·obtain⟨mb',n',h1,h2,h3⟩:=h f g (by omega) hg;exact⟨mb',n',by rw[List.getElem?_append_left (by omega)];exact h1,h2,h3⟩
theorem own_cell1{w:World}{base:Nat}{e:TypeId}{A:Option Addr}{n c f:Nat}{xs:List Value}{v:Value}(h:w.ownsRow base e 1 (.slice A n c) n xs)(hf:xs[f]? =some v):∃g,A=some ⟨g,0,none⟩∧base≤g∧g<w.heap.size∧w.cell? ⟨g,0+f,none⟩=some v:=by
 obtain⟨hl,⟨he,hn⟩|⟨g,cap,cur,he,hg,hr,_,_,_,ht⟩⟩:=h
 ·subst hn;simp at hl;subst hl;simp at hf
 ·injection he with e1 e2 e3;have hrow:Row w g cur e:=hr;refine⟨g,e1,hg,hrow.lt,hrow.cell ?_⟩;rw[Nat.zero_add,←Array.getElem?_toList];have:f<n*1:=by rw[←hl];exact(List.getElem?_eq_some_iff.1 hf).1
  rw[←ht,List.getElem?_take]at hf;rw[if_pos this]at hf;exact hf
theorem LabRow.labs{F own:Nat→Prop}{w X:World}{base B0 N:Nat}{A:Option Addr}{c:Nat}{t:TypeId}{xs:List Value}{v:VirtS}(h:LabRow w N v.funcs.length xs v)(ho:w.ownsRow B0 t 1 (.slice A v.funcs.length c) v.funcs.length xs)(hB0:N≤B0)(hpos:0<v.funcs.length)(hw:Wr F w X)(hF:∀k,F k→k<N)(hown:∀k,own k→k<N∨w.heap.size≤k)(hb:base≤N):VLabs X base own X.heap.size (.slice A v.funcs.length c) v:=by
 have hx0:∃x,xs[0]? =some x:=⟨_,List.getElem?_eq_getElem (by rw[ho.1];omega)⟩
 obtain⟨x,hx⟩:=hx0;obtain⟨lb,rfl,h1,h2,_⟩:=own_cell1 ho hx;have hsz:=hw.size;have hno:∀k,N≤k→k<w.heap.size→¬own k:=fun k h1 h2 h3=>by rcases hown k h3 with h'|h'<;>omega
 refine⟨lb,0,c,rfl,hno lb (by omega) h2,by omega,by omega,fun f g hg=>?_⟩;obtain⟨mb,n,g1,g2,g3⟩:=h f g (List.getElem?_eq_some_iff.1 hg).1 hg;obtain⟨lb',he,_,_,hcell⟩:=own_cell1 ho g1;injection he with he;injection he with he;subst he;have hlt:=g2.lt;exact⟨mb,n,(World.cell?_of_block (a:=⟨lb,0+f,none⟩) (hw.block lb (by omega) (fun h=>by have:=hF _ h;omega))).trans hcell,g2.wr hw (fun h=>by have:=hF _ h;omega),hno mb g3 hlt,by omega,by omega⟩
end Go.Proofs.YtlenilbkifofjaaGreatDoor
