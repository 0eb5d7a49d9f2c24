/- A copy of a program of virtual code: its functions lie in a row of their own. Conditions: as stated. The page's machine: a call's blocks. No condition. The page's machine: an object is no more. No program in sight but its name. No condition. The graph's machine over the page's memory: plain laws. No program in sight. Conditions: as stated. An empty memory and one of the object that is none are one to the page's machine: plain laws. No program in sight. No condition. The page's machine, in whole: what a run keeps. Plain laws; no program in sight. No condition. Virtual code as a program of the middle language: each place in a function begins a block. Plain laws; no program in sight. No condition. Which functions of virtual code may be (plain), and that they may be run. No program in sight. No condition. Virtual code that may be, may be run (plain). Conditions: as stated. Virtual code with registers made 0 ahead: its runs follow (plain). No program in sight. Conditions: as stated. Virtual code with registers made 0 ahead: whole runs (plain). No program in sight. Conditions: as stated. virt's checks: within, imm, register, Binary. No condition. A function's labels, as the program keeps them: a map from numbers to places. No condition. -/
import Derived.Test.YtlenilbkifofjaaGreatDoorVCopyEZz
import Derived.Test.YtlenilbkifofjaaGreatDoorQ03Zz
import Derived.Test.YtlenilbkifofjaaGreatDoorQ02Zz
import Derived.Test.YtlenilbkifofjaaGreatDoorQ01Zz
import Derived.Laws.OwnMore
import Derived.Maps.OwnSet
set_option linter.unusedVariables false
set_option linter.unusedSimpArgs false
set_option maxHeartbeats 8000000
set_option maxRecDepth 100000
namespace Go.Proofs.YtlenilbkifofjaaGreatDoor
open Go.RowKit
section
variable {α:Type} {E:World→Nat→(Nat→Option Value)→α→Prop} {ty:TypeId} {sz base:Nat} {w w':World} {lv:Value} {l:List α} {xs:List Value}
theorem RowE.form(h:RowE E ty sz base w lv l xs):∃A c,lv= .slice A l.length c:=by
 obtain⟨_,⟨h1,h2⟩|⟨g,c,cur,hv,_⟩⟩:=h.own
 ·exact⟨none,0,by rw[h1,h2]⟩
 ·exact⟨_,c,hv⟩
theorem RowE.wr{F:Nat→Prop}(hE:Mono E sz)(h:RowE E ty sz base w lv l xs)(hw:Wr F w w')(hF:∀i,F i→i<base):RowE E ty sz base w' lv l xs:=
 ⟨ownsRow_wr h.own hw (fun g hg hf=>by have:=(h.lt hg).1;have:=hF g hf;omega),fun i x hx=>hE _ _ _ _ _ _ _ (only_mono fun k hk hk2=>⟨hk,hw.block k hk2 (fun hf=>by have:=hF k hf;have:=hk.1;omega)⟩) hw.size (fun _ _ _ h=>h) (h.elems i x hx)⟩
theorem RowE.below(hE:Mono E sz)(h:RowE E ty sz base w lv l xs)(hb:Below w.heap.size w w'):RowE E ty sz base w' lv l xs:=
 h.wr hE (Wr.of_below (F:=fun _=>False) hb) (fun _ hf=>hf.elim)
end
def CopiedRow(x:VirtS)(w:World)(e:Ending)(w':World):Prop:=
 ∃(A0:Option Addr)(c0 base:Nat)(A1:Option Addr)(c1:Nat)(xs:List Value),e= .returned (.agg #[.slice A0 x.globs.length c0,.slice A1 x.funcs.length c1,.int .i64 x.main])∧SliceAt w' base 3 (ObE w' base) x.globs (.slice A0 x.globs.length c0)∧RowE CodeE 39 4 base w' (.slice A1 x.funcs.length c1) x.funcs xs∧In64 x.main∧(w.heap.size≤base∧base≤w'.heap.size)∧Below w.heap.size w w'
theorem copyVirt_row(x:VirtS)(B:Nat)(w:World)(c:Nat→Option Value)(v0 v1 v2:Value)(hB:B≤w.heap.size)(hx:VirtE w B c x)(k0:c 0=some v0)(k1:c 1=some v1)(k2:c 2=some v2)(hsz:VirtF x):
  Calls Tryz.prog 6 #[.agg #[v0,v1,v2]] w (CopiedRow x w):=by
 obtain⟨A0,c0,A1,c1,h0,h1,h2,r0,r1,i2⟩:=hx.shape;rw[h0]at k0;injection k0 with k0;subst k0;rw[h1]at k1;injection k1 with k1;subst k1;rw[h2]at k2;injection k2 with k2;subst k2;obtain⟨z0,y0,z1,y1⟩:=hsz;have HC0:=Lib.hid (fun W(hb:Below w.heap.size w W)=>copyObjs_any x.globs A0 c0 B W (by have:=hb.size;omega) (r0.below (hb.mono hB) (Nat.le_refl _) (fun _ _ h=>h.below (hb.mono hB) (Nat.le_refl _))) z0 y0);have HC1:=Lib.hid (fun W(hb:Below w.heap.size w W)=>copyCodes_row x.funcs A1 c1 B W (by have:=hb.size;omega) (r1.below (hb.mono hB) (Nat.le_refl _) (fun _ _ h=>h.below (hb.mono hB) (Nat.le_refl _))) z1 y1);have HI2:=Lib.hid i2
 have HB3:=Lib.hid (below3 w (.cells #[.slice A0 x.globs.length c0,.slice A1 x.funcs.length c1,.int .i64 x.main] 30) (.cells #[.slice none 0 0,.slice none 0 0,.int .i64 0] 30) (.cells #[.slice A0 x.globs.length c0,.slice A1 x.funcs.length c1,.int .i64 x.main] 30));clear hx h0 h1 h2 r0 r1 i2 z0 y0 z1 y1;go_enter Tryz.func6,Tryz.ntmps6;refine wp_letter (fun Q hQ=>?_);have HQ:=Lib.hid hQ;clear hQ;go_wp2_with fail;refine(HC0.out _ (by exact HB3.out)).mono ?_;rintro e w1 ⟨A0',c0',rfl,hs,_,hb0⟩;have HS0:=Lib.hid hs;clear hs;have hz0:w.heap.size+1+1+1≤w1.heap.size:=by have:=hb0.size;first|omega|(simp at this;omega)
 have x00:w1.cell? ⟨w.heap.size+1+1,0,none⟩=some (.slice A0 x.globs.length c0):=cell_below (by simp[go_sem]) hb0 (by first|omega|(simp<;>omega));have f00:w1.frozen? ⟨w.heap.size+1+1,0,none⟩=false:=((bcell hb0).2 _ _ (by first|omega|(simp<;>omega))).trans (by simp[go_sem]);have q00:w1.cell? ⟨w.heap.size+1,0,none⟩=some (.slice none 0 0):=cell_below (by simp[go_sem]) hb0 (by first|omega|(simp<;>omega));have g00:w1.frozen? ⟨w.heap.size+1,0,none⟩=false:=((bcell hb0).2 _ _ (by first|omega|(simp<;>omega))).trans (by simp[go_sem]);have a00:w1.cell? ⟨w.heap.size,0,none⟩=some (.slice A0 x.globs.length c0):=cell_below (by simp[go_sem]) hb0 (by first|omega|(simp<;>omega))
 have x01:w1.cell? ⟨w.heap.size+1+1,1,none⟩=some (.slice A1 x.funcs.length c1):=cell_below (by simp[go_sem]) hb0 (by first|omega|(simp<;>omega));have f01:w1.frozen? ⟨w.heap.size+1+1,1,none⟩=false:=((bcell hb0).2 _ _ (by first|omega|(simp<;>omega))).trans (by simp[go_sem]);have q01:w1.cell? ⟨w.heap.size+1,1,none⟩=some (.slice none 0 0):=cell_below (by simp[go_sem]) hb0 (by first|omega|(simp<;>omega));have g01:w1.frozen? ⟨w.heap.size+1,1,none⟩=false:=((bcell hb0).2 _ _ (by first|omega|(simp<;>omega))).trans (by simp[go_sem]);have a01:w1.cell? ⟨w.heap.size,1,none⟩=some (.slice A1 x.funcs.length c1):=cell_below (by simp[go_sem]) hb0 (by first|omega|(simp<;>omega))
 have x02:w1.cell? ⟨w.heap.size+1+1,2,none⟩=some (.int .i64 x.main):=cell_below (by simp[go_sem]) hb0 (by first|omega|(simp<;>omega));have f02:w1.frozen? ⟨w.heap.size+1+1,2,none⟩=false:=((bcell hb0).2 _ _ (by first|omega|(simp<;>omega))).trans (by simp[go_sem]);have q02:w1.cell? ⟨w.heap.size+1,2,none⟩=some (.int .i64 0):=cell_below (by simp[go_sem]) hb0 (by first|omega|(simp<;>omega));have g02:w1.frozen? ⟨w.heap.size+1,2,none⟩=false:=((bcell hb0).2 _ _ (by first|omega|(simp<;>omega))).trans (by simp[go_sem]);have a02:w1.cell? ⟨w.heap.size,2,none⟩=some (.int .i64 x.main):=cell_below (by simp[go_sem]) hb0 (by first|omega|(simp<;>omega));have HB0':=Lib.hid (HB3.out.trans (hb0.mono (by first|omega|(simp<;>omega))));have HY0:=Lib.hid hb0;clear hb0;go_wp2_with fail
 have HB0:=Lib.hid (HB0'.out.trans (show Below w.heap.size w1 (w1.setCell ⟨w.heap.size+1+1,0,none⟩ (.slice A0' x.globs.length c0'))from Below.setCell (Below.refl _ _) (by first|omega|(simp<;>omega)) _));refine(HC1.out _ (by exact HB0.out)).mono ?_;rintro e w2 ⟨lv1,xs1,rfl,hs,hb1⟩;have HS1:=Lib.hid hs;obtain⟨A1',c1',hlv⟩:=hs.form;subst hlv;clear hs;have hz1:w.heap.size+1+1+1≤w2.heap.size:=by have:=hb1.size;first|omega|(simp at this;omega)
 have x10:w2.cell? ⟨w.heap.size+1+1,0,none⟩=some (.slice A0' x.globs.length c0'):=cell_below (by simp[go_sem,x00,x01,x02]) hb1 (by first|omega|(simp<;>omega));have f10:w2.frozen? ⟨w.heap.size+1+1,0,none⟩=false:=((bcell hb1).2 _ _ (by first|omega|(simp<;>omega))).trans (by simp[go_sem,f00,f01,f02]);have q10:w2.cell? ⟨w.heap.size+1,0,none⟩=some (.slice none 0 0):=cell_below (by simp[go_sem,q00,q01,q02]) hb1 (by first|omega|(simp<;>omega));have g10:w2.frozen? ⟨w.heap.size+1,0,none⟩=false:=((bcell hb1).2 _ _ (by first|omega|(simp<;>omega))).trans (by simp[go_sem,g00,g01,g02]);have a10:w2.cell? ⟨w.heap.size,0,none⟩=some (.slice A0 x.globs.length c0):=cell_below (by simp[go_sem,a00,a01,a02]) hb1 (by first|omega|(simp<;>omega))
 have x11:w2.cell? ⟨w.heap.size+1+1,1,none⟩=some (.slice A1 x.funcs.length c1):=cell_below (by simp[go_sem,x00,x01,x02]) hb1 (by first|omega|(simp<;>omega));have f11:w2.frozen? ⟨w.heap.size+1+1,1,none⟩=false:=((bcell hb1).2 _ _ (by first|omega|(simp<;>omega))).trans (by simp[go_sem,f00,f01,f02]);have q11:w2.cell? ⟨w.heap.size+1,1,none⟩=some (.slice none 0 0):=cell_below (by simp[go_sem,q00,q01,q02]) hb1 (by first|omega|(simp<;>omega));have g11:w2.frozen? ⟨w.heap.size+1,1,none⟩=false:=((bcell hb1).2 _ _ (by first|omega|(simp<;>omega))).trans (by simp[go_sem,g00,g01,g02]);have a11:w2.cell? ⟨w.heap.size,1,none⟩=some (.slice A1 x.funcs.length c1):=cell_below (by simp[go_sem,a00,a01,a02]) hb1 (by first|omega|(simp<;>omega))
 have x12:w2.cell? ⟨w.heap.size+1+1,2,none⟩=some (.int .i64 x.main):=cell_below (by simp[go_sem,x00,x01,x02]) hb1 (by first|omega|(simp<;>omega));have f12:w2.frozen? ⟨w.heap.size+1+1,2,none⟩=false:=((bcell hb1).2 _ _ (by first|omega|(simp<;>omega))).trans (by simp[go_sem,f00,f01,f02]);have q12:w2.cell? ⟨w.heap.size+1,2,none⟩=some (.int .i64 0):=cell_below (by simp[go_sem,q00,q01,q02]) hb1 (by first|omega|(simp<;>omega));have g12:w2.frozen? ⟨w.heap.size+1,2,none⟩=false:=((bcell hb1).2 _ _ (by first|omega|(simp<;>omega))).trans (by simp[go_sem,g00,g01,g02]);have a12:w2.cell? ⟨w.heap.size,2,none⟩=some (.int .i64 x.main):=cell_below (by simp[go_sem,a00,a01,a02]) hb1 (by first|omega|(simp<;>omega));have HY1:=Lib.hid hb1
 have HBF:=Lib.hid (HB0.out.trans (hb1.mono (by first|omega|(simp<;>omega))));clear hb1;clear x00 x01 x02 f00 f01 f02 q00 q01 q02 g00 g01 g02 a00 a01 a02;go_wp2_with fail;refine HQ.out _ _ _ ?_;refine bodyPost_ret (v:= .agg #[.slice A0' x.globs.length c0',.slice A1' x.funcs.length c1',.int .i64 x.main]) (by simp[results,Tryz.results6,go_sem,x10,x11,x12,q10,q11,q12]) rfl ?_;refine of_wr (X:=fun i=>i=w.heap.size+1∨i=w.heap.size+1+1) (w:=w2) ?_ (fun hw=>?_)
 ·repeat(first|(with_reducible exact Wr.refl _ _)|(with_reducible refine Wr.drewR ?_)|(with_reducible refine Wr.allocR ?_ _)|(with_reducible refine Wr.setR ?_ _ _ _ (Or.inl ?_))|exact Or.inl rfl|exact Or.inr rfl)
 have hw0:Wr (fun i=>i=w.heap.size+1∨i=w.heap.size+1+1) w1 (w1.setCell ⟨w.heap.size+1+1,0,none⟩ (.slice A0' x.globs.length c0')):=by
  repeat(first|(with_reducible exact Wr.refl _ _)|(with_reducible refine Wr.setR ?_ _ _ _ (Or.inl ?_))|exact Or.inl rfl|exact Or.inr rfl)
 have hw1:=(hw0.trans (Wr.of_below (F:=fun _=>False) HY1.out) (fun _ h=>h.elim)).trans hw (fun i hi=>Or.inl hi);have R0:=SliceAt.sub ObE.mono (B':=(w1.setCell ⟨w.heap.size+1+1,0,none⟩ (.slice A0' x.globs.length c0')).heap.size) HS0.out ((only_later hw1 (N:=w.heap.size) (fun i hi=>by rcases hi with hi|hi<;>subst hi<;>first|omega|(simp<;>omega)) (by first|omega|(simp<;>omega))).trans (only_sub _ _)) (by simp);have R1:=HS1.out.wr CodeE.mono hw (fun i hi=>by have h0:w.heap.size+1+1<(w1.setCell ⟨w.heap.size+1+1,0,none⟩ (.slice A0' x.globs.length c0')).heap.size:=(by first|omega|(simp<;>omega));rcases hi with hi|hi<;>subst hi<;>omega)
 exact⟨_,_,_,_,_,_,rfl,R0,R1,HI2.out,⟨by first|omega|(simp<;>omega),Nat.le_trans HY1.out.size hw.size⟩,HBF.out.trans (hw.below (by omega) (fun i hi=>by rcases hi with hi|hi<;>subst hi<;>omega))⟩
end Go.Proofs.YtlenilbkifofjaaGreatDoor
namespace Go.Proofs.YtlenilbkifofjaaGreatDoor
open Go.RowKit
theorem TreeAt.shape{w:World}{C:Nat→Nat→Prop}{t:T}{v0 v1 v2:Value}(h:TreeAt w C t v0 v1 v2):∃a b A n c,v0= .int .i64 a∧v1= .int .i64 b∧v2= .slice A n c:=by
 obtain⟨op,n,ks⟩:=t;simp only[TreeAt]at h;obtain⟨h0,h1,_,_,_,A,cap,h5,_⟩:=h;exact⟨_,_,_,_,_,h0,h1,h5⟩
theorem stepsF_cons_true{R:CallR}{fuel:Int}{lo:List Nat}{s:St}{tp:List V}{x:StepS}{l:List StepS}(h:(doesF R fuel lo s tp x).1=true):stepsF R fuel lo s tp (x::l)=stepsF R fuel lo (doesF R fuel lo s tp x).2.1 (doesF R fuel lo s tp x).2.2 l:=by
 simp only[stepsF];rcases hd:doesF R fuel lo s tp x with⟨b,s',tp'⟩
 rw[hd]at h;simp only at h;subst h;rfl
theorem stepsF_cons_false{R:CallR}{fuel:Int}{lo:List Nat}{s:St}{tp:List V}{x:StepS}{l:List StepS}(h:(doesF R fuel lo s tp x).1=false):stepsF R fuel lo s tp (x::l)=(false,(doesF R fuel lo s tp x).2.1,(doesF R fuel lo s tp x).2.2):=by
 simp only[stepsF];rcases hd:doesF R fuel lo s tp x with⟨b,s',tp'⟩
 rw[hd]at h;simp only at h;subst h;rfl
theorem drop_get{α:Type}{l:List α}{j:Nat}{x:α}(h:l[j]? =some x):l.drop j=x::l.drop (j+1):=by
 have hlt:j<l.length:=by
  rcases Nat.lt_or_ge j l.length with h'|h'
  ·exact h'
  ·rw[List.getElem?_eq_none h']at h;cases h
 rw[List.drop_eq_getElem_cons hlt];rw[List.getElem?_eq_getElem hlt]at h;injection h with h;rw[h]
theorem blocksF_over{R:CallR}{fuel:Int}{lo:List Nat}{bs:List BlockS}{g k:Nat}{s s':St}{tp tp':List V}{b:BlockS}(hb:bs[k]? =some b)(h:blockF R fuel lo s tp b=(.over,s',tp')):blocksF R fuel lo bs (g+1) k s tp=(none,s'):=by
 simp only[blocksF,Int.toNat_natCast,List.getD_eq_getElem?_getD,hb,Option.getD_some,h]
theorem blocksF_next{R:CallR}{fuel:Int}{lo:List Nat}{bs:List BlockS}{g k:Nat}{k':Int}{s s':St}{tp tp':List V}{b:BlockS}(hb:bs[k]? =some b)(h:blockF R fuel lo s tp b=(.next k',s',tp')):blocksF R fuel lo bs (g+1) k s tp=blocksF R fuel lo bs g k' s' tp':=by
 simp only[blocksF,Int.toNat_natCast,List.getD_eq_getElem?_getD,hb,Option.getD_some,h]
theorem blocksF_ret{R:CallR}{fuel:Int}{lo:List Nat}{bs:List BlockS}{g k:Nat}{v:V}{s s':St}{tp tp':List V}{b:BlockS}(hb:bs[k]? =some b)(h:blockF R fuel lo s tp b=(.ret v,s',tp')):blocksF R fuel lo bs (g+1) k s tp=(some v,{s' with mem:=killF s'.mem lo,calls:=s'.calls-1}):=by
 simp only[blocksF,Int.toNat_natCast,List.getD_eq_getElem?_getD,hb,Option.getD_some,h]
theorem blockF_steps{R:CallR}{fuel:Int}{lo:List Nat}{s s':St}{tp tp':List V}{b:BlockS}(h:stepsF R fuel lo s tp b.steps=(false,s',tp')):blockF R fuel lo s tp b=(.over,s',tp'):=by
 simp only[blockF,h]
section
variable {base mc:Nat} {own:Nat→Prop} {P:Value×Value×Value} {fuel d:Int} {ng fb tb nt:Nat} {G:Value×Value×Value×Value} {lv:Value} {lo:List Nat} {gr:Nat} {gc:Array Value} {w wr:World} {own':Nat→Prop} {st:St} {tp:List V}
end
theorem FrOk.same{M M':List MO}{tp:List V}{lo:List Nat}{ng:Nat}(h:FrOk M tp lo ng)(e:M'=M):FrOk M' tp lo ng:=e▸h
theorem vzero{v:V}(h1:v.obj=0)(h2:v.n=0):v=⟨0,0⟩:=by
 obtain⟨a,b⟩:=v;simp only at h1 h2;rw[h1,h2]
theorem ownsRow_base{w:World}{base base':Nat}{e:TypeId}{size:Nat}{v:Value}{n:Nat}{xs:List Value}(h:w.ownsRow base e size v n xs)(hb:base'≤base):w.ownsRow base' e size v n xs:=by
 obtain⟨h1,h2⟩:=h;refine⟨h1,?_⟩;rcases h2 with h2|⟨g,cap,cur,hv,hg,r⟩
 ·exact Or.inl h2
 ·exact Or.inr ⟨g,cap,cur,hv,Nat.le_trans hb hg,r⟩
end Go.Proofs.YtlenilbkifofjaaGreatDoor
namespace Go.Proofs.YtlenilbkifofjaaGreatDoor
open Go.RowKit
def dead(o:MO):MO:={o with live:=false}
theorem killF_snoc(M:List MO)(l:List Nat)(x:Nat):killF M (l++[x])=(killF M l).modify x dead:=by
 induction l generalizing M with
 |nil=>rfl
 |cons a l ih=>exact ih _
theorem killF_length(M:List MO)(l:List Nat):(killF M l).length=M.length:=by
 induction l generalizing M with
 |nil=>rfl
 |cons a l ih=>simp[killF,ih]
theorem modify_get{M:List MO}{j k:Nat}{o:MO}{f:MO→MO}(h:(M.modify j f)[k]? =some o):∃o0,M[k]? =some o0∧o=if j=k then f o0 else o0:=by
 rw[List.getElem?_modify]at h;cases h0:M[k]? with
 |none=>rw[h0]at h;simp at h
 |some o0=>
  rw[h0]at h;refine⟨o0,rfl,?_⟩;simp at h;split at h<;>simp_all
theorem MemOk.kill{M:List MO}(h:MemOk M)(j:Nat):MemOk (M.modify j dead):=by
 refine⟨by simpa using h.many,fun o ho=>?_,fun k o hk ho=>?_,fun o ho v hv=>?_⟩
 ·obtain⟨o0,h0,rfl⟩:=modify_get ho;have:=h.zero o0 h0;subst this;split<;>rfl
 ·obtain⟨o0,h0,rfl⟩:=modify_get ho;have:=h.size k o0 hk h0;split
  ·exact this
  ·exact this
 ·obtain⟨k,hk⟩:=List.mem_iff_getElem?.1 ho;obtain⟨o0,h0,rfl⟩:=modify_get hk;rw[List.length_modify];refine h.vals o0 (List.mem_of_getElem? h0) v ?_;split at hv
  ·exact hv
  ·exact hv
theorem ObjIn.kill{xs:List Value}{rb:Nat→Nat}{j k:Nat}{o:MO}(h:ObjIn xs rb k o)(hl:k*3+2<xs.length):ObjIn (xs.set (j*3+2) (.bool false)) rb k (if j=k then dead o else o):=by
 obtain⟨h0,h1,h2⟩:=h;unfold ObjIn;rw[List.getElem?_set_ne (by omega),List.getElem?_set_ne (by omega)];by_cases e:j=k
 ·subst e;rw[if_pos rfl,List.getElem?_set_self hl];exact⟨h0,h1,rfl⟩
 ·rw[if_neg e,List.getElem?_set_ne (by omega)];exact⟨h0,h1,h2⟩
theorem NumOk.nil:NumOk []:=fun o h=>by simp at h
theorem NumOk.make{M:List MO}(h:NumOk M)(o:ObS):NumOk (makeF M o):=by
 intro x hx hs v hv;unfold makeF at hx;rw[List.mem_append]at hx;rcases hx with hx|hx
 ·split at hx
  ·simp at hx;subst hx;simp at hv
  ·exact h x hx hs v hv
 ·simp at hx;subst hx;unfold fillF at hv;simp only[List.mem_map]at hv;obtain⟨i,_,rfl⟩:=hv;rfl
theorem NumOk.makes{M:List MO}(h:NumOk M):∀(l:List ObS),NumOk (makesF M l)
 |[]=>h
 |o::l=>(h.make o).makes l
theorem mem_modify{M:List MO}{k:Nat}{f:MO→MO}{x:MO}(h:x∈M.modify k f):x∈M∨∃o,M[k]? =some o∧x=f o:=by
 obtain⟨i,hi⟩:=List.getElem?_of_mem h;obtain⟨o0,h1,h2⟩:=modify_get hi;by_cases hki:k=i
 ·rw[if_pos hki]at h2;exact Or.inr ⟨o0,hki▸h1,h2⟩
 ·rw[if_neg hki]at h2;exact Or.inl (h2▸List.mem_of_getElem? h1)
theorem NumOk.kill1{M:List MO}(h:NumOk M)(k:Nat):NumOk (M.modify k dead):=by
 intro x hx hs v hv;rcases mem_modify hx with hx|⟨o,ho,rfl⟩
 ·exact h x hx hs v hv
 ·exact h o (List.mem_of_getElem? ho) hs v hv
theorem NumOk.kills{M:List MO}(h:NumOk M):∀(l:List Nat),NumOk (killF M l)
 |[]=>h
 |k::l=>(h.kill1 k).kills l
theorem NumOk.store{M M':List MO}(h:NumOk M){size:Int}{a x:V}(hs:storeF M size a x=some M')(h0:0≤size):NumOk M':=by
 unfold storeF at hs;cases ha:atF M a size.toNat with
 |none=>rw[ha]at hs;simp at hs
 |some j=>
  rw[ha]at hs;simp only at hs;split at hs
  ·cases hs
  ·rename_i hn;simp only[Option.some.injEq]at hs;subst hs;have hsz:(mget M a.obj).size=size:=by
    unfold atF at ha;split at ha
    ·rename_i h1;have:=h1.2.2.1;omega
    ·cases ha
   intro o ho hso v hv;rcases mem_modify ho with ho|⟨o0,ho0,rfl⟩
   ·exact h o ho hso v hv
   ·have hmg:mget M a.obj=o0:=by unfold mget;rw[List.getD_eq_getElem?_getD,ho0];rfl
    simp only at hso hv;rw[hmg]at hsz;rcases List.mem_or_eq_of_mem_set hv with hv|hv
    ·exact h o0 (List.mem_of_getElem? ho0) hso v hv
    ·have hx:x.obj=0:=by
      rcases Nat.eq_zero_or_pos x.obj with h1|h1
      ·exact h1
      ·exact absurd ⟨h1,by omega⟩ hn
     rw[if_pos hx]at hv;rw[hv]
theorem loadF_num{M:List MO}(h:NumOk M){op:Int}{a:V}(h5:5≤op)(h11:op≤11){j:Nat}(ha:atF M a (sizeL op)=some j)(hl:j<(mget M a.obj).l.length)(hm:a.obj<M.length):
  loadF M op a=some (if op=8 then(mget M a.obj).l.getD j ⟨0,0⟩else⟨0,loadedF op ((mget M a.obj).l.getD j ⟨0,0⟩).n⟩):=by
 unfold loadF;rw[ha];have hmem:(mget M a.obj)∈M:=List.mem_of_getElem? (mget_of hm);have hv:(mget M a.obj).l.getD j ⟨0,0⟩∈(mget M a.obj).l:=by rw[List.getD_eq_getElem?_getD,List.getElem?_eq_getElem hl];exact List.getElem_mem _
 by_cases h8:op=8
 ·subst h8;simp only[if_true];split
  ·rfl
  ·rename_i h0;have h0':((mget M a.obj).l.getD j ⟨0,0⟩).obj=0:=by omega
   have e:loadedF 8 ((mget M a.obj).l.getD j ⟨0,0⟩).n=((mget M a.obj).l.getD j ⟨0,0⟩).n:=by unfold loadedF;rw[if_pos rfl]
   rw[e]
   congr 1
   generalize (mget M a.obj).l.getD j ⟨0,0⟩=v at h0';cases v
   simp_all
 ·have hsz:(mget M a.obj).size≠8:=by
   unfold atF at ha;split at ha
   ·rename_i h1;have h2:=h1.2.2.1;unfold sizeL at h2;intro h3;rw[h3]at h2;split at h2
    ·omega
    ·split at h2
     ·omega
     ·split at h2<;>omega
   ·cases ha
  have h0:=h _ hmem hsz _ hv;simp only;rw[if_neg (by omega),if_neg h8]
theorem storeF_base(M:List MO)(size:Int)(a x:V):storeF (memBase M) size a x=(storeF M size a x).map memBase:=by
 by_cases hM:M=[]
 ·subst hM;have e:∀s,atF [] a s=none:=by
   intro s;unfold atF;rw[if_neg];rintro⟨_,h,_⟩;simp[mget]at h
  unfold storeF;rw[atF_base,e];rfl
 ·have hb:memBase M=M:=by unfold memBase;rw[if_neg hM]
  have hp:0<M.length:=by cases M with|nil=>exact absurd rfl hM|cons a l=>simp
  rw[hb];unfold storeF;split
  ·rfl
  ·split
   ·rfl
   ·simp only[Option.map_some,Option.some.injEq];exact(memBase_of (by simpa using hp)).symm
theorem makeF_base(M:List MO)(o:ObS):makeF (memBase M) o=makeF M o:=by rw[makeF_eq,makeF_eq,memBase_twice]
theorem makeF_based(M:List MO)(o:ObS):memBase (makeF M o)=makeF M o:=memBase_of (by simp[makeF_eq])
theorem makesF_base(M:List MO)(l:List ObS):makesF (memBase M) l=memBase (makesF M l):=by
 cases l with
 |nil=>rfl
 |cons o l=>
  have key:∀(l:List ObS)(N:List MO),0<N.length→0<(makesF N l).length:=by
   intro l
   induction l with
   |nil=>intro N h;exact h
   |cons o l ih=>intro N h;exact ih _ (by simp[makeF_eq])
  show makesF (makeF (memBase M) o) l=memBase (makesF (makeF M o) l);rw[makeF_base,memBase_of (key l _ (by simp[makeF_eq]))]
theorem killF_base(M:List MO)(lo:List Nat):killF (memBase M) lo=memBase (killF M lo):=by
 by_cases hM:M=[]
 ·subst hM;have h1:∀lo,killF ([]:List MO) lo=[]:=by
   intro lo
   induction lo with
   |nil=>rfl
   |cons a l ih=>
    rw[killF];have:([]:List MO).modify a (fun o=>{o with live:=false})=[]:=by cases a<;>rfl
    rw[this];exact ih
  have h2:∀lo,killF [⟨0,[],false⟩] lo=[⟨0,[],false⟩]:=by
   intro lo
   induction lo with
   |nil=>rfl
   |cons a l ih=>
    rw[killF];have:([⟨0,[],false⟩]:List MO).modify a (fun o=>{o with live:=false})=[⟨0,[],false⟩]:=by
     cases a with
     |zero=>rfl
     |succ n=>simp[List.modify_succ_cons]
    rw[this];exact ih
  rw[h1];exact h2 lo
 ·have hb:memBase M=M:=by unfold memBase;rw[if_neg hM]
  have hp:0<M.length:=by cases M with|nil=>exact absurd rfl hM|cons a l=>simp
  rw[hb,memBase_of (by rw[killF_length];exact hp)]
theorem numsF_base(M:List MO)(n:Nat):numsF (memBase M) n=numsF M n:=by
 unfold numsF;have h:=memBase_pos M;rw[if_neg (by intro h';rw[h']at h;simp at h),memBase_length]
theorem NumOk.base{M:List MO}(h:NumOk M):NumOk (memBase M):=by
 unfold memBase;split
 ·intro o ho hs v hv;simp at ho;subst ho;simp at hv
 ·exact h
end Go.Proofs.YtlenilbkifofjaaGreatDoor
namespace Go.Proofs.YtlenilbkifofjaaGreatDoor
open Go.RowKit
def StepOkG(p:ProgS)(nt nl:Nat)(x:StepS):Prop:=
 TsOk nt nl p.globs.length x.args∧TsIn x.args∧x.args.length≤1000∧
 ((x.op=1∧x.args.length=1∧(x.to= -1∨0≤x.to∧x.to<nt))∨(x.op=2∧x.args.length=2∧x.to= -1∧(x.size=1∨x.size=2∨x.size=4∨x.size=8))∨
  (x.op=3∧(∃f g,x.fn=((f:Nat):Int)∧p.funcs[f]? =some g∧(x.args.length:Int)=g.params)∧(x.to= -1∨0≤x.to∧x.to<nt))∨(x.op=4∧x.args.length=1∧x.to= -1)∨
  (x.op=5∧x.args.length=0∧0≤x.to∧x.to<nt)∨(x.op=6∧x.args.length=1∧x.to= -1))
structure BlockOkG (p:ProgS) (g:GraphS) (nt:Nat) (b:BlockS):Prop where
 steps:∀x,x∈b.steps→StepOkG p nt g.locs.length x
 few:b.steps.length≤1000000
 fin:b.fin=1∨b.fin=2∨b.fin=3
 next:0≤b.next∧b.next<g.blocks.length
 els:0≤b.els∧b.els<g.blocks.length
 cond:b.fin≠1→TOk nt g.locs.length p.globs.length b.cond∧TIn b.cond
structure FnOkG (p:ProgS) (g:GraphS):Prop where
 nt:∃nt:Nat,g.temps=nt∧nt≤8000∧∀b,b∈g.blocks→BlockOkG p g nt b
 params:0≤g.params∧g.params≤g.temps
 obs:∀o,o∈g.locs→ObOk o∧∀x,x∈o.init→In64 x
 locs:g.locs.length≤400
 one:0<g.blocks.length
 few:g.blocks.length≤1000000
structure ProgOkG (p:ProgS):Prop where
 globs:∀o,o∈p.globs→ObOk o∧∀x,x∈o.init→In64 x
 gfew:p.globs.length≤16
 fns:∀g,g∈p.funcs→FnOkG p g
 main:∃f g,p.main=((f:Nat):Int)∧p.funcs[f]? =some g∧g.params=0
theorem FrOk.grow{M M':List MO}{tp:List V}{lo:List Nat}{ng:Nat}(h:FrOk M tp lo ng)(hl:M.length≤M'.length):FrOk M' tp lo ng:=
 ⟨fun v hv=>(h.temps v hv).mono hl,fun x hx=>Nat.lt_of_lt_of_le (h.locs x hx) hl,Nat.lt_of_lt_of_le h.globs hl⟩
theorem FrOk.put{M:List MO}{tp:List V}{lo:List Nat}{ng:Nat}(h:FrOk M tp lo ng)(dst:Int){v:V}(hv:VOk M.length v):FrOk M (setT tp dst v) lo ng:=by
 unfold setT;split
 ·exact⟨fun u hu=>by rcases List.mem_or_eq_of_mem_set hu with h1|h1;exact h.temps u h1;exact h1▸hv,h.locs,h.globs⟩
 ·exact h
theorem setT_length(tp:List V)(dst:Int)(v:V):(setT tp dst v).length=tp.length:=by unfold setT;split<;>simp
theorem MemOk.put{M:List MO}(h:MemOk M)(k j:Nat){v:V}(hk:1≤k)(hv:VOk M.length v):MemOk (M.modify k fun o=>{o with l:=o.l.set j v}):=by
 refine⟨by simpa using h.many,fun o ho=>?_,fun i o h1 ho=>?_,fun o ho u hu=>?_⟩
 ·obtain⟨o0,h0,he⟩:=modify_get ho;rw[if_neg (by omega)]at he;subst he;exact h.zero _ h0
 ·obtain⟨o0,h0,rfl⟩:=modify_get ho;have:=h.size i o0 h1 h0;split
  ·simpa using this
  ·exact this
 ·rw[List.length_modify];rcases mem_modify ho with ho|⟨o0,h0,rfl⟩
  ·exact h.vals o ho u hu
  ·rcases List.mem_or_eq_of_mem_set hu with hu|hu
   ·exact h.vals o0 (List.mem_of_getElem? h0) u hu
   ·exact hu▸hv
theorem storeF_kept{M M':List MO}{size:Int}{a x:V}(hs:storeF M size a x=some M')(h0:0≤size)(hm:MemOk M)(hn:NumOk M)(hx:VOk M.length x):MemOk M'∧NumOk M'∧M'.length=M.length:=by
 refine⟨?_,hn.store hs h0,?_⟩
 ·unfold storeF at hs;cases ha:atF M a size.toNat with
  |none=>rw[ha]at hs;simp at hs
  |some j=>
   rw[ha]at hs;simp only at hs;split at hs
   ·cases hs
   ·simp only[Option.some.injEq]at hs;subst hs;have hp:0<a.obj:=by
     unfold atF at ha;split at ha
     ·rename_i h1;exact h1.1
     ·cases ha
    refine hm.put a.obj j hp ?_;split
    ·exact⟨Nat.lt_of_le_of_lt (Nat.zero_le _) hx.1,fun h=>absurd rfl h,stored_in64 hx.2.2⟩
    ·exact hx
 ·unfold storeF at hs;split at hs
  ·cases hs
  ·split at hs
   ·cases hs
   ·simp only[Option.some.injEq]at hs;subst hs;simp
def RKept(p:ProgS)(fuel:Int)(c:Int)(R:CallR):Prop:=
 ∀(f:Nat)g args s v s',p.funcs[f]? =some g→(args.length:Int)=g.params→GInv fuel s→s.calls=c→(∀v,v∈args→VOk (memBase s.mem).length v)→p.globs.length<(memBase s.mem).length→R f args s=(some v,s')→GKept fuel s s'∧VOk (memBase s'.mem).length v
section
variable {p:ProgS} {fuel:Int} {R:CallR} {lo:List Nat} {nt nl:Nat}
theorem does_kept(hR:∀c,RKept p fuel c R){s s':St}{tp tp':List V}{x:StepS}(hI:GInv fuel s)(hF:FrOk (memBase s.mem) tp lo p.globs.length)(ht:tp.length=nt)(hl:lo.length=nl)(hx:StepOkG p nt nl x)(h:doesF R fuel lo s tp x=(true,s',tp')):
  GKept fuel s s'∧FrOk (memBase s'.mem) tp' lo p.globs.length∧tp'.length=tp.length:=by
 subst ht hl;obtain⟨hts,hti,_,hop⟩:=hx;by_cases hy:(stepF fuel 1 s).1=true
 ·obtain⟨h1,hI1⟩:=hI.tick (by omega) hy;cases he:evalTs s.mem tp lo x.args with
  |none=>
   unfold doesF at h;rw[if_neg (by rw[hy];simp),stepF_mem,he]at h;cases h
  |some l=>
   have hok:=evals_ok hI.mem hF x.args hti hts (by rw[evalTs_base];exact he);have hlen:=evalTs_length he;rw[doesF_yes hy h1 he]at h;have hK1:GKept fuel s {s with steps:=s.steps+1}:=⟨hI1,rfl,Nat.le_refl _,by show s.steps≤s.steps+1;omega⟩
   have hpos:=memBase_pos s.mem;have hg:=fun j=>getD_ok hpos hok j;unfold actF at h;rcases hop with⟨h1,h2,h3⟩|⟨h1,h2,h3,h4⟩|⟨h1,⟨f,g,h2,h3,h4⟩,h5⟩|⟨h1,h2,h3⟩|⟨h1,h2,h3,h4⟩|⟨h1,h2,h3⟩
   ·rw[if_pos h1]at h;simp only[Prod.mk.injEq,true_and]at h;obtain⟨rfl,rfl⟩:=h;exact⟨hK1,hF.put _ (hg 0),setT_length _ _ _⟩
   ·rw[if_neg (by omega),if_pos h1]at h;split at h
    ·rename_i M hst;simp only[Prod.mk.injEq,true_and]at h;obtain⟨rfl,rfl⟩:=h;have hb:=storeF_base s.mem x.size (l.getD 0 ⟨0,0⟩) (l.getD 1 ⟨0,0⟩);simp only at hst;rw[hst]at hb;obtain⟨k1,k2,k3⟩:=storeF_kept hb (by omega) hI.mem hI.num (hg 1);refine⟨⟨⟨hI1.kind,hI1.lo,hI1.hi,by show(memBase M).length≤_;rw[k3];exact hI1.many,hI1.outs,hI1.calls,hI1.deep,hI1.inp,k1,k2⟩,rfl,by show _≤(memBase M).length;rw[k3];exact Nat.le_refl _,by show s.steps≤s.steps+1;omega⟩,?_,rfl⟩;exact hF.grow (by show _≤(memBase M).length;rw[k3];exact Nat.le_refl _)
    ·cases h
   ·rw[if_neg (by omega),if_neg (by omega),if_pos h1]at h;split at h
    ·rename_i v s2 hr;simp only[Prod.mk.injEq,true_and]at h;obtain⟨rfl,rfl⟩:=h;rw[h2]at hr;obtain⟨k1,k2⟩:=hR _ f g l _ v s2 h3 (by rw[hlen];exact h4) hI1 rfl hok hF.globs hr;exact⟨hK1.trans k1,(hF.grow k1.grow).put _ k2,setT_length _ _ _⟩
    ·cases h
   ·rw[if_neg (by omega),if_neg (by omega),if_neg (by omega),if_neg (by omega)]at h;split at h
    ·cases h
    ·rw[if_neg (by omega)]at h;simp only[Prod.mk.injEq,true_and]at h;obtain⟨rfl,rfl⟩:=h;have h0:=hI.lo;have h5:=hI.outs;refine⟨⟨⟨hI1.kind,hI1.lo,hI1.hi,hI1.many,?_,hI1.calls,hI1.deep,hI1.inp,hI1.mem,hI1.num⟩,rfl,Nat.le_refl _,by show s.steps≤s.steps+1;omega⟩,hF,rfl⟩;show(s.out++_).length≤(s.steps+1).toNat;rw[List.length_append,List.length_singleton];omega
   ·rw[if_neg (by omega),if_neg (by omega),if_neg (by omega),if_pos h1]at h;split at h
    ·rename_i hin;simp only[Prod.mk.injEq,true_and]at h;obtain⟨rfl,rfl⟩:=h;exact⟨hK1,hF.put _ (VOk.num hpos (by unfold In64;omega)),setT_length _ _ _⟩
    ·rename_i n r hin;simp only[Prod.mk.injEq,true_and]at h;obtain⟨rfl,rfl⟩:=h;simp only at hin;have hi64:=hI.inp;rw[hin]at hi64;refine⟨⟨⟨hI1.kind,hI1.lo,hI1.hi,hI1.many,hI1.outs,hI1.calls,hI1.deep,fun x hx=>hi64 x (List.mem_cons_of_mem _ hx),hI1.mem,hI1.num⟩,rfl,Nat.le_refl _,by show s.steps≤s.steps+1;omega⟩,hF.put _ (VOk.num hpos (hi64 n (by simp))),setT_length _ _ _⟩
   ·rw[if_neg (by omega),if_neg (by omega),if_neg (by omega),if_neg (by omega)]at h;split at h
    ·cases h
    ·cases h
 ·unfold doesF at h;rw[if_pos (by simpa using hy)]at h;cases h
theorem steps_kept(hR:∀c,RKept p fuel c R):∀(xs:List StepS){s s':St}{tp tp':List V},GInv fuel s→FrOk (memBase s.mem) tp lo p.globs.length→tp.length=nt→lo.length=nl→(∀x,x∈xs→StepOkG p nt nl x)→stepsF R fuel lo s tp xs=(true,s',tp')→
  GKept fuel s s'∧FrOk (memBase s'.mem) tp' lo p.globs.length∧tp'.length=tp.length
 |[],s,s',tp,tp',hI,hF,_,_,_,h=>by
  rw[stepsF]at h;simp only[Prod.mk.injEq,true_and]at h;obtain⟨rfl,rfl⟩:=h;exact⟨GKept.refl hI,hF,rfl⟩
 |x::r,s,s',tp,tp',hI,hF,ht,hl,hx,h=>by
  rw[stepsF]at h;split at h
  ·rename_i s1 tp1 h1;obtain⟨k1,k2,k3⟩:=does_kept hR hI hF ht hl (hx x (by simp)) h1;obtain⟨m1,m2,m3⟩:=steps_kept hR r k1.inv k2 (k3.trans ht) hl (fun y hy=>hx y (List.mem_cons_of_mem _ hy)) h;exact⟨k1.trans m1,m2,m3.trans k3⟩
  ·cases h
theorem block_kept(hR:∀c,RKept p fuel c R){g:GraphS}{b:BlockS}{s s':St}{tp tp':List V}{go:Goes}(hI:GInv fuel s)(hF:FrOk (memBase s.mem) tp lo p.globs.length)(ht:tp.length=nt)(hl:lo.length=g.locs.length)(hb:BlockOkG p g nt b)(h:blockF R fuel lo s tp b=(go,s',tp'))(hgo:go≠.over):
  GKept fuel s s'∧FrOk (memBase s'.mem) tp' lo p.globs.length∧tp'.length=tp.length∧s.steps+1≤s'.steps∧(∀k,go= .next k→0≤k∧k<g.blocks.length)∧(∀v,go= .ret v→VOk (memBase s'.mem).length v):=by
 unfold blockF at h;split at h
 ·simp only[Prod.mk.injEq]at h;exact absurd h.1.symm hgo
 ·rename_i s1 tp1 h1;obtain⟨k1,k2,k3⟩:=steps_kept hR b.steps hI hF ht hl hb.steps h1;have hmono:=k1.steps;split at h
  ·simp only[Prod.mk.injEq]at h;exact absurd h.1.symm hgo
  ·rename_i hy;have hy':(stepF fuel 1 s1).1=true:=by simpa using hy
   obtain⟨e1,hI1⟩:=k1.inv.tick (by omega) hy';rw[e1]at h;have hK:GKept fuel s {s1 with steps:=s1.steps+1}:=k1.trans ⟨hI1,rfl,Nat.le_refl _,by show s1.steps≤s1.steps+1;omega⟩;split at h
   ·simp only[Prod.mk.injEq]at h;obtain⟨rfl,rfl,rfl⟩:=h;exact⟨hK,k2,k3,by show s.steps+1≤s1.steps+1;omega,fun k hk=>(by injection hk with hk;exact hk▸hb.next),fun v hv=>(by cases hv)⟩
   ·rename_i hfin;obtain⟨hc1,hc2⟩:=hb.cond hfin;split at h
    ·simp only[Prod.mk.injEq]at h;exact absurd h.1.symm hgo
    ·rename_i v hv;have hvok:=eval_ok k1.inv.mem k2 b.cond hc2 (by rw[k3,ht,hl];exact hc1) (by rw[evalT_base];exact hv);split at h
     ·simp only[Prod.mk.injEq]at h;obtain⟨rfl,rfl,rfl⟩:=h;exact⟨hK,k2,k3,by show s.steps+1≤s1.steps+1;omega,fun k hk=>(by cases hk),fun u hu=>(by injection hu with hu;exact hu▸hvok)⟩
     ·simp only[Prod.mk.injEq]at h;obtain⟨rfl,rfl,rfl⟩:=h;exact⟨hK,k2,k3,by show s.steps+1≤s1.steps+1;omega,fun k hk=>(by injection hk with hk;subst hk;split;exact hb.els;exact hb.next),fun u hu=>(by cases hu)⟩
theorem MemOk.kills{M:List MO}(h:MemOk M):∀(l:List Nat),MemOk (killF M l)
 |[]=>h
 |k::l=>(h.kill k).kills l
theorem blocks_kept(hR:∀c,RKept p fuel c R){g:GraphS}(hl:lo.length=g.locs.length)(hb:∀b,b∈g.blocks→BlockOkG p g nt b):∀(m:Nat)(k:Int){s s':St}{tp:List V}{v:V},GInv fuel s→1≤s.calls→FrOk (memBase s.mem) tp lo p.globs.length→tp.length=nt→0≤k→k<g.blocks.length→
  blocksF R fuel lo g.blocks m k s tp=(some v,s')→GInv fuel s'∧s'.calls=s.calls-1∧(memBase s.mem).length≤(memBase s'.mem).length∧s.steps≤s'.steps∧VOk (memBase s'.mem).length v
 |0,k,s,s',tp,v,_,_,_,_,_,_,h=>by rw[blocksF]at h;cases h
 |m+1,k,s,s',tp,v,hI,hc,hF,ht,hk0,hk1,h=>by
  rw[blocksF]at h;obtain⟨kn,rfl⟩:=Int.eq_ofNat_of_zero_le hk0;have hkl:kn<g.blocks.length:=by omega
  have hbk:g.blocks.getD ((kn:Int)).toNat noBlock∈g.blocks:=by
   rw[Int.toNat_natCast,List.getD_eq_getElem?_getD,List.getElem?_eq_getElem hkl];exact List.getElem_mem _
  split at h
  ·cases h
  ·rename_i k' s1 tp1 h1;obtain⟨a1,a2,a3,a4,a5,_⟩:=block_kept hR hI hF ht hl (hb _ hbk) h1 (by simp);obtain⟨k0,k1⟩:=a5 k' rfl;obtain⟨b1,b2,b3,b4,b5⟩:=blocks_kept hR hl hb m k' a1.inv (by rw[a1.calls];exact hc) a2 (a3.trans ht) k0 k1 h;exact⟨b1,by rw[b2,a1.calls],Nat.le_trans a1.grow b3,by omega,b5⟩
  ·rename_i u s1 tp1 h1;obtain⟨a1,a2,a3,a4,_,a6⟩:=block_kept hR hI hF ht hl (hb _ hbk) h1 (by simp);simp only[Prod.mk.injEq,Option.some.injEq]at h;obtain⟨rfl,rfl⟩:=h;have e:memBase (killF s1.mem lo)=killF (memBase s1.mem) lo:=(killF_base _ _).symm;have el:(memBase (killF s1.mem lo)).length=(memBase s1.mem).length:=by rw[e,killF_length]
   have hcs:=a1.calls;refine⟨⟨a1.inv.kind,a1.inv.lo,a1.inv.hi,by show(memBase (killF s1.mem lo)).length≤_;rw[el];exact a1.inv.many,a1.inv.outs,by show 0≤s1.calls-1;omega,a1.inv.deep,a1.inv.inp,by show MemOk (memBase (killF s1.mem lo));rw[e];exact a1.inv.mem.kills lo,by show NumOk (memBase (killF s1.mem lo));rw[e];exact a1.inv.num.kills lo⟩,by show s1.calls-1=s.calls-1;omega,by show _≤(memBase (killF s1.mem lo)).length;rw[el];exact a1.grow,by show s.steps≤s1.steps;omega,by show VOk (memBase (killF s1.mem lo)).length u;rw[el];exact a6 u rfl⟩
theorem makes_ok:∀(l:List ObS){M:List MO},MemOk (memBase M)→(∀o,o∈l→ObOk o∧∀x,x∈o.init→In64 x)→(memBase M).length+l.length≤4294967296→MemOk (memBase (makesF M l))
 |[],M,h,_,_=>h
 |o::l,M,h,ho,hm=>by
  have h1:=ho o (by simp);simp only[List.length_cons]at hm;have h2:=makeF_ok h o h1.1.1 (by have:=h1.1.2.2.1;omega) h1.2 (by rw[memBase_twice];omega);rw[makeF_base]at h2;refine makes_ok l (M:=makeF M o) (by rw[makeF_based];exact h2) (fun x hx=>ho x (List.mem_cons_of_mem _ hx)) ?_;rw[makeF_based,makeF_length];omega
theorem call_start_ok{g:GraphS}{s:St}{args:List V}(hg:FnOkG p g)(hnt:g.temps=nt)(hI:GInv fuel s)(ha:∀v,v∈args→VOk (memBase s.mem).length v)(hal:args.length≤nt)(hgl:p.globs.length<(memBase s.mem).length)(hf:fuel≤100000000)(hst:s.steps+countsF g.locs≤fuel):
  GInv fuel {s with calls:=s.calls+1,deep:=max s.deep (s.calls+1),steps:=s.steps+countsF g.locs,mem:=makesF s.mem g.locs}∧FrOk (memBase (makesF s.mem g.locs)) (startF nt args) (numsF s.mem g.locs.length) p.globs.length∧(startF nt args).length=nt∧(numsF s.mem g.locs.length).length=g.locs.length∧(memBase (makesF s.mem g.locs)).length=(memBase s.mem).length+g.locs.length:=by
 have hcb:=countsF_bd (fun o ho=>(hg.obs o ho).1);have hml:=memBase_makes s.mem g.locs;have h1:=hI.lo;have h2:=hI.many;have h3:=hI.outs;have h4:=hI.calls;have h5:=hI.deep;have hpos:=memBase_pos s.mem;refine⟨⟨hI.kind,by show 0≤s.steps+_;omega,hst,?_,?_,by show 0≤s.calls+1;omega,by show 0≤max s.deep (s.calls+1);omega,hI.inp,?_,?_⟩,⟨?_,?_,by omega⟩,?_,numsF_length _ _,hml⟩
 ·show(memBase (makesF s.mem g.locs)).length≤20+(s.steps+countsF g.locs).toNat;omega
 ·show s.out.length≤(s.steps+countsF g.locs).toNat;omega
 ·exact makes_ok g.locs hI.mem hg.obs (by omega)
 ·show NumOk (memBase (makesF s.mem g.locs));rw[←makesF_base];exact hI.num.makes g.locs
 ·intro v hv;unfold startF at hv;rw[List.mem_append]at hv;rcases hv with hv|hv
  ·exact(ha v hv).mono (by omega)
  ·rw[List.mem_replicate]at hv;rw[hv.2];exact VOk.num (by omega) (by unfold In64;omega)
 ·intro x hx;unfold numsF at hx;simp only[List.mem_map,List.mem_range]at hx;obtain⟨i,hi,rfl⟩:=hx;rw[←memBase_length];omega
 ·unfold startF;rw[List.length_append,List.length_replicate];omega
end
theorem callF_dryG{p:ProgS}{fuel:Int}{d f:Nat}{g:GraphS}{args:List V}{s:St}(hg:p.funcs[f]? =some g)(hy:(stepF fuel (countsF g.locs) {s with calls:=s.calls+1,deep:=max s.deep (s.calls+1)}).1=false):
  callF p fuel (d+1) f args s=(none,(stepF fuel (countsF g.locs) {s with calls:=s.calls+1,deep:=max s.deep (s.calls+1)}).2):=by
 simp only[callF,Int.toNat_natCast,List.getD_eq_getElem?_getD,hg,Option.getD_some,hy,if_true]
theorem callF_goG{p:ProgS}{fuel:Int}{d f nt:Nat}{g:GraphS}{args:List V}{s:St}(hg:p.funcs[f]? =some g)(hnt:g.temps=nt)(hy:(stepF fuel (countsF g.locs) {s with calls:=s.calls+1,deep:=max s.deep (s.calls+1)}).1=true):
  callF p fuel (d+1) f args s=blocksF (callF p fuel d) fuel (numsF s.mem g.locs.length) g.blocks (fuel-(s.steps+countsF g.locs)+1).toNat 0 {s with calls:=s.calls+1,deep:=max s.deep (s.calls+1),steps:=s.steps+countsF g.locs,mem:=makesF s.mem g.locs} (startF nt args):=by
 obtain⟨hy0,hy1,hy2⟩:=stepF_yes hy;simp only[callF,Int.toNat_natCast,List.getD_eq_getElem?_getD,hg,Option.getD_some,hy,Bool.true_eq_false,if_false,hy2,hnt]
theorem call_kept{p:ProgS}(hp:ProgOkG p){fuel:Int}(hf:fuel≤100000000):∀(d:Nat)(c:Int),RKept p fuel c (callF p fuel d)
 |0,c,f,g,args,s,v,s',_,_,_,_,_,_,h=>by
  rw[callF]at h;cases h
 |d+1,c,f,g,args,s,v,s',hg,hal,hI,hc,ha,hgl,h=>by
  have hfn:=hp.fns g (List.mem_of_getElem? hg);obtain⟨nt,hnt,hnt2,hbk⟩:=hfn.nt;have hpa:=hfn.params;by_cases hy:(stepF fuel (countsF g.locs) {s with calls:=s.calls+1,deep:=max s.deep (s.calls+1)}).1=true
  ·rw[callF_goG hg hnt hy]at h;obtain⟨_,hy1,_⟩:=stepF_yes hy;simp only at hy1;obtain⟨k1,k2,k3,k4,k5⟩:=call_start_ok hfn hnt hI ha (by omega) hgl hf (by omega);obtain⟨b1,b2,b3,b4,b5⟩:=blocks_kept (fun c=>call_kept hp hf d c) k4 hbk _ 0 k1 (by show 1≤s.calls+1;have:=hI.calls;omega) k2 k3 (by omega) (by have:=hfn.one;omega) h;have hcb:=countsF_bd (fun o ho=>(hfn.obs o ho).1);refine⟨⟨b1,by rw[b2];show s.calls+1-1=s.calls;omega,?_,?_⟩,b5⟩
   ·have b3':(memBase (makesF s.mem g.locs)).length≤(memBase s'.mem).length:=b3;omega
   ·have b4':s.steps+countsF g.locs≤s'.steps:=b4;omega
  ·rw[callF_dryG hg (by simpa using hy)]at h;cases h
end Go.Proofs.YtlenilbkifofjaaGreatDoor
namespace Go.Proofs.YtlenilbkifofjaaGreatDoor
open Go.RowKit
def conT(n:Int):T:= .node 1 n []
def tmpT(r:Int):T:= .node 2 r []
def labN(l:List InsS)(n:Int):Nat:=l.findIdx fun i=>decide (i.op=14∧i.n=n)
def stepI(x:InsS):StepS:=
 if x.op=1 then⟨1,x.dst,0,0,[conT x.n]⟩
 else if x.op=2 then⟨1,x.dst,0,0,[tmpT x.a]⟩
 else if x.op=3 then⟨1,x.dst,0,0,[.node 3 x.n []]⟩
 else if x.op=4 then⟨1,x.dst,0,0,[.node 4 x.n []]⟩
 else if x.op=5 then⟨1,x.dst,0,0,[.node x.n 0 [tmpT x.a,tmpT x.b]]⟩
 else if x.op=6 then⟨1,x.dst,0,0,[.node x.n 0 [tmpT x.a,conT (x.arg.getD 0 0)]]⟩
 else if x.op=7 then⟨1,x.dst,0,0,[.node x.n 0 [tmpT x.a]]⟩
 else if x.op=8 then⟨1,x.dst,0,0,[.node x.n 0 [.node 12 0 [tmpT x.a,conT x.b]]]⟩
 else if x.op=9 then⟨2,-1,x.n,0,[.node 12 0 [tmpT x.a,conT x.b],tmpT x.dst]⟩
 else if x.op=10 then⟨3,x.dst,0,x.n,x.arg.map tmpT⟩
 else if x.op=11 then⟨4,-1,0,0,[tmpT x.a]⟩
 else if x.op=12 then⟨5,x.dst,0,0,[]⟩
 else if x.op=13 then⟨6,-1,0,0,[tmpT x.a]⟩
 else⟨1,-1,0,0,[conT 0]⟩
def blockI(all:List InsS):List InsS→Nat→BlockS
 |[],_=>⟨[],3,conT 0,0,0⟩
 |x::r,k=>
  if x.op=15 then⟨[],1,conT 0,(labN all x.n:Nat),0⟩
  else if x.op=16 then⟨[],2,tmpT x.a,(labN all x.n:Nat),(k+1:Nat)⟩
  else if x.op=17 then⟨[],3,tmpT x.a,0,0⟩
  else {blockI all r (k+1)with steps:=stepI x::(blockI all r (k+1)).steps}
def blocksI(l:List InsS):List BlockS:=(List.range l.length).map fun k=>blockI l (l.drop k) k
def codeG(c:CodeS):GraphS:=⟨c.params,c.regs,c.locs,blocksI c.ins⟩
def virtG(v:VirtS):ProgS:=⟨v.globs,v.funcs.map codeG,v.main⟩
theorem blocksI_len(l:List InsS):(blocksI l).length=l.length:=by simp[blocksI]
theorem blocksI_get{l:List InsS}{k:Nat}(hk:k<l.length):(blocksI l)[k]? =some (blockI l (l.drop k) k):=by
 unfold blocksI;rw[List.getElem?_map,List.getElem?_range hk];rfl
theorem blocksI_getD{l:List InsS}{k:Nat}(hk:k<l.length):(blocksI l).getD k noBlock=blockI l (l.drop k) k:=by
 rw[List.getD_eq_getElem?_getD,blocksI_get hk];rfl
theorem drop_cons{l:List InsS}{k:Nat}{x:InsS}(h:l[k]? =some x):l.drop k=x::l.drop (k+1):=by
 obtain⟨hk,hx⟩:=List.getElem?_eq_some_iff.1 h;rw[List.drop_eq_getElem_cons hk,hx]
def Straight(x:InsS):Prop:=x.op≠15∧x.op≠16∧x.op≠17
section
variable {R:CallR} {fuel:Int} {lo:List Nat} {l:List InsS} {x:InsS} {k:Nat} {s:St} {tp:List V}
theorem blockI_straight(h:l[k]? =some x)(hx:Straight x):blockI l (l.drop k) k={blockI l (l.drop (k+1)) (k+1)with steps:=stepI x::(blockI l (l.drop (k+1)) (k+1)).steps}:=by
 rw[drop_cons h,blockI,if_neg hx.1,if_neg hx.2.1,if_neg hx.2.2]
theorem blockF_cons{b:BlockS}{y:StepS}:blockF R fuel lo s tp {b with steps:=y::b.steps}=match doesF R fuel lo s tp y with
  |(true,s',tp')=>blockF R fuel lo s' tp' b
  |(false,s',tp')=>(.over,s',tp'):=by
 unfold blockF;rw[stepsF];rcases doesF R fuel lo s tp y with⟨ok,s',tp'⟩
 cases ok<;>rfl
theorem goI_straight(h:l[k]? =some x)(hx:Straight x)(hk:k+1<l.length)(g:Nat):
  blocksF R fuel lo (blocksI l) (g+1) (k:Nat) s tp=match doesF R fuel lo s tp (stepI x)with
   |(true,s',tp')=>blocksF R fuel lo (blocksI l) (g+1) ((k+1:Nat):Int) s' tp'
   |(false,s',_)=>(none,s'):=by
 have hkl:k<l.length:=by omega
 rw[blocksF,Int.toNat_natCast,blocksI_getD hkl,blockI_straight h hx,blockF_cons];rcases hd:doesF R fuel lo s tp (stepI x)with⟨ok,s',tp'⟩
 cases ok
 ·rfl
 ·simp only;rw[blocksF,Int.toNat_natCast,blocksI_getD hk]
theorem goI_over(h:l[k]? =some x)(hx:Straight x)(g:Nat)(hd:(doesF R fuel lo s tp (stepI x)).1=false):
  blocksF R fuel lo (blocksI l) (g+1) (k:Nat) s tp=(none,(doesF R fuel lo s tp (stepI x)).2.1):=by
 have hkl:k<l.length:=(List.getElem?_eq_some_iff.1 h).1;rw[blocksF,Int.toNat_natCast,blocksI_getD hkl,blockI_straight h hx,blockF_cons];rcases he:doesF R fuel lo s tp (stepI x)with⟨ok,s',tp'⟩
 rw[he]at hd;simp only at hd;subst hd;rfl
theorem goI_dry(h:l[k]? =some x)(hx:¬Straight x)(g:Nat)(hy:(stepF fuel 1 s).1=false):
  blocksF R fuel lo (blocksI l) (g+1) (k:Nat) s tp=(none,(stepF fuel 1 s).2):=by
 have hkl:k<l.length:=(List.getElem?_eq_some_iff.1 h).1;have hst:(blockI l (l.drop k) k).steps=[]:=by
  rw[drop_cons h,blockI];by_cases h15:x.op=15
  ·rw[if_pos h15]
  by_cases h16:x.op=16
  ·rw[if_neg h15,if_pos h16]
  by_cases h17:x.op=17
  ·rw[if_neg h15,if_neg h16,if_pos h17]
  exact absurd ⟨h15,h16,h17⟩ hx
 rw[blocksF,Int.toNat_natCast,blocksI_getD hkl];unfold blockF;rw[hst,stepsF];simp only[hy,if_true]
theorem goI_jump(h:l[k]? =some x)(hx:x.op=15)(g:Nat)(hy:(stepF fuel 1 s).1=true):
  blocksF R fuel lo (blocksI l) (g+1) (k:Nat) s tp=blocksF R fuel lo (blocksI l) g ((labN l x.n:Nat):Int) (stepF fuel 1 s).2 tp:=by
 have hkl:k<l.length:=(List.getElem?_eq_some_iff.1 h).1;rw[blocksF,Int.toNat_natCast,blocksI_getD hkl,drop_cons h,blockI,if_pos hx];unfold blockF;rw[stepsF];simp only[hy];rfl
theorem evalT_tmp(M:List MO)(tp:List V)(lo:List Nat)(r:Int):evalT M tp lo (tmpT r)=some (tp.getD r.toNat ⟨0,0⟩):=by
 rw[tmpT,evalT,evalTs];rfl
theorem evalT_con(M:List MO)(tp:List V)(lo:List Nat)(n:Int):evalT M tp lo (conT n)=some ⟨0,n⟩:=by
 rw[conT,evalT,evalTs];rfl
theorem goI_branch(h:l[k]? =some x)(hx:x.op=16)(g:Nat)(hy:(stepF fuel 1 s).1=true):
  blocksF R fuel lo (blocksI l) (g+1) (k:Nat) s tp=blocksF R fuel lo (blocksI l) g (if tp.getD x.a.toNat ⟨0,0⟩=⟨0,0⟩then((k+1:Nat):Int)else((labN l x.n:Nat):Int)) (stepF fuel 1 s).2 tp:=by
 have hkl:k<l.length:=(List.getElem?_eq_some_iff.1 h).1;have h15:¬x.op=15:=by omega
 rw[blocksF,Int.toNat_natCast,blocksI_getD hkl,drop_cons h,blockI,if_neg h15,if_pos hx];unfold blockF;rw[stepsF];simp only[hy,evalT_tmp];rfl
theorem goI_ret(h:l[k]? =some x)(hx:x.op=17)(g:Nat)(hy:(stepF fuel 1 s).1=true):
  blocksF R fuel lo (blocksI l) (g+1) (k:Nat) s tp=(some (tp.getD x.a.toNat ⟨0,0⟩),{(stepF fuel 1 s).2 with mem:=killF (stepF fuel 1 s).2.mem lo,calls:=(stepF fuel 1 s).2.calls-1}):=by
 have hkl:k<l.length:=(List.getElem?_eq_some_iff.1 h).1;have h15:¬x.op=15:=by omega
 have h16:¬x.op=16:=by omega
 rw[blocksF,Int.toNat_natCast,blocksI_getD hkl,drop_cons h,blockI,if_neg h15,if_neg h16,if_pos hx];unfold blockF;rw[stepsF];simp only[hy,evalT_tmp];rfl
end
end Go.Proofs.YtlenilbkifofjaaGreatDoor
namespace Go.Proofs.YtlenilbkifofjaaGreatDoor
open Go.RowKit
def namedI(x:InsS):Option (Bool×Bool×Bool×Bool×Bool):=
 if x.op=1∨x.op=3∨x.op=4 then some (true,false,false,true,false)
 else if x.op=2 then some (true,true,false,false,false)
 else if x.op=5 then some (true,true,true,true,false)
 else if x.op=6 then some (true,true,false,true,true)
 else if x.op=7∨x.op=8∨x.op=9 then some (true,true,false,true,false)
 else if x.op=10 then some (decide (x.dst≠ -1),false,false,true,true)
 else if x.op=11∨x.op=13∨x.op=17 then some (false,true,false,false,false)
 else if x.op=12 then some (true,false,false,false,false)
 else if x.op=14∨x.op=15 then some (false,false,false,true,false)
 else if x.op=16 then some (false,true,false,true,false)
 else none
def regI(r:Int)(named:Bool)(none nr:Int):Bool:=if named=true then decide (0≤r∧r<nr)else decide (r=none)
def immB(n:Int):Bool:=decide (-2147483648≤n∧n≤2147483647)
def labI(l:List InsS)(n:Int):Bool:=l.any fun i=>decide (i.op=14∧i.n=n)
def regsB(l:List Int)(nr:Int):Bool:=l.all fun r=>decide (0≤r∧r<nr)
def numberI(c:CodeS)(ng nf:Int)(par:Int→Int→Bool)(x:InsS):Bool:=
 if x.op=3 then decide (0≤x.n∧x.n<c.locs.length)
 else if x.op=4 then decide (0≤x.n∧x.n<ng)
 else if x.op=5 then decide (12≤x.n∧x.n≤30)
 else if x.op=6 then decide (12≤x.n∧x.n≤30)&& (decide (x.arg.length=1)&& immB (x.arg.getD 0 0))
 else if x.op=7 then decide (31≤x.n∧x.n≤36)
 else if x.op=8 then decide (5≤x.n∧x.n≤11)&& immB x.b
 else if x.op=9 then sizeB x.n && immB x.b
 else if x.op=10 then decide (0≤x.n∧x.n<nf)&& (regsB x.arg c.regs && par x.n x.arg.length)
 else if x.op=15∨x.op=16 then labI c.ins x.n
 else true
def freeI(x:InsS):Bool:=decide (x.op=8∨x.op=9)
def insB(c:CodeS)(ng nf:Int)(par:Int→Int→Bool)(x:InsS):Bool:=
 match namedI x with
 |none=>false
 |some (t,a,b,n,r)=>regI x.dst t (-1) c.regs && (regI x.a a 0 c.regs && ((freeI x||regI x.b b 0 c.regs)&& ((n||decide (x.n=0))&& ((r||decide (x.arg.length=0))&& numberI c ng nf par x))))
def layB:List InsS→List InsS→Bool
 |_,[]=>true
 |l,x::r=>(decide (x.op≠14)||(!labI l x.n && decide (0≤x.n∧x.n<8000)))&& layB (l++[x]) r
def lastB(c:CodeS):Bool:=decide ((c.ins.getD (c.ins.length-1) ⟨0,0,0,0,0,[]⟩).op=15∨(c.ins.getD (c.ins.length-1) ⟨0,0,0,0,0,[]⟩).op=17∨(c.ins.getD (c.ins.length-1) ⟨0,0,0,0,0,[]⟩).op=13)
def headV(c:CodeS):Prop:=¬c.params<0∧¬c.params>4∧¬c.params>c.regs∧¬c.regs>8000∧objsB c.locs 400=true∧¬(c.ins.length:Int)<1∧¬(c.ins.length:Int)>8000∧layB [] c.ins=true
instance(c:CodeS):Decidable (headV c):=by unfold headV;exact inferInstance
def codeB(c:CodeS)(ng nf:Int)(par:Int→Int→Bool):Bool:=if headV c then(c.ins.all (insB c ng nf par)&& lastB c)else false
def noCode:CodeS:=⟨0,0,[],[]⟩
def parV(v:VirtS)(fn n:Int):Bool:=decide ((v.funcs.getD fn.toNat noCode).params=n)
def vmayP(v:VirtS):Prop:=objsB v.globs 16=true∧¬(v.funcs.length:Int)<1∧¬(v.funcs.length:Int)>8∧(0≤v.main∧v.main<(v.funcs.length:Int))∧(v.funcs.getD v.main.toNat noCode).params=0
instance(v:VirtS):Decidable (vmayP v):=by unfold vmayP;exact inferInstance
def vmayB(v:VirtS):Bool:=if vmayP v then v.funcs.all (fun c=>codeB c v.globs.length v.funcs.length (parV v))else false
structure VirtIn (v:VirtS):Prop where
 globs:∀o,o∈v.globs→∀x,x∈o.init→In64 x
 locs:∀c,c∈v.funcs→∀o,o∈c.locs→∀x,x∈o.init→In64 x
 ins:∀c,c∈v.funcs→∀i,i∈c.ins→In64 i.op∧In64 i.dst∧In64 i.a∧In64 i.b∧In64 i.n∧∀x,x∈i.arg→In64 x
theorem SliceAt.mem'{α:Type}{w:World}{B sz:Nat}{E:(Nat→Option Value)→α→Prop}{l:List α}{v:Value}(h:SliceAt w B sz E l v){x:α}(hx:x∈l):∃c,E c x:=by
 obtain⟨i,hi⟩:=List.mem_iff_getElem?.1 hx;obtain⟨A,cap,_,_,h2⟩:=h;obtain⟨b,off,_,_,h3⟩:=h2 (List.length_pos_of_mem hx);exact⟨_,h3 i x hi⟩
theorem LongsAt.in64'{w:World}{B:Nat}{l:List Int}{v:Value}(h:LongsAt w B l v):∀x,x∈l→In64 x:=fun x hx=>by
 obtain⟨c,_,h⟩:=SliceAt.mem' h hx;exact h
theorem VirtAt.pin{w:World}{B:Nat}{P:Value×Value×Value}{v:VirtS}(h:VirtAt w B P v):VirtIn v:=by
 obtain⟨hg,hf,_⟩:=h;refine⟨fun o ho=>?_,fun c hcm o ho=>?_,fun c hcm i hi=>?_⟩
 ·obtain⟨c,_,_,⟨u,_,hv⟩,_⟩:=hg.mem' ho;exact hv.in64'
 ·obtain⟨c,_,_,⟨u,_,hl⟩,_⟩:=hf.mem' hcm;obtain⟨c,_,_,⟨u,_,hv⟩,_⟩:=hl.mem' ho;exact hv.in64'
 ·obtain⟨c,_,_,_,⟨u,_,hl⟩,_⟩:=hf.mem' hcm;obtain⟨c,_,_,_,_,_,⟨u,_,hv⟩,h0,h1,h2,h3,h4⟩:=hl.mem' hi;exact⟨h0,h1,h2,h3,h4,hv.in64'⟩
end Go.Proofs.YtlenilbkifofjaaGreatDoor
namespace Go.Proofs.YtlenilbkifofjaaGreatDoor
open Go.RowKit
theorem labN_lt{l:List InsS}{n:Int}(h:labI l n=true):labN l n<l.length:=by
 unfold labI at h;unfold labN;rw[List.any_eq_true]at h;obtain⟨x,hx,hp⟩:=h;exact List.findIdx_lt_length_of_exists ⟨x,hx,hp⟩
theorem tmp_ok{nt nl ng:Nat}{r:Int}(h:0≤r∧r<nt):TOk nt nl ng (tmpT r):=by
 rw[tmpT,TOk,TsOk];refine⟨by decide,by decide,rfl,fun _=>h,fun h=>absurd h (by decide),fun h=>absurd h (by decide),trivial⟩
theorem con_ok{nt nl ng:Nat}(n:Int):TOk nt nl ng (conT n):=by
 rw[conT,TOk,TsOk];refine⟨by decide,by decide,rfl,fun h=>absurd h (by decide),fun h=>absurd h (by decide),fun h=>absurd h (by decide),trivial⟩
theorem tmp_in{r:Int}(h:In64 r):TIn (tmpT r):=by rw[tmpT,TIn,TsIn];exact⟨h,trivial⟩
theorem con_in{n:Int}(h:In64 n):TIn (conT n):=by rw[conT,TIn,TsIn];exact⟨h,trivial⟩
theorem zero_in:In64 0:=by unfold In64;omega
theorem tsok_map{nt nl ng:Nat}:∀{l:List Int},(∀r,r∈l→0≤r∧r<nt)→TsOk nt nl ng (l.map tmpT)
 |[],_=>by simp[TsOk]
 |r::l,h=>by
  rw[List.map_cons,TsOk];exact⟨tmp_ok (h r (by simp)),tsok_map fun x hx=>h x (by simp[hx])⟩
theorem tsin_map:∀{l:List Int},(∀r,r∈l→In64 r)→TsIn (l.map tmpT)
 |[],_=>by simp[TsIn]
 |r::l,h=>by
  rw[List.map_cons,TsIn];exact⟨tmp_in (h r (by simp)),tsin_map fun x hx=>h x (by simp[hx])⟩
theorem kids_un{op:Int}(h:5≤op∧op≤11∨31≤op∧op≤36):kidsN op=1:=by
 unfold kidsN;rw[if_neg (by omega),if_neg (by omega)]
theorem kids_bin{op:Int}(h:12≤op∧op≤30):kidsN op=2:=by
 unfold kidsN;rw[if_neg (by omega),if_pos h]
theorem node1_ok{nt nl ng:Nat}{op:Int}{t:T}(h:5≤op∧op≤11∨31≤op∧op≤36)(ht:TOk nt nl ng t):TOk nt nl ng (.node op 0 [t]):=by
 rw[TOk,TsOk,TsOk];exact⟨by omega,by omega,(kids_un h).symm,fun _=>by omega,fun _=>by omega,fun _=>by omega,ht,trivial⟩
theorem node2_ok{nt nl ng:Nat}{op:Int}{t u:T}(h:12≤op∧op≤30)(ht:TOk nt nl ng t)(hu:TOk nt nl ng u):TOk nt nl ng (.node op 0 [t,u]):=by
 rw[TOk,TsOk,TsOk,TsOk];exact⟨by omega,by omega,(kids_bin h).symm,fun _=>by omega,fun _=>by omega,fun _=>by omega,ht,hu,trivial⟩
theorem node1_in{op:Int}{t:T}(ht:TIn t):TIn (.node op 0 [t]):=by
 rw[TIn,TsIn,TsIn];exact⟨zero_in,ht,trivial⟩
theorem node2_in{op:Int}{t u:T}(ht:TIn t)(hu:TIn u):TIn (.node op 0 [t,u]):=by
 rw[TIn,TsIn,TsIn,TsIn];exact⟨zero_in,ht,hu,trivial⟩
theorem ts1_ok{nt nl ng:Nat}{t:T}(h:TOk nt nl ng t):TsOk nt nl ng [t]:=by rw[TsOk,TsOk];exact⟨h,trivial⟩
theorem ts1_in{t:T}(h:TIn t):TsIn [t]:=by rw[TsIn,TsIn];exact⟨h,trivial⟩
theorem ts2_ok{nt nl ng:Nat}{t u:T}(h:TOk nt nl ng t)(k:TOk nt nl ng u):TsOk nt nl ng [t,u]:=by rw[TsOk,TsOk,TsOk];exact⟨h,k,trivial⟩
theorem ts2_in{t u:T}(h:TIn t)(k:TIn u):TsIn [t,u]:=by rw[TsIn,TsIn,TsIn];exact⟨h,k,trivial⟩
structure InsOk (c:CodeS) (ng nf:Nat) (par:Int→Int→Bool) (x:InsS):Prop where
 ops:1≤x.op∧x.op≤17
 dst:(x.op=1∨x.op=2∨x.op=3∨x.op=4∨x.op=5∨x.op=6∨x.op=7∨x.op=8∨x.op=9∨x.op=12→0≤x.dst∧x.dst<c.regs)∧(x.op=10→x.dst= -1∨0≤x.dst∧x.dst<c.regs)
 a:x.op=2∨x.op=5∨x.op=6∨x.op=7∨x.op=8∨x.op=9∨x.op=11∨x.op=13∨x.op=16∨x.op=17→0≤x.a∧x.a<c.regs
 b:x.op=5→0≤x.b∧x.b<c.regs
 num:numberI c ng nf par x=true
theorem insB_ok{c:CodeS}{ng nf:Nat}{par:Int→Int→Bool}{x:InsS}(h:insB c ng nf par x=true):InsOk c ng nf par x:=by
 obtain⟨op,dst,a,b,n,arg⟩:=x;have hop:1≤op∧op≤17:=by
  unfold insB namedI at h;simp only at h;by_cases hh:1≤op∧op≤17
  ·exact hh
  ·rw[if_neg (by omega),if_neg (by omega),if_neg (by omega),if_neg (by omega),if_neg (by omega),if_neg (by omega),if_neg (by omega),if_neg (by omega),if_neg (by omega),if_neg (by omega)]at h;cases h
 have hs:op=1∨op=2∨op=3∨op=4∨op=5∨op=6∨op=7∨op=8∨op=9∨op=10∨op=11∨op=12∨op=13∨op=14∨op=15∨op=16∨op=17:=by omega
 have hn:numberI c ng nf par ⟨op,dst,a,b,n,arg⟩=true:=by
  unfold insB at h;split at h
  ·cases h
  ·simp only[Bool.and_eq_true]at h;exact h.2.2.2.2.2
 unfold insB at h;rcases hs with rfl|rfl|rfl|rfl|rfl|rfl|rfl|rfl|rfl|rfl|rfl|rfl|rfl|rfl|rfl|rfl|rfl
 all_goals
  simp[namedI,regI,freeI]at h;refine⟨hop,⟨fun q=>?_,fun q=>?_⟩,fun q=>?_,fun q=>?_,hn⟩
  all_goals simp only at q ⊢
  all_goals first|omega|skip
 all_goals
  obtain⟨h1,_⟩:=h;split at h1<;>omega
section
variable {v:VirtS} {c:CodeS} {nt:Nat}
theorem stepI_ok(hin:∀i,i∈c.ins→In64 i.op∧In64 i.dst∧In64 i.a∧In64 i.b∧In64 i.n∧∀x,x∈i.arg→In64 x)(hnt:c.regs=nt)(hpar:∀g,g∈v.funcs→g.params≤4){x:InsS}(hx:x∈c.ins)(hst:Straight x)(h:InsOk c v.globs.length v.funcs.length (parV v) x):StepOkG (virtG v) nt c.locs.length (stepI x):=by
 obtain⟨i0,i1,i2,i3,i4,i5⟩:=hin x hx;obtain⟨hop,⟨hd,hd10⟩,ha,hb,hn⟩:=h;obtain⟨s15,s16,s17⟩:=hst;obtain⟨op,dst,a,b,n,arg⟩:=x;simp only at*;rw[hnt]at hd hd10 ha hb;have hs:op=1∨op=2∨op=3∨op=4∨op=5∨op=6∨op=7∨op=8∨op=9∨op=10∨op=11∨op=12∨op=13∨op=14:=by omega
 unfold StepOkG;rcases hs with rfl|rfl|rfl|rfl|rfl|rfl|rfl|rfl|rfl|rfl|rfl|rfl|rfl|rfl
 ·have d:=hd (by simp);exact⟨ts1_ok (con_ok _),ts1_in (con_in i4),by simp[stepI],Or.inl ⟨rfl,rfl,Or.inr d⟩⟩
 ·have d:=hd (by simp);have d2:=ha (by simp);exact⟨ts1_ok (tmp_ok d2),ts1_in (tmp_in i2),by simp[stepI],Or.inl ⟨rfl,rfl,Or.inr d⟩⟩
 ·have d:=hd (by simp);simp[numberI]at hn;refine⟨ts1_ok ?_,ts1_in ?_,by simp[stepI],Or.inl ⟨rfl,rfl,Or.inr d⟩⟩
  ·rw[TOk,TsOk];exact⟨by decide,by decide,rfl,fun h=>absurd h (by decide),fun _=>hn,fun h=>absurd h (by decide),trivial⟩
  ·rw[TIn,TsIn];exact⟨i4,trivial⟩
 ·have d:=hd (by simp);simp[numberI]at hn;refine⟨ts1_ok ?_,ts1_in ?_,by simp[stepI],Or.inl ⟨rfl,rfl,Or.inr d⟩⟩
  ·rw[TOk,TsOk];exact⟨by decide,by decide,rfl,fun h=>absurd h (by decide),fun h=>absurd h (by decide),fun _=>hn,trivial⟩
  ·rw[TIn,TsIn];exact⟨i4,trivial⟩
 ·have d:=hd (by simp);have d2:=ha (by simp);have d3:=hb rfl;simp[numberI]at hn;exact⟨ts1_ok (node2_ok hn (tmp_ok d2) (tmp_ok d3)),ts1_in (node2_in (tmp_in i2) (tmp_in i3)),by simp[stepI],Or.inl ⟨rfl,rfl,Or.inr d⟩⟩
 ·have d:=hd (by simp);have d2:=ha (by simp);simp[numberI]at hn;have hg:In64 (arg.getD 0 0):=by
   match arg,hn.2.1 with
   |[q],_=>exact i5 q (by simp)
  exact⟨ts1_ok (node2_ok hn.1 (tmp_ok d2) (con_ok _)),ts1_in (node2_in (tmp_in i2) (con_in hg)),by simp[stepI],Or.inl ⟨rfl,rfl,Or.inr d⟩⟩
 ·have d:=hd (by simp);have d2:=ha (by simp);simp[numberI]at hn;exact⟨ts1_ok (node1_ok (Or.inr hn) (tmp_ok d2)),ts1_in (node1_in (tmp_in i2)),by simp[stepI],Or.inl ⟨rfl,rfl,Or.inr d⟩⟩
 ·have d:=hd (by simp);have d2:=ha (by simp);simp[numberI]at hn;exact⟨ts1_ok (node1_ok (Or.inl hn.1) (node2_ok (by decide) (tmp_ok d2) (con_ok _))),ts1_in (node1_in (node2_in (tmp_in i2) (con_in i3))),by simp[stepI],Or.inl ⟨rfl,rfl,Or.inr d⟩⟩
 ·have d:=hd (by simp);have d2:=ha (by simp);simp[numberI,sizeB]at hn;exact⟨ts2_ok (node2_ok (by decide) (tmp_ok d2) (con_ok _)) (tmp_ok d),ts2_in (node2_in (tmp_in i2) (con_in i3)) (tmp_in i1),by simp[stepI],Or.inr (Or.inl ⟨rfl,rfl,rfl,hn.1⟩)⟩
 ·have d:=hd10 rfl;simp[numberI,regsB,parV]at hn;obtain⟨⟨n1,n2⟩,n3,n4⟩:=hn;obtain⟨f,hf⟩:=Int.eq_ofNat_of_zero_le n1;subst hf;have hfl:f<v.funcs.length:=by omega
  have hfg:v.funcs[f]? =some v.funcs[f]:=List.getElem?_eq_getElem hfl;have hgd:(v.funcs.getD ((f:Nat):Int).toNat noCode)=v.funcs[f]:=by rw[Int.toNat_natCast,List.getD_eq_getElem?_getD,hfg];rfl
  rw[←List.getD_eq_getElem?_getD]at n4;have n4':v.funcs[f].params=(arg.length:Int):=by rw[←n4];exact(congrArg CodeS.params hgd).symm▸rfl
  have h4:=hpar _ (List.getElem_mem hfl);refine⟨tsok_map (l:=arg) (fun r hr=>by have:=n3 r hr;omega),tsin_map (l:=arg) i5,by simp[stepI];omega,Or.inr (Or.inr (Or.inl ⟨rfl,⟨f,codeG v.funcs[f],rfl,?_,?_⟩,d⟩))⟩
  ·simp[virtG,hfg]
  ·simp[stepI,codeG];omega
 ·have d2:=ha (by simp);exact⟨ts1_ok (tmp_ok d2),ts1_in (tmp_in i2),by simp[stepI],Or.inr (Or.inr (Or.inr (Or.inl ⟨rfl,rfl,rfl⟩)))⟩
 ·have d:=hd (by simp);refine⟨by simp[stepI,TsOk],by simp[stepI,TsIn],by simp[stepI],Or.inr (Or.inr (Or.inr (Or.inr (Or.inl ⟨rfl,rfl,d⟩))))⟩
 ·have d2:=ha (by simp);exact⟨ts1_ok (tmp_ok d2),ts1_in (tmp_in i2),by simp[stepI],Or.inr (Or.inr (Or.inr (Or.inr (Or.inr ⟨rfl,rfl,rfl⟩))))⟩
 ·exact⟨ts1_ok (con_ok _),ts1_in (con_in zero_in),by simp[stepI],Or.inl ⟨rfl,rfl,Or.inl rfl⟩⟩
theorem blockI_ok(hin:∀i,i∈c.ins→In64 i.op∧In64 i.dst∧In64 i.a∧In64 i.b∧In64 i.n∧∀x,x∈i.arg→In64 x)(hnt:c.regs=nt)(hpar:∀g,g∈v.funcs→g.params≤4)(hlen:0<c.ins.length)(hall:∀x,x∈c.ins→InsOk c v.globs.length v.funcs.length (parV v) x)(hlast:lastB c=true):
  ∀(r:List InsS)(k:Nat),c.ins.drop k=r→(∀x,x∈(blockI c.ins r k).steps→StepOkG (virtG v) nt c.locs.length x)∧(blockI c.ins r k).steps.length≤r.length∧((blockI c.ins r k).fin=1∨(blockI c.ins r k).fin=2∨(blockI c.ins r k).fin=3)∧
   (0≤(blockI c.ins r k).next∧(blockI c.ins r k).next<c.ins.length)∧(0≤(blockI c.ins r k).els∧(blockI c.ins r k).els<c.ins.length)∧TOk nt c.locs.length v.globs.length (blockI c.ins r k).cond∧TIn (blockI c.ins r k).cond
 |[],k,_=>by
  rw[blockI];exact⟨fun x hx=>by simp at hx,by simp,Or.inr (Or.inr rfl),⟨by simp,by simp;omega⟩,⟨by simp,by simp;omega⟩,con_ok _,con_in zero_in⟩
 |x::r,k,hd=>by
  have hk:c.ins[k]? =some x:=by
   have:=congrArg (fun l=>l[0]?) hd;simpa using this
  have hx:x∈c.ins:=List.mem_of_getElem? hk;have hok:=hall x hx;have hkl:k<c.ins.length:=(List.getElem?_eq_some_iff.1 hk).1;have hr:c.ins.drop (k+1)=r:=by
   have:=drop_cons hk;rw[hd]at this;injection this with _ h;exact h.symm
  obtain⟨i0,i1,i2,i3,i4,i5⟩:=hin x hx;rw[blockI];by_cases h15:x.op=15
  ·rw[if_pos h15];have hn:=hok.num;unfold numberI at hn;rw[if_neg (by omega),if_neg (by omega),if_neg (by omega),if_neg (by omega),if_neg (by omega),if_neg (by omega),if_neg (by omega),if_neg (by omega),if_pos (Or.inl h15)]at hn;have:=labN_lt hn;exact⟨fun x hx=>by simp at hx,by simp,Or.inl rfl,⟨by simp,by simp;omega⟩,⟨by simp,by simp;omega⟩,con_ok _,con_in zero_in⟩
  ·rw[if_neg h15];by_cases h16:x.op=16
   ·rw[if_pos h16];have hn:=hok.num;unfold numberI at hn;rw[if_neg (by omega),if_neg (by omega),if_neg (by omega),if_neg (by omega),if_neg (by omega),if_neg (by omega),if_neg (by omega),if_neg (by omega),if_pos (Or.inr h16)]at hn;have:=labN_lt hn;have ha:=hok.a (by omega);have hk1:k+1<c.ins.length:=by
     rcases Nat.lt_or_ge (k+1) c.ins.length with h|h
     ·exact h
     ·exfalso;have hke:c.ins.length-1=k:=by omega
      unfold lastB at hlast;rw[hke,List.getD_eq_getElem?_getD,hk]at hlast;simp at hlast;omega
    rw[hnt]at ha;exact⟨fun x hx=>by simp at hx,by simp,Or.inr (Or.inl rfl),⟨by simp,by simp;omega⟩,⟨by simp;omega,by simp;omega⟩,tmp_ok ha,tmp_in i2⟩
   ·rw[if_neg h16];by_cases h17:x.op=17
    ·rw[if_pos h17];have ha:=hok.a (by omega);rw[hnt]at ha;exact⟨fun x hx=>by simp at hx,by simp,Or.inr (Or.inr rfl),⟨by simp,by simp;omega⟩,⟨by simp,by simp;omega⟩,tmp_ok ha,tmp_in i2⟩
    ·rw[if_neg h17];obtain⟨b1,b2,b3,b4,b5,b6,b7⟩:=blockI_ok hin hnt hpar hlen hall hlast r (k+1) hr;refine⟨fun y hy=>?_,by simp only[List.length_cons];omega,b3,b4,b5,b6,b7⟩;rcases List.mem_cons.1 hy with rfl|hy
     ·exact stepI_ok hin hnt hpar hx ⟨h15,h16,h17⟩ hok
     ·exact b1 y hy
theorem obsB_ok'{l:List ObS}:obsB l=true→∀o,o∈l→ObOk o:=by
 induction l with
 |nil=>intro _ o h;simp at h
 |cons a r ih=>
  intro h o ho;simp[obsB,obB,sizeB,betwB]at h;rcases List.mem_cons.1 ho with rfl|ho
  ·exact⟨h.1.1.1,h.1.1.2.1,h.1.1.2.2,h.1.2⟩
  ·exact ih h.2 o ho
theorem codeB_ok{par:Int→Int→Bool}{ng nf:Nat}(h:codeB c ng nf par=true):headV c∧(∀x,x∈c.ins→InsOk c ng nf par x)∧lastB c=true:=by
 unfold codeB at h;by_cases hh:headV c
 ·rw[if_pos hh]at h;simp only[Bool.and_eq_true,List.all_eq_true]at h;exact⟨hh,fun x hx=>insB_ok (h.1 x hx),h.2⟩
 ·rw[if_neg hh]at h;cases h
theorem code_ok(hin:VirtIn v)(hc:c∈v.funcs)(hpar:∀g,g∈v.funcs→g.params≤4)(h:codeB c v.globs.length v.funcs.length (parV v)=true):FnOkG (virtG v) (codeG c):=by
 obtain⟨⟨p0,p1,p2,p3,p4,p5,p6,p7⟩,hall,hlast⟩:=codeB_ok h;obtain⟨nt,hnt⟩:=Int.eq_ofNat_of_zero_le (show 0≤c.regs by omega);have ob:obsB c.locs=true∧(c.locs.length:Int)≤400:=by simpa [objsB]using p4
 refine⟨⟨nt,hnt,by omega,fun b hb=>?_⟩,⟨by show 0≤c.params;omega,by show c.params≤c.regs;omega⟩,fun o ho=>⟨obsB_ok' ob.1 o ho,hin.locs c hc o ho⟩,by show c.locs.length≤400;omega,by show 0<(blocksI c.ins).length;rw[blocksI_len];omega,by show(blocksI c.ins).length≤_;rw[blocksI_len];omega⟩;have hb':b∈blocksI c.ins:=hb;obtain⟨k,hk,rfl⟩:∃k,k<c.ins.length∧blockI c.ins (c.ins.drop k) k=b:=by
  unfold blocksI at hb';obtain⟨k,hk,e⟩:=List.mem_map.1 hb';exact⟨k,List.mem_range.1 hk,e⟩
 obtain⟨b1,b2,b3,b4,b5,b6,b7⟩:=blockI_ok (nt:=nt) (hin.ins c hc) hnt hpar (by omega) hall hlast _ k rfl;have hbl:(codeG c).blocks.length=c.ins.length:=blocksI_len _;exact⟨b1,by simp at b2;omega,b3,by rw[hbl];exact b4,by rw[hbl];exact b5,fun _=>⟨b6,b7⟩⟩
theorem vmay_par(h:vmayB v=true):∀g,g∈v.funcs→g.params≤4:=by
 intro g hg;unfold vmayB at h;by_cases hh:vmayP v
 ·rw[if_pos hh]at h;have:=List.all_eq_true.1 h g hg;obtain⟨⟨_,p1,_⟩,_⟩:=codeB_ok this;omega
 ·rw[if_neg hh]at h;cases h
theorem vmay_ok(hin:VirtIn v)(h:vmayB v=true):ProgOkG (virtG v):=by
 have hpar:=vmay_par h;unfold vmayB at h;by_cases hh:vmayP v
 ·rw[if_pos hh]at h;obtain⟨h1,h2,h3,h4,h5⟩:=hh;have ob:obsB v.globs=true∧(v.globs.length:Int)≤16:=by simpa [objsB]using h1
  refine⟨fun o ho=>⟨obsB_ok' ob.1 o ho,hin.globs o ho⟩,by show v.globs.length≤16;omega,fun g hg=>?_,?_⟩
  ·obtain⟨c,hc,rfl⟩:=List.mem_map.1 (show g∈v.funcs.map codeG from hg);exact code_ok hin hc hpar (List.all_eq_true.1 h c hc)
  ·obtain⟨f,hf⟩:=Int.eq_ofNat_of_zero_le h4.1;have hfl:f<v.funcs.length:=by omega
   rw[hf,Int.toNat_natCast,List.getD_eq_getElem?_getD,List.getElem?_eq_getElem hfl]at h5;exact⟨f,codeG v.funcs[f],hf,by simp[virtG,hfl],h5⟩
 ·rw[if_neg hh]at h;cases h
end
end Go.Proofs.YtlenilbkifofjaaGreatDoor
namespace Go.Proofs.YtlenilbkifofjaaGreatDoor
open Go.RowKit
def headI(r:Int):InsS:=⟨1,r,0,0,0,[]⟩
def headed(hs:List Int)(c:CodeS):CodeS:=⟨c.params,c.regs,c.locs,hs.map headI++c.ins⟩
theorem labN_headed(hs:List Int)(l:List InsS)(n:Int):labN (hs.map headI++l) n=hs.length+labN l n:=by
 induction hs with
 |nil=>simp
 |cons r hs ih=>
  have e:decide ((headI r).op=14∧(headI r).n=n)=false:=by simp[headI]
  unfold labN at ih ⊢;rw[List.map_cons,List.cons_append,List.findIdx_cons,e,ih,List.length_cons];simp only[cond_false];omega
def FinR(A:Int)(r:Option V×St):Prop:=(r.1≠none∨r.2.kind=1)∧r.2.steps≤A
def FinB(A:Int)(r:Bool×St×List V):Prop:=(r.1=true∨r.2.1.kind=1)∧r.2.1.steps≤A
def LikeR(M:Int)(r r':Option V×St):Prop:=∃n,r'=(r.1,{r.2 with steps:=n})∧n≤(M+1)*r.2.steps
def LikeB(M:Int)(r r':Bool×St×List V):Prop:=∃n,r'=(r.1,{r.2.1 with steps:=n},r.2.2)∧n≤(M+1)*r.2.1.steps
def SimZ(A M:Int)(ok:Int→Nat→Prop)(R R':CallR):Prop:=∀fn args s n,ok fn args.length→s.kind=0→0≤s.steps→n≤(M+1)*s.steps→FinR A (R fn args s)→LikeR M (R fn args s) (R' fn args {s with steps:=n})
def ZeroR(R:CallR):Prop:=∀fn args s,s.kind=0→(R fn args s).1≠none→(R fn args s).2.kind=0
theorem stepZ_true{f n:Int}{s:St}(h:(stepF f n s).1=true):s.kind=0∧s.steps+n≤f∧(stepF f n s).2={s with steps:=s.steps+n}:=by
 unfold stepF at h ⊢;by_cases hk:s.kind=0
 ·rw[if_pos hk]at h ⊢;by_cases h1:n>f-s.steps
  ·rw[if_pos h1]at h;cases h
  ·rw[if_neg h1];exact⟨hk,by omega,rfl⟩
 ·rw[if_neg hk]at h;cases h
theorem stepZ_yes{f n:Int}{s:St}(hk:s.kind=0)(h:s.steps+n≤f):stepF f n s=(true,{s with steps:=s.steps+n}):=by
 unfold stepF;rw[if_pos hk,if_neg (by omega)]
theorem stepZ_no{f n:Int}{s:St}(hk:s.kind=0)(h:(stepF f n s).1=false):(stepF f n s).2.kind=2:=by
 unfold stepF at h ⊢;rw[if_pos hk]at h ⊢;by_cases h1:n>f-s.steps
 ·rw[if_pos h1]
 ·rw[if_neg h1]at h;cases h
section
variable {A M f f':Int} {ok:Int→Nat→Prop} {R R':CallR}
theorem actF_zero(hR:ZeroR R){s:St}(hk:s.kind=0)(tp:List V)(x:StepS)(l:List V)(h:(actF R s tp x l).1=true):(actF R s tp x l).2.1.kind=0:=by
 unfold actF at h ⊢;split at h
 ·rename_i e;rw[if_pos e];exact hk
 rename_i e1;rw[if_neg e1];split at h
 ·rename_i e2;rw[if_pos e2];split at h
  ·exact hk
  ·cases h
 rename_i e2;rw[if_neg e2];split at h
 ·rename_i e3;rw[if_pos e3];split at h
  ·rename_i v s' er;have:=hR x.fn l s hk (by rw[er];simp);rw[er]at this;exact this
  ·cases h
 rename_i e3;rw[if_neg e3];split at h
 ·rename_i e5;rw[if_pos e5];split at h
  ·exact hk
  ·exact hk
 rename_i e5;rw[if_neg e5];split at h
 ·cases h
 rename_i e6;rw[if_neg e6];split at h
 ·cases h
 rename_i e7;rw[if_neg e7];exact hk
theorem actF_like(hz:SimZ A M ok R R'){s:St}(hk:s.kind=0)(h0:0≤s.steps){n:Int}(hn:n≤(M+1)*s.steps)(tp:List V)(x:StepS)(l:List V)(hx:x.op=3→ok x.fn l.length)(hF:FinB A (actF R s tp x l)):
  LikeB M (actF R s tp x l) (actF R' {s with steps:=n} tp x l):=by
 by_cases e3:x.op=3
 ·have hh:∀(R:CallR)(s:St),actF R s tp x l=match R x.fn l s with|(some v,s')=>(true,s',setT tp x.to v)|(none,s')=>(false,s',tp):=fun R s=>by
   unfold actF;rw[if_neg (by omega),if_neg (by omega),if_pos e3];cases R x.fn l s with
   |mk v s'=>cases v<;>rfl
  rw[hh]at hF ⊢;rw[hh];have hf:FinR A (R x.fn l s):=by
   cases hr:R x.fn l s with
   |mk v s'=>
    rw[hr]at hF;cases v with
    |none=>exact⟨Or.inr (hF.1.resolve_left (by simp)),hF.2⟩
    |some v=>exact⟨Or.inl (by simp),hF.2⟩
  obtain⟨m,hm,hle⟩:=hz x.fn l s n (hx e3) hk h0 hn hf;rw[hm];cases hr:R x.fn l s with
  |mk v s'=>
   rw[hr]at hle;cases v with
   |none=>exact⟨m,rfl,hle⟩
   |some v=>exact⟨m,rfl,hle⟩
 ·unfold actF at hF ⊢;by_cases e1:x.op=1
  ·rw[if_pos e1,if_pos e1];exact⟨n,rfl,hn⟩
  rw[if_neg e1]at hF ⊢;rw[if_neg e1];by_cases e2:x.op=2
  ·rw[if_pos e2,if_pos e2];simp only;cases storeF s.mem x.size (l.getD 0 ⟨0,0⟩) (l.getD 1 ⟨0,0⟩)with
   |none=>exact⟨n,rfl,hn⟩
   |some M'=>exact⟨n,rfl,hn⟩
  rw[if_neg e2,if_neg e3]at hF ⊢;rw[if_neg e2,if_neg e3];by_cases e5:x.op=5
  ·rw[if_pos e5,if_pos e5];obtain⟨inp,kind,code,out,steps,deep,calls,mem⟩:=s;cases inp<;>exact⟨n,rfl,hn⟩
  rw[if_neg e5]at hF ⊢;rw[if_neg e5];by_cases e6:(l.getD 0 ⟨0,0⟩).obj>0
  ·rw[if_pos e6,if_pos e6];exact⟨n,rfl,hn⟩
  rw[if_neg e6]at hF ⊢;rw[if_neg e6];by_cases e7:x.op=6
  ·rw[if_pos e7,if_pos e7];exact⟨n,rfl,hn⟩
  ·rw[if_neg e7,if_neg e7];exact⟨n,rfl,hn⟩
theorem evalTs_len{Me:List MO}{tp:List V}{lo:List Nat}:∀{ks:List T}{l:List V},evalTs Me tp lo ks=some l→l.length=ks.length
 |[],l,h=>by rw[evalTs]at h;injection h with h;subst h;rfl
 |k::ks,l,h=>by
  rw[evalTs]at h;cases hk:evalT Me tp lo k with
  |none=>rw[hk]at h;cases h
  |some v=>
   cases hks:evalTs Me tp lo ks with
   |none=>rw[hk,hks]at h;cases h
   |some r=>
    rw[hk,hks]at h;simp at h;subst h;rw[List.length_cons,List.length_cons,evalTs_len hks]
theorem doesF_like(hz:SimZ A M ok R R')(hmo:MonoR f R)(hf':(M+1)*A≤f')(hM:0≤M)(lo:List Nat){s:St}(hk:s.kind=0)(h0:0≤s.steps)(hsf:s.steps≤f){n:Int}(hn:n≤(M+1)*s.steps+M)(tp:List V)(x:StepS)(hx:x.op=3→ok x.fn x.args.length)
  (hF:FinB A (doesF R f lo s tp x)):LikeB M (doesF R f lo s tp x) (doesF R' f' lo {s with steps:=n} tp x)∧s.steps+1≤(doesF R f lo s tp x).2.1.steps:=by
 cases h1:(stepF f 1 s).1 with
 |false=>
  exfalso;have hd:doesF R f lo s tp x=(false,(stepF f 1 s).2,tp):=by unfold doesF;rw[if_pos h1]
  rw[hd]at hF;have h2:=stepZ_no hk h1;rcases hF.1 with h|h
  ·cases h
  ·simp only at h;omega
 |true=>
  obtain⟨_,hle,hs⟩:=stepZ_true h1;have hsp:stepF f 1 s=(true,{s with steps:=s.steps+1}):=by rw[←hs,←h1]
  have hd:doesF R f lo s tp x=match evalTs s.mem tp lo x.args with
    |none=>(false,{s with steps:=s.steps+1,kind:=3},tp)
    |some l=>actF R {s with steps:=s.steps+1} tp x l:=by
   unfold doesF;rw[hsp,if_neg (by simp)];rfl
  cases he:evalTs s.mem tp lo x.args with
  |none=>
   exfalso;rw[hd,he]at hF;rcases hF.1 with h|h
   ·cases h
   ·simp only at h;omega
  |some l=>
   rw[hd,he]at hF ⊢;simp only at hF ⊢;have hmon:s.steps+1≤(actF R {s with steps:=s.steps+1} tp x l).2.1.steps:=(actF_mono hmo (s:={s with steps:=s.steps+1}) hle tp x l).2.1;have hA:s.steps+1≤A:=Int.le_trans hmon hF.2;have hmul:(M+1)*(s.steps+1)≤(M+1)*A:=Int.mul_le_mul_of_nonneg_left hA (by omega);have hmul2:(M+1)*(s.steps+1)=(M+1)*s.steps+(M+1):=by rw[Int.mul_add,Int.mul_one]
   have hd':doesF R' f' lo {s with steps:=n} tp x=actF R' {s with steps:=n+1} tp x l:=by
    unfold doesF;rw[stepZ_yes (s:={s with steps:=n}) hk (by show n+1≤f';omega),if_neg (by simp)];simp only;rw[he]
   rw[hd'];exact⟨actF_like hz (s:={s with steps:=s.steps+1}) hk (by show 0≤s.steps+1;omega) (by show n+1≤(M+1)*(s.steps+1);omega) tp x l (fun h=>by rw[evalTs_len he];exact hx h) hF,hmon⟩
theorem doesF_zero(hR:ZeroR R)(lo:List Nat){s:St}(tp:List V)(x:StepS)(h:(doesF R f lo s tp x).1=true):(doesF R f lo s tp x).2.1.kind=0:=by
 unfold doesF at h ⊢;cases h1:(stepF f 1 s).1 with
 |false=>rw[if_pos h1]at h;cases h
 |true=>
  obtain⟨hk,_,hs⟩:=stepZ_true h1;rw[if_neg (by rw[h1];simp)]at h;rw[if_neg (by simp)];cases he:evalTs (stepF f 1 s).2.mem tp lo x.args with
  |none=>rw[he]at h;cases h
  |some l=>
   rw[he]at h;simp only at h ⊢;exact actF_zero hR (by rw[hs];exact hk) tp x l h
end
end Go.Proofs.YtlenilbkifofjaaGreatDoor
namespace Go.Proofs.YtlenilbkifofjaaGreatDoor
open Go.RowKit
theorem blocksF_zero{R:CallR}{f:Int}{lo:List Nat}{bs:List BlockS}:∀(g:Nat)(k:Int)(s:St)(tp:List V),(blocksF R f lo bs g k s tp).1≠none→(blocksF R f lo bs g k s tp).2.kind=0
 |0,_,s,_,h=>absurd rfl h
 |g+1,k,s,tp,h=>by
  rw[blocksF]at h ⊢;have key:∀v s' tp',blockF R f lo s tp (bs.getD k.toNat noBlock)=(.ret v,s',tp')→s'.kind=0:=fun v s' tp' e=>by
   unfold blockF at e;split at e
   ·cases e
   ·rename_i s1 tp1 _;cases h1:(stepF f 1 s1).1 with
    |false=>rw[if_pos h1]at e;cases e
    |true=>
     obtain⟨hk,_,hs⟩:=stepZ_true h1;rw[if_neg (by rw[h1];simp)]at e;split at e
     ·cases e
     ·split at e
      ·cases e
      ·split at e
       ·simp only[Prod.mk.injEq,Goes.ret.injEq]at e;rw[←e.2.1,hs];exact hk
       ·simp only[Prod.mk.injEq,reduceCtorEq,false_and]at e
  cases hb:blockF R f lo s tp (bs.getD k.toNat noBlock)with
  |mk go rest=>
   obtain⟨s',tp'⟩:=rest;rw[hb]at h;cases go with
   |over=>exact absurd rfl h
   |next k'=>exact blocksF_zero g k' s' tp' h
   |ret v=>exact key v s' tp' hb
theorem callF_zero{p:ProgS}{f:Int}:∀d,ZeroR (callF p f d)
 |0,fn,args,s,_,h=>absurd rfl h
 |d+1,fn,args,s,_,h=>by
  rw[callF]at h ⊢;simp only at h ⊢;split at h
  ·exact absurd rfl h
  ·rename_i hh;rw[if_neg hh];exact blocksF_zero _ _ _ _ h
theorem stepI_call{x:InsS}:((stepI x).op=3↔x.op=10)∧(x.op=10→(stepI x).fn=x.n∧(stepI x).args.length=x.arg.length):=by
 obtain⟨op,dst,a,b,n,arg⟩:=x;by_cases h:op=10
 ·subst h;exact⟨⟨fun _=>rfl,fun _=>rfl⟩,fun _=>⟨rfl,by simp[stepI]⟩⟩
 ·refine⟨⟨fun h3=>?_,fun h3=>absurd h3 h⟩,fun h3=>absurd h3 h⟩;exfalso;by_cases h1':op=1
  ·subst h1';simp[stepI]at h3
  by_cases h2':op=2
  ·subst h2';simp[stepI]at h3
  by_cases h3':op=3
  ·subst h3';simp[stepI]at h3
  by_cases h4':op=4
  ·subst h4';simp[stepI]at h3
  by_cases h5':op=5
  ·subst h5';simp[stepI]at h3
  by_cases h6':op=6
  ·subst h6';simp[stepI]at h3
  by_cases h7':op=7
  ·subst h7';simp[stepI]at h3
  by_cases h8':op=8
  ·subst h8';simp[stepI]at h3
  by_cases h9':op=9
  ·subst h9';simp[stepI]at h3
  by_cases h11':op=11
  ·subst h11';simp[stepI]at h3
  by_cases h12':op=12
  ·subst h12';simp[stepI]at h3
  by_cases h13':op=13
  ·subst h13';simp[stepI]at h3
  simp[stepI,h,h1',h2',h3',h4',h5',h6',h7',h8',h9',h11',h12',h13']at h3
theorem doesF_exit{R:CallR}{f:Int}{lo:List Nat}{s:St}{tp:List V}{x:InsS}(h:x.op=13):(doesF R f lo s tp (stepI x)).1=false:=by
 obtain⟨op,dst,a,b,n,arg⟩:=x;simp only at h;subst h;rw[show stepI ⟨13,dst,a,b,n,arg⟩=⟨6,-1,0,0,[tmpT a]⟩from rfl];unfold doesF;split
 ·rfl
 ·have e:∀Me,evalTs Me tp lo [tmpT a]=some [tp.getD a.toNat ⟨0,0⟩]:=fun Me=>by rw[evalTs,evalT_tmp,evalTs];rfl
  simp only[e];unfold actF;simp only;rw[if_neg (show¬(6:Int)=1 by decide),if_neg (show¬(6:Int)=2 by decide),if_neg (show¬(6:Int)=3 by decide),if_neg (show¬(6:Int)=5 by decide)];split
  ·rfl
  ·rfl
section
variable {A M f f':Int} {ok:Int→Nat→Prop} {R R':CallR} {s:St}
theorem blocks_like(hz:SimZ A M ok R R')(hzr:ZeroR R)(hmo:MonoR f R)(hf':(M+1)*A≤f')(hM:0≤M)(lo:List Nat)(hs:List Int)(l:List InsS)(hlab:∀x,x∈l→x.op=15∨x.op=16→labN l x.n<l.length)
  (hlast:∀(k:Nat)x,l[k]? =some x→x.op≠15→x.op≠13→x.op≠17→k+1<l.length)(hok:∀x,x∈l→x.op=10→ok x.n x.arg.length):
  ∀(g m k:Nat)(s:St)(tp:List V)(n:Int)(g':Nat),l.length-k=m→k<l.length→s.kind=0→0≤s.steps→s.steps≤f→n≤(M+1)*s.steps+M→A-s.steps<(g':Int)→FinR A (blocksF R f lo (blocksI l) g (k:Nat) s tp)→
   LikeR M (blocksF R f lo (blocksI l) g (k:Nat) s tp) (blocksF R' f' lo (blocksI (hs.map headI++l)) g' ((hs.length+k:Nat):Int) {s with steps:=n} tp):=by
 intro g
 induction g with
 |zero=>
  intro m k s tp n g' _ _ hk _ _ _ _ hF;exfalso;rcases hF.1 with h|h
  ·exact h rfl
  ·rw[show(blocksF R f lo (blocksI l) 0 (k:Nat) s tp).2=s from rfl,hk]at h;cases h
 |succ g ihg=>
  intro m
  induction m with
  |zero=>intro k s tp n g' hm hk;omega
  |succ m ihm=>
   intro k s tp n g' hm hk hkd h0 hsf hn hg' hF;have hstep:s.steps≤A:=by
    have:=(blocksF_mono hmo lo (blocksI l) (g+1) (k:Nat) tp hsf).2.1;exact Int.le_trans this hF.2
   obtain⟨g2,rfl⟩:∃g2,g'=g2+1:=⟨g'-1,by omega⟩
   obtain⟨x,hx⟩:∃x,l[k]? =some x:=⟨_,List.getElem?_eq_getElem hk⟩
   have hxm:=List.mem_of_getElem? hx;have hx':(hs.map headI++l)[hs.length+k]? =some x:=by
    rw[List.getElem?_append_right (by rw[List.length_map];omega),List.length_map,Nat.add_sub_cancel_left];exact hx
   have hlen':(hs.map headI++l).length=hs.length+l.length:=by rw[List.length_append,List.length_map]
   by_cases hst:Straight x
   ·
    have hB:FinB A (doesF R f lo s tp (stepI x)):=by
     cases hd:(doesF R f lo s tp (stepI x)).1 with
     |false=>
      rw[goI_over hx hst g hd]at hF;exact⟨Or.inr (hF.1.resolve_left (fun h=>h rfl)),hF.2⟩
     |true=>
      have hk1:k+1<l.length:=hlast k x hx hst.1 (fun h13=>by rw[doesF_exit h13]at hd;cases hd) hst.2.2;rw[goI_straight hx hst hk1 g]at hF;refine⟨Or.inl hd,?_⟩;rcases he:doesF R f lo s tp (stepI x)with⟨b,s1,tp1⟩
      rw[he]at hF hd;simp only at hd;subst hd;simp only at hF;have hs1:s1.steps≤f:=by
       have:=(doesF_mono hmo lo hsf tp (stepI x)).2.2;rw[he]at this;exact this
      exact Int.le_trans (blocksF_mono hmo lo (blocksI l) (g+1) ((k+1:Nat):Int) tp1 hs1).2.1 hF.2
    obtain⟨⟨n1,hD,hn1⟩,hsteps⟩:=doesF_like hz hmo hf' hM lo hkd h0 hsf hn tp (stepI x) (fun h=>by
     have h10:=stepI_call.1.1 h;rw[(stepI_call.2 h10).1,(stepI_call.2 h10).2];exact hok x hxm h10) hB
    cases hd:(doesF R f lo s tp (stepI x)).1 with
    |false=>
     rw[goI_over hx hst g hd,goI_over hx' hst g2 (by rw[hD];exact hd),hD];exact⟨n1,rfl,hn1⟩
    |true=>
     have hk1:k+1<l.length:=hlast k x hx hst.1 (fun h13=>by rw[doesF_exit h13]at hd;cases hd) hst.2.2;rw[goI_straight hx hst hk1 g]at hF ⊢;rw[goI_straight hx' hst (by rw[hlen'];omega) g2,hD];rcases he:doesF R f lo s tp (stepI x)with⟨b,s1,tp1⟩
     rw[he]at hF hd hn1 hsteps;simp only at hd hn1 hsteps;subst hd;simp only at hF ⊢;have hs1:s1.steps≤f:=by
      have:=(doesF_mono hmo lo hsf tp (stepI x)).2.2;rw[he]at this;exact this
     have hkk:s1.kind=0:=by
      have:=doesF_zero (f:=f) hzr lo (s:=s) tp (stepI x) (by rw[he]);rw[he]at this;exact this
     have:=ihm (k+1) s1 tp1 n1 (g2+1) (by omega) hk1 hkk (by omega) hs1 (by omega) (by omega) hF;rw[show hs.length+k+1=hs.length+(k+1)from by omega];exact this
   ·cases hy:(stepF f 1 s).1 with
    |false=>
     exfalso;rw[goI_dry hx hst g hy]at hF;have:=stepZ_no hkd hy;rcases hF.1 with h|h
     ·exact h rfl
     ·simp only at h;omega
    |true=>
     obtain⟨_,hle,hs2⟩:=stepZ_true hy;have hle2:s.steps+1≤f:=hle;have hfin:s.steps+1≤A:=by
      have hcase:x.op=15∨x.op=16∨x.op=17:=by
       unfold Straight at hst;omega
      rcases hcase with h|h|h
      ·rw[goI_jump hx h g hy,hs2]at hF;exact Int.le_trans (blocksF_mono hmo lo (blocksI l) g _ tp (s:={s with steps:=s.steps+1}) hle2).2.1 hF.2
      ·rw[goI_branch hx h g hy,hs2]at hF;exact Int.le_trans (blocksF_mono hmo lo (blocksI l) g _ tp (s:={s with steps:=s.steps+1}) hle2).2.1 hF.2
      ·rw[goI_ret hx h g hy,hs2]at hF;exact hF.2
     have hmul:(M+1)*(s.steps+1)≤(M+1)*A:=Int.mul_le_mul_of_nonneg_left hfin (by omega);have hmul2:(M+1)*(s.steps+1)=(M+1)*s.steps+(M+1):=by rw[Int.mul_add,Int.mul_one]
     have hy':stepF f' 1 {s with steps:=n}=(true,{s with steps:=n+1}):=stepZ_yes (s:={s with steps:=n}) hkd (by show n+1≤f';omega);have hyt:(stepF f' 1 {s with steps:=n}).1=true:=by rw[hy']
     have hcase:x.op=15∨x.op=16∨x.op=17:=by
      unfold Straight at hst;omega
     rcases hcase with h|h|h
     ·rw[goI_jump hx h g hy,hs2]at hF ⊢;rw[goI_jump hx' h g2 hyt,hy',labN_headed];exact ihg _ (labN l x.n) {s with steps:=s.steps+1} tp (n+1) g2 rfl (hlab x hxm (Or.inl h)) hkd (by show 0≤s.steps+1;omega) hle2 (by show n+1≤(M+1)*(s.steps+1)+M;omega) (by show A-(s.steps+1)<(g2:Int);omega) hF
     ·rw[goI_branch hx h g hy,hs2]at hF ⊢;rw[goI_branch hx' h g2 hyt,hy',labN_headed];by_cases hv:tp.getD x.a.toNat ⟨0,0⟩=⟨0,0⟩
      ·rw[if_pos hv]at hF ⊢;rw[if_pos hv];exact ihg _ (k+1) {s with steps:=s.steps+1} tp (n+1) g2 rfl (hlast k x hx (by omega) (by omega) (by omega)) hkd (by show 0≤s.steps+1;omega) hle2 (by show n+1≤(M+1)*(s.steps+1)+M;omega) (by show A-(s.steps+1)<(g2:Int);omega) hF
      ·rw[if_neg hv]at hF ⊢;rw[if_neg hv];exact ihg _ (labN l x.n) {s with steps:=s.steps+1} tp (n+1) g2 rfl (hlab x hxm (Or.inr h)) hkd (by show 0≤s.steps+1;omega) hle2 (by show n+1≤(M+1)*(s.steps+1)+M;omega) (by show A-(s.steps+1)<(g2:Int);omega) hF
     ·rw[goI_ret hx h g hy,hs2];rw[goI_ret hx' h g2 hyt,hy'];exact⟨n+1,rfl,by show n+1≤(M+1)*(s.steps+1);omega⟩
theorem head_run(hk:s.kind=0)(hs:List Int)(l:List InsS)(hl:0<l.length)(lo:List Nat)(tp:List V)(hz:∀r,r∈hs→0≤r∧tp.getD r.toNat ⟨0,0⟩=⟨0,0⟩)(g:Nat):
  ∀(j:Nat)(n:Int),j≤hs.length→n+(hs.length-j:Nat)≤f'→blocksF R' f' lo (blocksI (hs.map headI++l)) (g+1) (j:Nat) {s with steps:=n} tp=blocksF R' f' lo (blocksI (hs.map headI++l)) (g+1) ((hs.length+0:Nat):Int) {s with steps:=n+(hs.length-j:Nat)} tp:=by
 intro j;obtain⟨m,hm⟩:∃m,m=hs.length-j:=⟨_,rfl⟩
 induction m generalizing j with
 |zero=>
  intro n hj hle;have e:j=hs.length:=by omega
  subst e;simp
 |succ m ih=>
  intro n hj hle;have hjl:j<hs.length:=by omega
  have hx:(hs.map headI++l)[j]? =some (headI hs[j]):=by
   rw[List.getElem?_append_left (by rw[List.length_map];exact hjl),List.getElem?_map,List.getElem?_eq_getElem hjl];rfl
  have hst:Straight (headI hs[j]):=⟨by simp[headI],by simp[headI],by simp[headI]⟩
  obtain⟨h0,hg⟩:=hz hs[j] (List.getElem_mem hjl);have hd:doesF R' f' lo {s with steps:=n} tp (stepI (headI hs[j]))=(true,{s with steps:=n+1},tp):=by
   have e1:stepI (headI hs[j])=⟨1,hs[j],0,0,[conT 0]⟩:=rfl;have e2:evalTs s.mem tp lo [conT 0]=some [⟨0,0⟩]:=by rw[evalTs,evalT_con,evalTs];rfl
   rw[e1];unfold doesF;rw[stepZ_yes (s:={s with steps:=n}) hk (by show n+1≤f';omega),if_neg (by simp)];simp only[e2];unfold actF;rw[if_pos rfl];have e3:setT tp hs[j] ⟨0,0⟩=tp:=by
    unfold setT;rw[if_pos h0];refine List.ext_getElem? fun i=>?_;rw[List.getElem?_set];by_cases hi:hs[j].toNat=i
    ·subst hi;rw[if_pos rfl];rw[List.getD_eq_getElem?_getD]at hg;split
     ·rename_i hlt;rw[List.getElem?_eq_getElem hlt]at hg ⊢;simp only[Option.getD_some]at hg;rw[hg]
     ·rename_i hlt;rw[List.getElem?_eq_none (by omega)]
    ·rw[if_neg hi]
   simp only[List.getD_cons_zero,e3]
  rw[goI_straight hx hst (by rw[List.length_append,List.length_map];omega) g,hd];simp only;rw[ih (j+1) (by omega) (n+1) (by omega) (by omega),show n+1+((hs.length-(j+1):Nat):Int)=n+((hs.length-j:Nat):Int)from by omega]
end
structure ZeroV (v:VirtS) (hss:List (List Int)) (M:Int):Prop where
 len:hss.length=v.funcs.length
 most:∀hs,hs∈hss→(hs.length:Int)≤M
 params:∀(k:Nat)hs c,hss[k]? =some hs→v.funcs[k]? =some c→0≤c.params∧∀r,r∈hs→c.params≤r
 pos:∀c,c∈v.funcs→0<c.ins.length
 lab:∀c,c∈v.funcs→∀x,x∈c.ins→x.op=15∨x.op=16→labN c.ins x.n<c.ins.length
 last:∀c,c∈v.funcs→∀(k:Nat)x,c.ins[k]? =some x→x.op≠15→x.op≠13→x.op≠17→k+1<c.ins.length
 call:∀c,c∈v.funcs→∀x,x∈c.ins→x.op=10→(0≤x.n∧x.n<(v.funcs.length:Nat))∧((v.funcs.getD x.n.toNat noCode).params=(x.arg.length:Nat))
def headedV(hss:List (List Int))(v:VirtS):VirtS:=⟨v.globs,List.zipWith headed hss v.funcs,v.main⟩
def okV(v:VirtS)(fn:Int)(k:Nat):Prop:=(0≤fn∧fn<(v.funcs.length:Nat))∧(v.funcs.getD fn.toNat noCode).params=(k:Nat)
theorem startF_zero{n:Nat}{args:List V}{r:Nat}(h:args.length≤r):(startF n args).getD r ⟨0,0⟩=⟨0,0⟩:=by
 unfold startF;rw[List.getD_eq_getElem?_getD,List.getElem?_append_right h,List.getElem?_replicate];split<;>rfl
theorem callF_like{v:VirtS}{hss:List (List Int)}{A M f f':Int}(hv:ZeroV v hss M)(hc:Counts (virtG v))(hM:0≤M)(hf':f'=(A+10)*(M+1))(hA:0≤A):∀d,SimZ A M (okV v) (callF (virtG v) f d) (callF (virtG (headedV hss v)) f' d)
 |0,fn,args,s,n,_,hk,_,_,hF=>by
  exfalso;rcases hF.1 with h|h
  ·exact h rfl
  ·rw[show(callF (virtG v) f 0 fn args s).2=stopF 4 s from rfl]at h;unfold stopF at h;rw[if_pos hk]at h;cases h
 |d+1,fn,args,s,n,hok,hk,h0,hn,hF=>by
  obtain⟨⟨hf0,hfl⟩,hpar⟩:=hok;obtain⟨q,rfl⟩:∃q:Nat,fn=(q:Int):=⟨fn.toNat,by omega⟩
  have hql:q<v.funcs.length:=by omega
  obtain⟨c,hcq⟩:∃c,v.funcs[q]? =some c:=⟨_,List.getElem?_eq_getElem hql⟩
  obtain⟨hs,hsq⟩:∃hs,hss[q]? =some hs:=⟨_,List.getElem?_eq_getElem (by rw[hv.len];exact hql)⟩
  have hcm:=List.mem_of_getElem? hcq;rw[Int.toNat_natCast,List.getD_eq_getElem?_getD,hcq,Option.getD_some]at hpar;have hg:(virtG v).funcs.getD q noGraph=codeG c:=by
   show(v.funcs.map codeG).getD q noGraph=_;rw[List.getD_eq_getElem?_getD,List.getElem?_map,hcq];rfl
  have hg':(virtG (headedV hss v)).funcs.getD q noGraph=codeG (headed hs c):=by
   show((List.zipWith headed hss v.funcs).map codeG).getD q noGraph=_;rw[List.getD_eq_getElem?_getD,List.getElem?_map,List.getElem?_zipWith,hcq,hsq];rfl
  have hcnt:=hc (q:Int);rw[Int.toNat_natCast,hg]at hcnt;have hcnt0:0≤countsF c.locs:=hcnt;rw[callF,Int.toNat_natCast,hg]at hF ⊢;rw[callF,Int.toNat_natCast,hg'];simp only at hF ⊢;cases h1:(stepF f (countsF (codeG c).locs) {s with calls:=s.calls+1,deep:=max s.deep (s.calls+1)}).1 with
  |false=>
   exfalso;rw[if_pos h1]at hF;have:=stepZ_no (s:={s with calls:=s.calls+1,deep:=max s.deep (s.calls+1)}) hk h1;rcases hF.1 with h|h
   ·exact h rfl
   ·simp only at h;omega
  |true=>
   obtain⟨_,hle,hs2⟩:=stepZ_true h1;rw[if_neg (by rw[h1];simp),hs2]at hF;rw[if_neg (by simp),hs2];simp only at hF ⊢ hle;have hle':s.steps+countsF c.locs≤f:=hle;have hmn:=(blocksF_mono (callF_mono hc f d) (numsF s.mem (codeG c).locs.length) (codeG c).blocks (f-(s.steps+countsF c.locs)+1).toNat 0 (startF (codeG c).temps.toNat args) (s:={s with calls:=s.calls+1,deep:=max s.deep (s.calls+1),steps:=s.steps+countsF c.locs,mem:=makesF s.mem (codeG c).locs}) hle').2.1;have hA2:s.steps+countsF c.locs≤A:=Int.le_trans hmn hF.2;have hml:(M+1)*(s.steps+countsF c.locs)≤(M+1)*A:=Int.mul_le_mul_of_nonneg_left hA2 (by omega);have hml2:(M+1)*(s.steps+countsF c.locs)=(M+1)*s.steps+(M+1)*countsF c.locs:=Int.mul_add _ _ _;have hml3:countsF c.locs≤(M+1)*countsF c.locs:=by
    rw[Int.add_mul,Int.one_mul];have:=Int.mul_nonneg hM hcnt0;omega
   have hff:f'=(M+1)*A+10*(M+1):=by rw[hf',Int.add_mul,Int.mul_comm A]
   have hH:=hv.most hs (List.mem_of_getElem? hsq);have hml4:A-(s.steps+countsF c.locs)≤(M+1)*(A-(s.steps+countsF c.locs)):=by
    rw[Int.add_mul,Int.one_mul];have:=Int.mul_nonneg hM (show 0≤A-(s.steps+countsF c.locs) by omega);omega
   have hml5:(M+1)*(A-(s.steps+countsF c.locs))=(M+1)*A-(M+1)*(s.steps+countsF c.locs):=Int.mul_sub _ _ _;have hsp:stepF f' (countsF (codeG (headed hs c)).locs) {s with steps:=n,calls:=s.calls+1,deep:=max s.deep (s.calls+1)}=(true,{s with steps:=n+countsF c.locs,calls:=s.calls+1,deep:=max s.deep (s.calls+1)}):=
    stepZ_yes (s:={s with steps:=n,calls:=s.calls+1,deep:=max s.deep (s.calls+1)}) hk (by show n+countsF c.locs≤f';omega)
   rw[hsp,if_neg (by simp)];simp only;obtain⟨g2,hg2⟩:∃g2,(f'-(n+countsF c.locs)+1).toNat=g2+1:=⟨(f'-(n+countsF c.locs)+1).toNat-1,by omega⟩
   have hr:=head_run (f':=f') (R':=callF (virtG (headedV hss v)) f' d) (s:={s with calls:=s.calls+1,deep:=max s.deep (s.calls+1),mem:=makesF s.mem c.locs}) hk hs c.ins (hv.pos c hcm) (numsF s.mem c.locs.length) (startF c.regs.toNat args) (fun r hr=>by
    obtain⟨hp0,hp⟩:=hv.params q hs c hsq hcq;have:=hp r hr;exact⟨by omega,startF_zero (by omega)⟩) g2 0 (n+countsF c.locs) (Nat.zero_le _) (by omega)
   have hbl:=blocks_like (f:=f) (f':=f') (callF_like hv hc hM hf' hA d) (callF_zero d) (callF_mono hc f d) (by omega) hM (numsF s.mem c.locs.length) hs c.ins (hv.lab c hcm) (hv.last c hcm) (fun x hx h10=>hv.call c hcm x hx h10) (f-(s.steps+countsF c.locs)+1).toNat _ 0 {s with calls:=s.calls+1,deep:=max s.deep (s.calls+1),steps:=s.steps+countsF c.locs,mem:=makesF s.mem c.locs} (startF c.regs.toNat args) (n+countsF c.locs+(hs.length-0:Nat)) (g2+1) rfl (hv.pos c hcm) hk (by show 0≤s.steps+countsF c.locs;omega) hle' (by show n+countsF c.locs+((hs.length-0:Nat):Int)≤(M+1)*(s.steps+countsF c.locs)+M;omega) (by show A-(s.steps+countsF c.locs)<((g2+1:Nat):Int);omega) hF;rw[hg2]
   have e:blocksF (callF (virtG (headedV hss v)) f' d) f' (numsF s.mem (codeG (headed hs c)).locs.length) (codeG (headed hs c)).blocks (g2+1) 0 {s with steps:=n+countsF c.locs,calls:=s.calls+1,deep:=max s.deep (s.calls+1),mem:=makesF s.mem (codeG (headed hs c)).locs} (startF (codeG (headed hs c)).temps.toNat args)=blocksF (callF (virtG (headedV hss v)) f' d) f' (numsF s.mem c.locs.length) (blocksI (hs.map headI++c.ins)) (g2+1) ((hs.length+0:Nat):Int) {s with calls:=s.calls+1,deep:=max s.deep (s.calls+1),mem:=makesF s.mem c.locs,steps:=n+countsF c.locs+(hs.length-0:Nat)} (startF c.regs.toNat args):=hr;rw[e];exact hbl
theorem run_like{v:VirtS}{hss:List (List Int)}{M f:Int}(hv:ZeroV v hss M)(hc:Counts (virtG v))(hM:0≤M)(hmain:okV v v.main 0)(inp:List Int)(hk:(runF (virtG v) inp f).kind=1)(hA:0≤(runF (virtG v) inp f).steps):
  (runF (virtG (headedV hss v)) inp (((runF (virtG v) inp f).steps+10)*(M+1))).kind=1∧(runF (virtG (headedV hss v)) inp (((runF (virtG v) inp f).steps+10)*(M+1))).code=(runF (virtG v) inp f).code∧(runF (virtG (headedV hss v)) inp (((runF (virtG v) inp f).steps+10)*(M+1))).out=(runF (virtG v) inp f).out:=by
 obtain⟨A,hAe⟩:∃A,A=(runF (virtG v) inp f).steps:=⟨_,rfl⟩
 rw[←hAe]at hA ⊢;have hsim:=callF_like (f:=f) (f':=(A+10)*(M+1)) (A:=A) hv hc hM rfl hA 64 v.main [] ⟨inp,0,0,[],0,0,0,makesF [] v.globs⟩ 0 hmain rfl (Int.le_refl _) (by simp);unfold runF at hk hAe ⊢;have hgl:(virtG (headedV hss v)).globs=v.globs:=rfl;have hma:(virtG (headedV hss v)).main=v.main:=rfl;have hgl0:(virtG v).globs=v.globs:=rfl;have hma0:(virtG v).main=v.main:=rfl;rw[hgl0,hma0]at hk hAe ⊢;rw[hgl,hma];obtain⟨r,hr⟩:∃r,r=callF (virtG v) f 64 v.main [] ⟨inp,0,0,[],0,0,0,makesF [] v.globs⟩:=⟨_,rfl⟩
 rw[←hr]at hsim hk hAe ⊢;obtain⟨rv,rs⟩:=r;cases rv with
 |none=>
  have h3:rs.kind≠3:=fun h3=>by
   unfold endF at hk;simp only[h3,if_true]at hk;cases hk
  have he:endF (none,rs)=⟨rs.kind,rs.code,rs.out,rs.steps,rs.deep⟩:=by
   unfold endF;simp only;rw[if_neg h3]
  rw[he]at hk hAe ⊢;simp only at hk hAe;obtain⟨n,hn,_⟩:=hsim ⟨Or.inr hk,by rw[hAe];exact Int.le_refl _⟩;have hn2:callF (virtG (headedV hss v)) ((A+10)*(M+1)) 64 v.main [] ⟨inp,0,0,[],0,0,0,makesF [] v.globs⟩=(none,{rs with steps:=n}):=hn;rw[hn2];unfold endF;simp only;rw[if_neg h3];exact⟨hk,rfl,rfl⟩
 |some u=>
  by_cases hu:u.obj>0
  ·exfalso;unfold endF at hk;simp only[if_pos hu,if_true]at hk;cases hk
  ·have he:endF (some u,rs)=⟨1,u.n,rs.out,rs.steps,rs.deep⟩:=by
    unfold endF;simp only[if_neg hu];rw[if_neg (by decide)]
   rw[he]at hk hAe ⊢;simp only at hk hAe;obtain⟨n,hn,_⟩:=hsim ⟨Or.inl (by simp),by rw[hAe];exact Int.le_refl _⟩;have hn2:callF (virtG (headedV hss v)) ((A+10)*(M+1)) 64 v.main [] ⟨inp,0,0,[],0,0,0,makesF [] v.globs⟩=(some u,{rs with steps:=n}):=hn;rw[hn2];unfold endF;simp only[if_neg hu];rw[if_neg (by decide)];exact⟨rfl,rfl,rfl⟩
end Go.Proofs.YtlenilbkifofjaaGreatDoor
namespace Go.Proofs.YtlenilbkifofjaaGreatDoor
open Go.RowKit
theorem vwithin_any(n most:Int)(w:World):
  Calls Tryz.prog 80 #[.int .i64 n,.int .i64 most] w fun e w'=>e= .returned (.bool (decide (0≤n∧n<most)))∧w=w':=by
 go_enter Tryz.func80,Tryz.ntmps80;go_wp2
 all_goals go_ret
 all_goals exact⟨ret_b (by simp;try omega),rfl⟩
theorem vimm_any(n:Int)(w:World):
  Calls Tryz.prog 82 #[.int .i64 n] w fun e w'=>e= .returned (.bool (immB n))∧w=w':=by
 unfold immB;go_enter Tryz.func82,Tryz.ntmps82;go_wp2
 all_goals go_ret
 all_goals exact⟨ret_b (by simp;try omega),rfl⟩
theorem vbinary_any(op:Int)(w:World):
  Calls Tryz.prog 81 #[.int .i64 op] w fun e w'=>e= .returned (.bool (decide (12≤op∧op≤30)))∧w=w':=by
 go_enter Tryz.func81,Tryz.ntmps81;go_wp2
 all_goals go_ret
 all_goals exact⟨ret_b (by simp;try omega),rfl⟩
theorem vload_any(op:Int)(w:World):
  Calls Tryz.prog 84 #[.int .i64 op] w fun e w'=>e= .returned (.bool (decide (5≤op∧op≤11)))∧w=w':=by
 go_enter Tryz.func84,Tryz.ntmps84;go_wp2
 all_goals go_ret
 all_goals exact⟨ret_b (by simp;try omega),rfl⟩
theorem vunary_any(op:Int)(w:World):
  Calls Tryz.prog 83 #[.int .i64 op] w fun e w'=>e= .returned (.bool (decide (31≤op∧op≤36)))∧w=w':=by
 go_enter Tryz.func83,Tryz.ntmps83;go_wp2
 all_goals go_ret
 all_goals exact⟨ret_b (by simp;try omega),rfl⟩
end Go.Proofs.YtlenilbkifofjaaGreatDoor
namespace Go.Proofs.YtlenilbkifofjaaGreatDoor
open Go.RowKit Go.Maps
theorem lab_law:Keyed Tryz.prog 2:=int_keyed Tryz.underlying2
theorem lab_zero(w:World):(zeroValue 3).run Tryz.prog w= .ok (.int .i64 0) w:=by kernel_rfl
theorem lab_key{k:Int}(h:In64 k):keyOf Tryz.prog 2 (.int .i64 k)=some (.int .i64 k):=keyOf_int_mk Tryz.underlying2 (WalkArith.wf_i64 (by unfold In64 at h;omega))
def LabD(f:Int→Option Nat)(D:DataW Unit):Prop:=∀k,In64 k→Maps.has D (.int .i64 k)=(f k).isSome∧D.atKey (.int .i64 k) (.lit (.int .i64 0))= .lit (.int .i64 ((f k).getD 0:Nat))
def LabM(w:World)(b n:Nat)(f:Int→Option Nat):Prop:=∃D:DataW Unit,w.ownsMap Tryz.prog 2 (plainElem Tryz.prog 3) b n D∧LabD f D
theorem LabM.made(w:World):LabM (w.alloc (.map #[] 0)) w.heap.size 0 (fun _=>none):=
 ⟨.map [],World.ownsMap_made _ _ _ _,fun k _=>⟨rfl,rfl⟩⟩
theorem LabM.heap{w w':World}{b n:Nat}{f:Int→Option Nat}(h:LabM w b n f)(hb:w'.heap[b]? =w.heap[b]?):LabM w' b n f:=by
 obtain⟨D,⟨es,clock,h1,h2⟩,h3⟩:=h;exact⟨D,⟨es,clock,hb.trans h1,h2⟩,h3⟩
theorem LabM.lt{w:World}{b n:Nat}{f:Int→Option Nat}(h:LabM w b n f):b<w.heap.size:=by
 obtain⟨D,h1,_⟩:=h;exact h1.lt
theorem LabM.wr{F:Nat→Prop}{w w':World}{b n:Nat}{f:Int→Option Nat}(h:LabM w b n f)(hw:Wr F w w')(hF:¬F b):LabM w' b n f:=h.heap (hw.block b h.lt hF)
theorem LabM.below{w w':World}{b n:Nat}{f:Int→Option Nat}(h:LabM w b n f)(hw:Below w.heap.size w w'):LabM w' b n f:=h.heap (hw.block b h.lt)
theorem LabM.ne{w:World}{b n g:Nat}{f:Int→Option Nat}{cs:Array Value}{t:TypeId}(h:LabM w b n f)(hr:Row w g cs t):b≠g:=by
 rintro rfl;obtain⟨D,⟨es,clock,h1,_⟩,_⟩:=h;have h2:=h1.symm.trans (show w.heap[b]? =some (.cells cs t (0,0))from hr);exact Obj.noConfusion (Option.some.inj h2)
theorem LabM.look{w:World}{b n:Nat}{f:Int→Option Nat}(h:LabM w b n f){k:Int}(hk:In64 k):(Instr.lookup 86 (.map (some b)) (.int .i64 k) false).run Tryz.prog w= .ok (.int .i64 ((f k).getD 0:Nat)) w:=by
 obtain⟨D,h1,h2⟩:=h;obtain⟨c,hrun,hat,_⟩:=h1.lookup_int lab_law Tryz.underlying86 Tryz.underlying3 (lab_zero w) (lab_key hk);have:=(h2 k hk).2;rw[hat]at this;injection this with this;injection this with _ this;rw[hrun,this]
def labO(l:List InsS)(n:Int):Option Nat:=if labI l n=true then some (labN l n)else none
theorem labI_snoc{l:List InsS}{x:InsS}{n:Int}:labI (l++[x]) n=(labI l n||decide (x.op=14∧x.n=n)):=by simp[labI]
theorem labN_old{l r:List InsS}{n:Int}(h:labI l n=true):labN (l++r) n=labN l n:=by
 unfold labI at h;unfold labN;rw[List.findIdx_append,if_pos];rw[List.any_eq_true]at h;obtain⟨x,hx,hp⟩:=h;exact List.findIdx_lt_length_of_exists ⟨x,hx,hp⟩
theorem labN_new{l:List InsS}{x:InsS}{n:Int}(h:labI l n=false)(hx:x.op=14∧x.n=n):labN (l++[x]) n=l.length:=by
 unfold labI at h;unfold labN;have hl:l.findIdx (fun i=>decide (i.op=14∧i.n=n))=l.length:=by
  rw[List.findIdx_eq_length];intro y hy;cases hp:decide (y.op=14∧y.n=n)with
  |false=>rfl
  |true=>
   have this:l.any (fun i=>decide (i.op=14∧i.n=n))=true:=List.any_eq_true.2 ⟨y,hy,hp⟩;rw[h]at this;cases this
 rw[List.findIdx_append,hl,if_neg (by omega)];have:List.findIdx (fun i=>decide (i.op=14∧i.n=n)) [x]=0:=by
  rw[List.findIdx_cons,decide_eq_true hx];rfl
 omega
theorem labO_other{l:List InsS}{x:InsS}{n:Int}(hx:¬(x.op=14∧x.n=n)):labO (l++[x]) n=labO l n:=by
 unfold labO;rw[labI_snoc,decide_eq_false hx,Bool.or_false];by_cases h:labI l n=true
 ·rw[if_pos h,if_pos h,labN_old h]
 ·rw[if_neg h,if_neg h]
theorem labO_new{l:List InsS}{x:InsS}(h:labI l x.n=false)(hx:x.op=14):labO (l++[x]) x.n=some l.length:=by
 unfold labO;rw[labI_snoc,decide_eq_true ⟨hx,rfl⟩,Bool.or_true,if_pos rfl,labN_new h ⟨hx,rfl⟩]
end Go.Proofs.YtlenilbkifofjaaGreatDoor
