/- LiveZero: what a round of its walk needs. Conditions: as stated. virt.Alone: what is known of the calls, the function. Conditions: as stated. live.Live. Conditions: as stated. Live's laws wake. No condition but the table. VirtWeight: it answers some number. Conditions: as stated. gantletlaw14.Heavy: it answers. Conditions: as stated. VirtRuns: its regions that draw their order. Conditions: as stated. gantletlaw14.wakes, num. No condition. EqLongs, EqOutcome: of what reads the same. Conditions: as stated. VirtRuns: its last region, and small calls. Conditions: as stated. VirtRuns: small calls. Conditions: as stated. What is read as programs lies in memory as programs. No condition. What is read as programs, as asks of programs, lies in memory as programs, and its lists are of a size that memory may hold. No condition. -/
import Derived.Test.YtlenilbkifofjaaGreatDoorQ09Zz
import Derived.Test.YtlenilbkifofjaaGreatDoorRRunZz
import Derived.Test.YtlenilbkifofjaaGreatDoorVAskFZz
import Derived.Test.YtlenilbkifofjaaGreatDoorQ06Zz
import Derived.Test.YtlenilbkifofjaaGreatDoorLvMZz
import Derived.Test.YtlenilbkifofjaaGreatDoorQ05Zz
import Derived.Test.YtlenilbkifofjaaGreatDoorQ13Zz
import Derived.Test.YtlenilbkifofjaaGreatDoorQ08Zz
import Derived.Test.YtlenilbkifofjaaGreatDoorQ03Zz
import Derived.Test.YtlenilbkifofjaaGreatDoorVCopyEZz
import Derived.Test.YtlenilbkifofjaaGreatDoorQ01Zz
import Derived.Test.YtlenilbkifofjaaGreatDoorRVirtZz
import Derived.Test.YtlenilbkifofjaaGreatDoorQ02Zz
set_option linter.unusedVariables false
set_option linter.unusedSimpArgs false
set_option maxHeartbeats 8000000
set_option maxRecDepth 100000
namespace Go.Proofs.YtlenilbkifofjaaGreatDoor
open Go.RowKit
theorem InW.up{w:World}{B B':Nat}{v:Value}{l:List Int}(h:InW w B v l)(hB:B≤B'):InW w B' v l:=by
 obtain⟨A,cap,h0,h1,h2,h3⟩:=h;exact⟨A,cap,h0,h1,h2,fun hp=>by
  obtain⟨b,off,hA,hlt,hc⟩:=h3 hp;exact⟨b,off,hA,by omega,hc⟩⟩
theorem rrun_main(B:Nat)(fuel:Int)(p:VirtS)(inp:List Int)(GA FA IA:Option Addr)(gc fc ic:Nat)(w:World)(hB:B≤w.heap.size)(hP:VirtAt w B (.slice GA p.globs.length gc,.slice FA p.funcs.length fc,.int .i64 p.main) p)(hin:InW w B (.slice IA inp.length ic) inp)(hvm:vmayB p=true)(h0:0≤fuel)(h1:fuel≤100000000):
  Calls Tryz.prog 9 #[.agg #[.slice GA p.globs.length gc,.slice FA p.funcs.length fc,.int .i64 p.main],.slice IA inp.length ic,.int .i64 fuel] w fun e w'=>RunSays (runF (virtG p) inp fuel) w.heap.size w e w':=by
 obtain⟨f,g,hmn,hfg,hg0⟩:=vmay_main hvm;have hpin:=hP.pin;rw[hmn]at hP ⊢;exact rrun_ok B fuel p inp GA FA IA gc fc ic f g w hB hP hin hvm hpin hmn hfg hg0 h0 h1
theorem ownsRow_slice{w:World}{base:Nat}{e:TypeId}{size:Nat}{v:Value}{n:Nat}{xs:List Value}(h:w.ownsRow base e size v n xs):∃A cap,v= .slice A n cap:=by
 obtain⟨_,⟨h1,h2⟩|⟨g,cap,cur,hv,_⟩⟩:=h
 ·exact⟨none,0,by rw[h1,h2]⟩
 ·exact⟨_,_,hv⟩
theorem CopyV.ready{w:World}{base gc fc:Nat}{GA FA:Option Addr}{xs:List Value}{p:VirtS}{k:Nat}{c:CodeS}(h:CopyV w base GA gc FA fc xs p)(hk:p.funcs[k]? =some c)(hne:0<c.ins.length):
  ∃g ib io ic news,FA=some ⟨g,0,none⟩∧base≤g∧g<w.heap.size∧w.frozen? ⟨g,k*4+3,none⟩=false∧w.cell? ⟨g,k*4+3,none⟩=some (.slice (some ⟨ib,io,none⟩) c.ins.length ic)∧ib<w.heap.size∧
   news.length=c.ins.length*6∧(∀j u,news[j]? =some u→w.cell? ⟨ib,io+j,none⟩=some u∧u.oneCell'=true)∧
   ∀(hs:List Int)(W:World)(b2 g2 cap:Nat),(∀r,r∈hs→In64 r)→hs.length+c.ins.length≤9223372036854775807→Below w.heap.size w W→w.heap.size≤b2→W.ownsRow b2 43 6 (.slice (some ⟨g2,0,none⟩) (hs.length+c.ins.length) cap) (hs.length+c.ins.length) (headC hs++news)→
    CopyV (W.setCell ⟨g,k*4+3,none⟩ (.slice (some ⟨g2,0,none⟩) (hs.length+c.ins.length) cap)) base GA gc FA fc (xs.set (k*4+3) (.slice (some ⟨g2,0,none⟩) (hs.length+c.ins.length) cap)) ⟨p.globs,p.funcs.set k ⟨c.params,c.regs,c.locs,hs.map headI++c.ins⟩,p.main⟩:=by
 obtain⟨g,IA,ic,hFA,hg1,hg2,hfz,hcell,hs⟩:=h.at hk;obtain⟨A',cap',h0,_,h3⟩:=id hs;injection h0 with e1 _ e3;subst e1 e3;obtain⟨ib,io,hIA,hib,hx⟩:=h3 hne;subst hIA;obtain⟨n1,n2,n3⟩:=ins_cells (n:=c.ins.length) rfl hx;have hc:∀j u,(cellsL (only w (fun b=>base≤b∧b≠g)) ib io (c.ins.length*6))[j]? =some u→w.cell? ⟨ib,io+j,none⟩=some u∧u.oneCell'=true:=fun j u hu=>⟨(only_cell (n2 j u hu).1).2.2,(n2 j u hu).2⟩
 refine⟨g,ib,io,ic,_,hFA,hg1,hg2,hfz,hcell,hib,n1,hc,fun hs W b2 g2 cap hall hlen hb hb2 hown=>?_⟩;subst hFA;refine CopyV.put h hk hb ?_;refine headed_slice (off:=io) (b:=ib) hall hb hb2 h.size hg2 hlen hx (fun j hj=>?_) hown;obtain⟨u,hu⟩:∃u,(cellsL (only w (fun b=>base≤b∧b≠g)) ib io (c.ins.length*6))[j]? =some u:=⟨_,List.getElem?_eq_getElem (by rw[n1];exact hj)⟩
 rw[hu,(hc j u hu).1]
theorem lz_same{p p':VirtS}{hss:List (List Int)}{M:Nat}(hpt:Part p p' hss p.funcs.length)(hm:∀hs,hs∈hss→hs.length≤M)(hp:∀(k:Nat)hs c,hss[k]? =some hs→p.funcs[k]? =some c→∀r,r∈hs→c.params≤r)(hvm:vmayB p=true)(hin:VirtIn p)(inp:List Int){f:Int}(h0:0≤f)(hk:(runF (virtG p) inp f).kind=1):
  (runF (virtG p') inp (((runF (virtG p) inp f).steps+10)*((M:Int)+1))).kind=1∧(runF (virtG p') inp (((runF (virtG p) inp f).steps+10)*((M:Int)+1))).code=(runF (virtG p) inp f).code∧(runF (virtG p') inp (((runF (virtG p) inp f).steps+10)*((M:Int)+1))).out=(runF (virtG p) inp f).out:=by
 rw[hpt.all];exact run_like (may_zero hvm hpt.done (fun hs h=>by have:=hm hs h;omega) hp) (counts_ofZ (vmay_ok hin hvm)) (by omega) (may_main hvm) inp hk (run_bound (counts_ofZ (vmay_ok hin hvm)) inp h0).1
theorem heads_next{p:VirtS}{hss:List (List Int)}{M n:Nat}{c:CodeS}{hs:List Int}(h1:∀hs,hs∈hss→hs.length≤M)(h2:∀(j:Nat)hs c,hss[j]? =some hs→p.funcs[j]? =some c→∀r,r∈hs→c.params≤r)(hn:hss.length=n)(hc:p.funcs[n]? =some c)(hh:∀r,r∈hs→c.params≤r):
  (∀h,h∈hss++[hs]→h.length≤max M hs.length)∧∀(j:Nat)h c,(hss++[hs])[j]? =some h→p.funcs[j]? =some c→∀r,r∈h→c.params≤r:=by
 refine⟨fun h hm=>?_,fun j h d hj hd r hr=>?_⟩
 ·rcases List.mem_append.1 hm with hm|hm
  ·exact Nat.le_trans (h1 h hm) (Nat.le_max_left _ _)
  ·obtain rfl:=List.mem_singleton.1 hm;exact Nat.le_max_right _ _
 ·rcases Nat.lt_trichotomy j n with hlt|heq|hgt
  ·rw[List.getElem?_append_left (by omega)]at hj;exact h2 j h d hj hd r hr
  ·subst heq;rw[List.getElem?_append_right (by omega),hn,Nat.sub_self]at hj;simp only[List.getElem?_cons_zero,Option.some.injEq]at hj;subst hj;rw[hc]at hd;injection hd with hd;subst hd;exact hh r hr
  ·rw[List.getElem?_eq_none (by simp;omega)]at hj;cases hj
theorem lz_fuel{p:VirtS}{M:Nat}(hM:M≤8000)(hvm:vmayB p=true)(hin:VirtIn p)(inp:List Int):0≤(runF (virtG p) inp 1000).steps∧(runF (virtG p) inp 1000).steps≤1000∧0≤((runF (virtG p) inp 1000).steps+10)*((M:Int)+1)∧((runF (virtG p) inp 1000).steps+10)*((M:Int)+1)≤100000000:=by
 have h:=run_bound (counts_ofZ (vmay_ok hin hvm)) inp (f:=1000) (by decide);refine⟨h.1,h.2,Int.mul_nonneg (by omega) (by omega),?_⟩;have h1:((runF (virtG p) inp 1000).steps+10)*((M:Int)+1)≤1010*((M:Int)+1):=Int.mul_le_mul_of_nonneg_right (by omega) (by omega);omega
end Go.Proofs.YtlenilbkifofjaaGreatDoor
namespace Go.Proofs.YtlenilbkifofjaaGreatDoor
open Go.RowKit Go.Maps
theorem know_law:Keyed Tryz.prog 3:=int_keyed Tryz.underlying3
theorem know_key{k:Int}(h:In64 k):keyOf Tryz.prog 3 (.int .i64 k)=some (.int .i64 k):=keyOf_int_mk Tryz.underlying3 (WalkArith.wf_i64 (by unfold In64 at h;omega))
def KnowM(w:World)(b n:Nat)(f:Int→Option Nat):Prop:=∃D:DataW Unit,w.ownsMap Tryz.prog 3 (plainElem Tryz.prog 3) b n D∧LabD f D
theorem KnowM.made(w:World):KnowM (w.alloc (.map #[] 0)) w.heap.size 0 noneK:=
 ⟨.map [],World.ownsMap_made _ _ _ _,fun k _=>⟨rfl,rfl⟩⟩
theorem KnowM.heap{w w':World}{b n:Nat}{f:Int→Option Nat}(h:KnowM w b n f)(hb:w'.heap[b]? =w.heap[b]?):KnowM w' b n f:=by
 obtain⟨D,⟨es,clock,h1,h2⟩,h3⟩:=h;exact⟨D,⟨es,clock,hb.trans h1,h2⟩,h3⟩
theorem KnowM.lt{w:World}{b n:Nat}{f:Int→Option Nat}(h:KnowM w b n f):b<w.heap.size:=by
 obtain⟨D,h1,_⟩:=h;exact h1.lt
theorem KnowM.wr{F:Nat→Prop}{w w':World}{b n:Nat}{f:Int→Option Nat}(h:KnowM w b n f)(hw:Wr F w w')(hF:¬F b):KnowM w' b n f:=h.heap (hw.block b h.lt hF)
theorem KnowM.ne{w:World}{b n g:Nat}{f:Int→Option Nat}{cs:Array Value}{t:TypeId}(h:KnowM w b n f)(hr:Row w g cs t):b≠g:=by
 rintro rfl;obtain⟨D,⟨es,clock,h1,_⟩,_⟩:=h;have h2:=h1.symm.trans (show w.heap[b]? =some (.cells cs t (0,0))from hr);exact Obj.noConfusion (Option.some.inj h2)
theorem KnowM.look{w:World}{b n:Nat}{f:Int→Option Nat}(h:KnowM w b n f){k:Int}(hk:In64 k):(Instr.lookup 83 (.map (some b)) (.int .i64 k) false).run Tryz.prog w= .ok (.int .i64 ((f k).getD 0:Nat)) w:=by
 obtain⟨D,h1,h2⟩:=h;obtain⟨c,hrun,hat,_⟩:=h1.lookup_int know_law Tryz.underlying83 Tryz.underlying3 (lab_zero w) (know_key hk);have:=(h2 k hk).2;rw[hat]at this;injection this with this;injection this with _ this;rw[hrun,this]
theorem KnowM.look2{w:World}{b n:Nat}{f:Int→Option Nat}(h:KnowM w b n f){k:Int}(hk:In64 k):(Instr.lookup 83 (.map (some b)) (.int .i64 k) true).run Tryz.prog w= .ok (.tuple #[.int .i64 ((f k).getD 0:Nat),.bool (f k).isSome]) w:=by
 obtain⟨D,h1,h2⟩:=h;obtain⟨v,ps,hrun,hR⟩:=h1.look_ok know_law Tryz.underlying83 (lab_zero w) (plainElem_int Tryz.underlying3 (a:=0) rfl) (know_key hk);obtain⟨a,rfl,hz,_⟩:=plainElem_int_inv Tryz.underlying3 hR;obtain⟨h3,h4⟩:=h2 k hk;have he:D.atKey (.int .i64 k) (.lit (.int .i64 0))= .lit (.int .i64 a):=congrArg Prod.fst hz;rw[h4]at he;injection he with he;injection he with _ he;rw[hrun,h3,he]
def cntK(s:Int→Option Nat):Nat:=((List.range 8).filter fun(i:Nat)=>(s (i:Int)).isSome).length
theorem filter_le{p q:Nat→Bool}(h:∀x,p x=true→q x=true):∀L:List Nat,(L.filter p).length≤(L.filter q).length
 |[]=>Nat.le_refl _
 |x::L=>by
  have ih:=filter_le h L;cases hp:p x with
  |true=>rw[List.filter_cons_of_pos hp,List.filter_cons_of_pos (h x hp),List.length_cons,List.length_cons];omega
  |false=>
   rw[List.filter_cons_of_neg (by rw[hp];decide)];cases hq:q x with
   |true=>rw[List.filter_cons_of_pos hq,List.length_cons];omega
   |false=>rw[List.filter_cons_of_neg (by rw[hq];decide)];exact ih
theorem filter_lt{p q:Nat→Bool}(h:∀x,p x=true→q x=true){a:Nat}(ha:p a=false)(hb:q a=true):∀L:List Nat,a∈L→(L.filter p).length+1≤(L.filter q).length
 |[],hm=>by simp at hm
 |x::L,hm=>by
  have il:=filter_le h L;by_cases e:a=x
  ·subst e;rw[List.filter_cons_of_neg (by rw[ha];decide),List.filter_cons_of_pos hb,List.length_cons];omega
  ·have ih:=filter_lt h ha hb L ((List.mem_cons.1 hm).resolve_left e);cases hp:p x with
   |true=>rw[List.filter_cons_of_pos hp,List.filter_cons_of_pos (h x hp),List.length_cons,List.length_cons];omega
   |false=>
    rw[List.filter_cons_of_neg (by rw[hp];decide)];cases hq:q x with
    |true=>rw[List.filter_cons_of_pos hq,List.length_cons];omega
    |false=>rw[List.filter_cons_of_neg (by rw[hq];decide)];exact ih
theorem cntK_le(s:Int→Option Nat):cntK s≤8:=Nat.le_trans (List.length_filter_le _ _) (by simp)
theorem cntK_put{s:Int→Option Nat}{m k:Nat}(hm:m<8)(hs:s (m:Int)=none):cntK s+1≤cntK (fun j=>if j=(m:Int)then some k else s j):=by
 unfold cntK;refine filter_lt (fun x hx=>?_) (a:=m) (by rw[hs];rfl) (by simp) _ (List.mem_range.2 hm);by_cases e:(x:Int)=(m:Int)
 ·simp[e]
 ·simp only[if_neg e];exact hx
structure Knows (kb mb:Nat) (s:Int→Option Nat) (w:World):Prop where
 row:Row w kb #[.map (some mb)] 83
 map:∃n,n≤cntK s∧KnowM w mb n s
theorem Knows.wr{kb mb:Nat}{s:Int→Option Nat}{F:Nat→Prop}{w w':World}(h:Knows kb mb s w)(hw:Wr F w w')(h1:¬F kb)(h2:¬F mb):Knows kb mb s w':=by
 obtain⟨n,hn,hm⟩:=h.map;exact⟨h.row.wr hw h1,n,hn,hm.wr hw h2⟩
theorem lpar_any(kb mb:Nat)(s:Int→Option Nat)(n:Int)(k:Nat)(W:World)(hn:0≤n∧n<8)(hk:k≤9223372036854775807)(hs:Knows kb mb s W):
  Calls Tryz.prog 30 #[.int .i64 n,.int .i64 k,.pointer (some ⟨kb,0,none⟩)] W fun e w'=>e= .returned (.bool (parK s n k).1)∧Knows kb mb (parK s n k).2 w'∧Wr (fun i=>i=mb) W w':=by
 obtain⟨m,rfl⟩:∃m:Nat,n=(m:Int):=⟨n.toNat,by omega⟩
 have hm8:m<8:=by omega
 have hIn:In64 (m:Int):=by unfold In64;omega
 obtain⟨cn,hcn,hmap⟩:=hs.map;have hlk:=hmap.look2 hIn;have r0:=hs.row.cell (j:=0) rfl;have rl:=hs.row.lt;have hne:=hmap.ne hs.row;cases hsm:s (m:Int)with
 |none=>
  rw[hsm]at hlk;have HS2:=Lib.hid (show parK s (m:Int) k=(decide (k≤4),fun j=>if j=(m:Int)then some k else s j)from by unfold parK;rw[if_pos hsm]);obtain⟨D,hown,hD⟩:=hmap;have HD:=Lib.hid hD;have HROW:=Lib.hid hs.row;have HCN:=Lib.hid (Nat.le_trans (Nat.add_le_add_right hcn 1) (cntK_put (k:=k) hm8 hsm));have HIN:=Lib.hid hIn;have hc8:=cntK_le s;have hee:((k:Int)==(k:Int))=true:=beq_self_eq_true _;clear hs hsm hD hIn;go_enter Tryz.func30,Tryz.ntmps30;refine wp_letter (fun Q hQ=>?_);have HQ:=Lib.hid hQ;clear hQ;go_wp2_with(first|(at_mapUpdate;refine wpList_mapUpdate_own _ rfl _ _ _ 83 rfl 3 3 know_law Tryz.underlying83 _ mb cn _ rfl hown (by unfold maxLen;omega) _ _ _ rfl rfl (know_key HIN.out) _ [] (plainElem_int Tryz.underlying3 (WalkArith.wf_i64 (by omega))) ?_)|go_in);intro w2 hown2 hg2
  have hD2:=labD_put (g:=fun j=>if j=(m:Int)then some k else s j) hown.isMap HD.out k (if_pos rfl) (fun j hj=>if_neg hj);have hwg:=Wr.grown (F:=fun i=>i=mb) hg2 (fun k hk=>by cases hk;rfl);have hrow2:=HROW.out.wr hwg (fun e=>hne e.symm);have hmap2:KnowM w2 mb (cn+1) (fun j=>if j=(m:Int)then some k else s j):=⟨_,hown2,hD2⟩
  have hlk2:=hmap2.look HIN.out;rw[if_pos rfl,Option.getD_some]at hlk2;have r02:=hrow2.cell (j:=0) rfl;have rl2:=hrow2.lt;have HWG:=Lib.hid hwg;have HK2:=Lib.hid (⟨hrow2,cn+1,HCN.out,hmap2⟩:Knows kb mb (fun j=>if j=(m:Int)then some k else s j) w2);clear hown hown2 hg2 hD2 hwg hrow2 hmap2 hlk r0 rl;by_cases h4:k≤4
  ·have d4:decide ((k:Int)≤4)=true:=decide_eq_true (by omega);have HP:=Lib.hid (show decide (k≤4)=true from decide_eq_true h4);go_wp2_with fail;refine HQ.out _ _ _ ?_;exact bodyPost_ret (v:= .bool true) (by simp[results,Tryz.results30,go_sem]) rfl ⟨by rw[HS2.out,HP.out],by rw[HS2.out];exact HK2.out,HWG.out⟩
  ·have d4:decide ((k:Int)≤4)=false:=decide_eq_false (by omega);have HP:=Lib.hid (show decide (k≤4)=false from decide_eq_false h4);go_wp2_with fail;refine HQ.out _ _ _ ?_;exact bodyPost_ret (v:= .bool false) (by simp[results,Tryz.results30,go_sem]) rfl ⟨by rw[HS2.out,HP.out],by rw[HS2.out];exact HK2.out,HWG.out⟩
 |some j=>
  have hlk2:=hmap.look hIn;rw[hsm]at hlk hlk2;rw[Option.getD_some]at hlk hlk2;have HS2:=Lib.hid (show parK s (m:Int) k=(decide (j=k)&& decide (k≤4),s)from by
   unfold parK;rw[if_neg (by rw[hsm];simp),hsm];simp)
  have HK:=Lib.hid hs;clear hs hsm hmap;by_cases hjk:j=k
  ·have hee:((j:Int)==(k:Int))=true:=by rw[hjk];exact beq_self_eq_true _
   have HJ:=Lib.hid (show decide (j=k)=true from decide_eq_true hjk);by_cases h4:k≤4
   ·have d4:decide ((k:Int)≤4)=true:=decide_eq_true (by omega);have HP:=Lib.hid (show decide (k≤4)=true from decide_eq_true h4);clear hjk;go_enter Tryz.func30,Tryz.ntmps30;refine wp_letter (fun Q hQ=>?_);have HQ:=Lib.hid hQ;clear hQ;go_wp2_with fail;refine HQ.out _ _ _ ?_;exact bodyPost_ret (v:= .bool true) (by simp[results,Tryz.results30,go_sem]) rfl ⟨by rw[HS2.out,HP.out,HJ.out];rfl,by rw[HS2.out];exact HK.out,Wr.refl _ _⟩
   ·have d4:decide ((k:Int)≤4)=false:=decide_eq_false (by omega);have HP:=Lib.hid (show decide (k≤4)=false from decide_eq_false h4);clear hjk;go_enter Tryz.func30,Tryz.ntmps30;refine wp_letter (fun Q hQ=>?_);have HQ:=Lib.hid hQ;clear hQ;go_wp2_with fail;refine HQ.out _ _ _ ?_;exact bodyPost_ret (v:= .bool false) (by simp[results,Tryz.results30,go_sem]) rfl ⟨by rw[HS2.out,HP.out,HJ.out];rfl,by rw[HS2.out];exact HK.out,Wr.refl _ _⟩
  ·have hee:((j:Int)==(k:Int))=false:=beq_eq_false_iff_ne.2 (by omega);have HJ:=Lib.hid (show decide (j=k)=false from decide_eq_false hjk);clear hjk;go_enter Tryz.func30,Tryz.ntmps30;refine wp_letter (fun Q hQ=>?_);have HQ:=Lib.hid hQ;clear hQ;go_wp2_with fail;refine HQ.out _ _ _ ?_;exact bodyPost_ret (v:= .bool false) (by simp[results,Tryz.results30,go_sem]) rfl ⟨by rw[HS2.out,HJ.out];rfl,by rw[HS2.out];exact HK.out,Wr.refl _ _⟩
theorem lalone_any(c:CodeS)(LA:Option Addr)(lc:Nat)(BA:Option Addr)(bc B:Nat)(w:World)(hB:B≤w.heap.size)(hL:SliceAt w B 3 (ObE w B) c.locs (.slice LA c.locs.length lc))(hK:SliceAt w B 6 (InsE w B) c.ins (.slice BA c.ins.length bc)):
  Calls Tryz.prog 20 #[.agg #[.int .i64 c.params,.int .i64 c.regs,.slice LA c.locs.length lc,.slice BA c.ins.length bc]] w fun e w'=>e= .returned (.bool (aloneB c))∧Below w.heap.size w w':=by
 have hmm:=@run_makeMap Tryz.prog;have hmf:∀(fn:Fn)(first cap:Array Value)(w:World),(Instr.makeFunc fn first cap).run Tryz.prog w= .ok (.func fn first cap) w:=fun _ _ _ _=>rfl;have hb3:Below w.heap.size w (((w.alloc (.cells #[.int .i64 c.params,.int .i64 c.regs,.slice LA c.locs.length lc,.slice BA c.ins.length bc] 39)).alloc (.map #[] 0)).alloc (.cells #[.map (some (w.heap.size+1))] 83)):=(below2 w _ _).trans ((below1 _ _).mono (by simp;omega))
 have hb4:Below w.heap.size w ((((w.alloc (.cells #[.int .i64 c.params,.int .i64 c.regs,.slice LA c.locs.length lc,.slice BA c.ins.length bc] 39)).alloc (.map #[] 0)).alloc (.cells #[.map (some (w.heap.size+1))] 83)).alloc (.cells #[.int .i64 c.params,.int .i64 c.regs,.slice LA c.locs.length lc,.slice BA c.ins.length bc,.int .i64 8,.int .i64 16,.func (.func 30) #[] #[.pointer (some ⟨w.heap.size+1+1,0,none⟩)],.map none] 88)):=hb3.trans ((below1 _ _).mono hb3.size);have hk0:KnowM ((w.alloc (.cells #[.int .i64 c.params,.int .i64 c.regs,.slice LA c.locs.length lc,.slice BA c.ins.length bc] 39)).alloc (.map #[] 0)) (w.heap.size+1) 0 noneK:=by
  have:=KnowM.made (w.alloc (.cells #[.int .i64 c.params,.int .i64 c.regs,.slice LA c.locs.length lc,.slice BA c.ins.length bc] 39))
  rwa [show(w.alloc (.cells #[.int .i64 c.params,.int .i64 c.regs,.slice LA c.locs.length lc,.slice BA c.ins.length bc] 39)).heap.size=w.heap.size+1 from by simp]at this
 have hk3:Knows (w.heap.size+1+1) (w.heap.size+1) noneK (((w.alloc (.cells #[.int .i64 c.params,.int .i64 c.regs,.slice LA c.locs.length lc,.slice BA c.ins.length bc] 39)).alloc (.map #[] 0)).alloc (.cells #[.map (some (w.heap.size+1))] 83)):=⟨Row.new' _ _ (by simp),0,Nat.zero_le _,hk0.wr (F:=fun _=>False) (Wr.of_below (below1 _ _)) (fun h=>h)⟩
 have hk4:Knows (w.heap.size+1+1) (w.heap.size+1) noneK ((((w.alloc (.cells #[.int .i64 c.params,.int .i64 c.regs,.slice LA c.locs.length lc,.slice BA c.ins.length bc] 39)).alloc (.map #[] 0)).alloc (.cells #[.map (some (w.heap.size+1))] 83)).alloc (.cells #[.int .i64 c.params,.int .i64 c.regs,.slice LA c.locs.length lc,.slice BA c.ins.length bc,.int .i64 8,.int .i64 16,.func (.func 30) #[] #[.pointer (some ⟨w.heap.size+1+1,0,none⟩)],.map none] 88)):=hk3.wr (F:=fun _=>False) (Wr.of_below (below1 _ _)) (fun h=>h) (fun h=>h)
 have HFN:=Lib.hid (vfn_any (Knows (w.heap.size+1+1) (w.heap.size+1)) parK (fun k=>k=w.heap.size+1) noneK (w.heap.size+1+1+1) c LA lc BA bc 8 16 (.pointer (some ⟨w.heap.size+1+1,0,none⟩)) (.map none) B ((((w.alloc (.cells #[.int .i64 c.params,.int .i64 c.regs,.slice LA c.locs.length lc,.slice BA c.ins.length bc] 39)).alloc (.map #[] 0)).alloc (.cells #[.map (some (w.heap.size+1))] 83)).alloc (.cells #[.int .i64 c.params,.int .i64 c.regs,.slice LA c.locs.length lc,.slice BA c.ins.length bc,.int .i64 8,.int .i64 16,.func (.func 30) #[] #[.pointer (some ⟨w.heap.size+1+1,0,none⟩)],.map none] 88)) (Row.new' _ _ (by simp)) (by simp;omega) (by omega)
  (hL.below (hb4.mono hB) (Nat.le_refl _) (fun _ _ h=>h.below (hb4.mono hB) (Nat.le_refl _))) (hK.below (hb4.mono hB) (Nat.le_refl _) (fun _ _ h=>h.below (hb4.mono hB) (Nat.le_refl _))) (fun k hk=>by subst hk;refine⟨by omega,by first|(simp;done)|(simp;omega),by omega⟩) hk4 (fun s W W' h hw=>h.wr hw (by omega) (by omega)) (fun s n k W hn hk hs _=>lpar_any _ _ s n k W hn hk hs))
 have HB4:=Lib.hid hb4;clear hL hK hb3 hb4 hk0 hk3 hk4;go_enter Tryz.func20,Tryz.ntmps20;refine wp_letter (fun Q hQ=>?_);have HQ:=Lib.hid hQ;clear hQ;go_wp2_with fail;refine HFN.out.mono ?_;rintro e w' ⟨rfl,_,hw⟩;have HW:=Lib.hid hw;clear hw;go_wp2_with fail;refine HQ.out _ _ _ ?_;exact bodyPost_ret (v:= .bool (aloneB c)) (by simp[results,Tryz.results20,go_sem,aloneB]) rfl ⟨rfl,HB4.out.trans (HW.out.below HB4.out.size (fun k hk=>by rcases hk with rfl|rfl<;>omega))⟩
end Go.Proofs.YtlenilbkifofjaaGreatDoor
namespace Go.Proofs.YtlenilbkifofjaaGreatDoor
open Go.RowKit
def LiveSays(c:CodeS)(w:World)(e:Ending)(w':World):Prop:=
 (aloneB c=true→∃rows A cap,IsLive c.ins rows∧e= .returned (.tuple #[.slice A rows.length cap,.int .i64 0])∧SliceAt w' w'.heap.size 1 (RowsE w' w'.heap.size) rows (.slice A rows.length cap))∧
 (aloneB c=false→e= .returned (.tuple #[.slice none 0 0,.int .i64 1]))∧Below w.heap.size w w'
theorem llive_any(c:CodeS)(LA:Option Addr)(lc:Nat)(BA:Option Addr)(bc B:Nat)(w:World)(hB:B≤w.heap.size)(hL:SliceAt w B 3 (ObE w B) c.locs (.slice LA c.locs.length lc))(hK:SliceAt w B 6 (InsE w B) c.ins (.slice BA c.ins.length bc))
  (hal:∀x,x∈c.ins→x.arg.length*8≤140737488351232)(hT:TabAt 0 Lib.deBruijn64tab w)(hg:0<w.heap.size):
  Calls Tryz.prog 7 #[.agg #[.int .i64 c.params,.int .i64 c.regs,.slice LA c.locs.length lc,.slice BA c.ins.length bc]] w fun e w'=>LiveSays c w e w':=by
 have HB1:=Lib.hid (below1 w (.cells #[.int .i64 c.params,.int .i64 c.regs,.slice LA c.locs.length lc,.slice BA c.ins.length bc] 39));have HBX:=Lib.hid (Row.new w #[.int .i64 c.params,.int .i64 c.regs,.slice LA c.locs.length lc,.slice BA c.ins.length bc] 39);have HA:=Lib.hid (fun W(hW:Below w.heap.size w W)=>lalone_any c LA lc BA bc B W (by have:=hW.size;omega) (hL.below (hW.mono hB) (Nat.le_refl _) (fun _ _ h=>h.below (hW.mono hB) (Nat.le_refl _))) (hK.below (hW.mono hB) (Nat.le_refl _) (fun _ _ h=>h.below (hW.mono hB) (Nat.le_refl _))));cases ha:aloneB c with
 |false=>
  have HF:=Lib.hid ha;rw[ha]at HA;clear hL hK hal hT ha;go_enter Tryz.func7,Tryz.ntmps7;refine wp_letter (fun Q hQ=>?_);have HQ:=Lib.hid hQ;clear hQ;go_wp2_with fail;refine(HA.out _ HB1.out).mono ?_;rintro e w1 ⟨rfl,hb1⟩;have HB2:=Lib.hid (HB1.out.trans (hb1.mono HB1.out.size));clear hb1;go_wp2_with fail;refine HQ.out _ _ _ ?_;exact bodyPost_ret (v:= .tuple #[.slice none 0 0,.int .i64 1]) (by simp[results,Tryz.results7,go_sem]) rfl ⟨fun h=>(by rw[HF.out]at h;cases h),fun _=>rfl,HB2.out⟩
 |true=>
  have HF:=Lib.hid ha;rw[ha]at HA;obtain⟨⟨h1,h2,h3,h4,_,h5,h6,h7⟩,_⟩:=alone_all ha;have HS:=Lib.hid (fun W(hW:Below w.heap.size w W)=>lsets_any c LA lc BA bc c.regs.toNat B W (by have:=hW.size;omega) (hK.below (hW.mono hB) (Nat.le_refl _) (fun _ _ h=>h.below (hW.mono hB) (Nat.le_refl _))) (alone_named ha) (fun x hx=>alone_regs ha hx) (by omega) (by omega) (by omega) h7 hal (tab_below hT hW hg) (by have:=hW.size;omega));clear hL hK hal hT ha h1 h2 h3 h4 h5 h6 h7;go_enter Tryz.func7,Tryz.ntmps7;refine wp_letter (fun Q hQ=>?_);have HQ:=Lib.hid hQ;clear hQ;go_wp2_with fail;refine(HA.out _ HB1.out).mono ?_;rintro e w1 ⟨rfl,hb1⟩;have HB2:=Lib.hid (HB1.out.trans (hb1.mono HB1.out.size));have hbx:=HBX.out.below hb1 HBX.out.lt;have x0:=hbx.cell (j:=0) rfl;have x1:=hbx.cell (j:=1) rfl;have x2:=hbx.cell (j:=2) rfl;have x3:=hbx.cell (j:=3) rfl
  have xl:=hbx.lt;clear hb1 hbx;go_wp2_with fail;refine(HS.out _ HB2.out).mono ?_;rintro e w2 ⟨rows,hl,A,cap,rfl,hs,_,hb2⟩;have HL:=Lib.hid hl;have HSL:=Lib.hid (SliceAt.sub RowsE.mono hs (only_sub _ _) (Nat.le_refl _));have HB3:=Lib.hid (HB2.out.trans (hb2.mono HB2.out.size));clear hl hs hb2 x0 x1 x2 x3 xl;go_wp2_with fail;refine HQ.out _ _ _ ?_;exact bodyPost_ret (v:= .tuple #[.slice A rows.length cap,.int .i64 0]) (by simp[results,Tryz.results7,go_sem]) rfl ⟨fun _=>⟨rows,A,cap,HL.out,rfl,HSL.out⟩,fun h=>(by rw[HF.out]at h;cases h),HB3.out⟩
def wakeL:List InsS:=[⟨1,0,0,0,3,[]⟩,⟨17,-1,0,0,0,[]⟩]
def wakeC:CodeS:=⟨0,1,[],wakeL⟩
theorem wake_alone:aloneB wakeC=true:=by decide
theorem wake_live:IsLive wakeL [[],[0],[]]:=by
 have hmem:∀k r,memR [[],[0],[]] k r↔k=1∧r=0:=by
  intro k r;unfold memR
  match k with
  |0=>simp
  |1=>simp
  |2=>simp
  |k+3=>simp
 refine⟨rfl,?_,fun k r h=>?_,fun M hM k r h=>?_⟩
 ·intro row h;simp at h;rcases h with rfl|rfl|rfl<;>simp[Rise]
 ·rw[hmem];obtain⟨x,hx,h⟩:=h
  match k,hx with
  |0,hx=>
   simp[wakeL]at hx;subst hx;rcases h with h|⟨h1,n,h2,h3⟩
   ·simp[regsL]at h
   ·have hn:n=1:=by simpa [nextL,wakeL]using h2
    subst hn;have:=((hmem _ _).1 h3).2;subst this;exact absurd rfl h1
  |1,hx=>
   simp[wakeL]at hx;subst hx;rcases h with h|⟨h1,n,h2,h3⟩
   ·simp[regsL]at h;exact⟨rfl,h⟩
   ·simp[nextL,wakeL]at h2
  |k+2,hx=>simp[wakeL]at hx
 ·obtain⟨rfl,rfl⟩:=(hmem k r).1 h;exact hM 1 0 ⟨⟨17,-1,0,0,0,[]⟩,rfl,Or.inl (by simp[regsL])⟩
theorem lnum16_any(e:Int)(w:World):Calls Tryz.prog 8 #[.int .i64 e] w fun en w'=>en= .returned (.int .i64 e)∧w'=w:=by
 go_enter Tryz.func8,Tryz.ntmps8;go_wp2_with fail;go_ret;exact⟨rfl,rfl⟩
theorem wakes16_any(w:World)(hT:TabAt 0 Lib.deBruijn64tab w)(hg:0<w.heap.size):
  Calls Tryz.prog 12 #[] w fun e w'=>e= .returned (.bool true)∧Below w.heap.size w w':=by
 have hb1:=below1 w (.cells #[.int .i64 1,.int .i64 0,.int .i64 0,.int .i64 0,.int .i64 3,.slice none 0 0,.int .i64 17,.int .i64 (-1),.int .i64 0,.int .i64 0,.int .i64 0,.slice none 0 0] 43);have hr:=Row.new w #[.int .i64 1,.int .i64 0,.int .i64 0,.int .i64 0,.int .i64 3,.slice none 0 0,.int .i64 17,.int .i64 (-1),.int .i64 0,.int .i64 0,.int .i64 0,.slice none 0 0] 43;obtain⟨W,hW⟩:∃W,W=w.alloc (.cells #[.int .i64 1,.int .i64 0,.int .i64 0,.int .i64 0,.int .i64 3,.slice none 0 0,.int .i64 17,.int .i64 (-1),.int .i64 0,.int .i64 0,.int .i64 0,.slice none 0 0] 43):=⟨_,rfl⟩
 rw[←hW]at hb1 hr;have h64:∀n:Int,-100≤n∧n≤100→In64 n:=fun n h=>by unfold In64;omega
 have hnil:∀B,LongsAt W B [] (.slice none 0 0):=fun B=>⟨none,0,rfl,by simp,fun h=>by simp at h⟩
 have hins:SliceAt W W.heap.size 6 (InsE W W.heap.size) wakeL (.slice (some ⟨w.heap.size,0,none⟩) wakeL.length 2):=⟨some ⟨w.heap.size,0,none⟩,2,rfl,by simp[wakeL],fun _=>⟨w.heap.size,0,rfl,hr.lt,fun i x hi=>by
  match i,hi with
  |0,hi=>
   simp[wakeL]at hi;subst hi;exact⟨hr.cell (j:=0) rfl,hr.cell (j:=1) rfl,hr.cell (j:=2) rfl,hr.cell (j:=3) rfl,hr.cell (j:=4) rfl,⟨_,hr.cell (j:=5) rfl,hnil _⟩,h64 _ (by simp),h64 _ (by simp),h64 _ (by simp),h64 _ (by simp),h64 _ (by simp)⟩
  |1,hi=>
   simp[wakeL]at hi;subst hi;exact⟨hr.cell (j:=6) rfl,hr.cell (j:=7) rfl,hr.cell (j:=8) rfl,hr.cell (j:=9) rfl,hr.cell (j:=10) rfl,⟨_,hr.cell (j:=11) rfl,hnil _⟩,h64 _ (by simp),h64 _ (by simp),h64 _ (by simp),h64 _ (by simp),h64 _ (by simp)⟩
  |i+2,hi=>simp[wakeL]at hi⟩⟩
 have HL:=llive_any wakeC none 0 (some ⟨w.heap.size,0,none⟩) 2 W.heap.size W (Nat.le_refl _) ⟨none,0,rfl,by simp[wakeC],fun h=>by simp[wakeC]at h⟩ hins (fun x hx=>by
  simp[wakeC,wakeL]at hx;rcases hx with rfl|rfl<;>simp) (tab_below hT hb1 hg) (by have:=hb1.size;omega)
 have HL:=Lib.hid (HL.mono (R':=fun e w'=>∃A cap,e= .returned (.tuple #[.slice A 3 cap,.int .i64 0])∧SliceAt w' w'.heap.size 1 (RowsE w' w'.heap.size) [[],[0],[]] (.slice A 3 cap)∧Below W.heap.size W w') (fun e w' h=>by
  obtain⟨rows,A,cap,h1,h2,h3⟩:=h.1 wake_alone;have:=h1.only wake_live;subst this;exact⟨A,cap,h2,h3,h.2.2⟩))
 simp only[wakeC,wakeL,List.length_nil,List.length_cons,Nat.zero_add,Nat.reduceAdd]at HL;have HB1:=Lib.hid hb1;rw[hW]at HL;clear hins hr hT hnil h64;go_enter Tryz.func12,Tryz.ntmps12;refine wp_letter (fun Q hQ=>?_);have HQ:=Lib.hid hQ;clear hQ;go_wp2_with fail;refine HL.out.mono ?_;rintro e w1 ⟨A,cap,rfl,hs,hb2⟩;rw[←hW]at hb2;have HB2:=Lib.hid (HB1.out.trans (hb2.mono HB1.out.size));obtain⟨b,off,r0,rfl,hb,hr0,v0,g0,hv0⟩:=SliceAt.get hs (show 0<3 by omega);obtain⟨b',off',r1,e1,hb',hr1,v1,g1,hv1⟩:=SliceAt.get hs (show 1<3 by omega);injection e1 with e1;injection e1 with e1 e2;subst e1 e2;simp at hr0 hr1;subst hr0 hr1;obtain⟨A0,c0,rfl,_⟩:=id hv0;obtain⟨A1,c1,rfl,_⟩:=id hv1;simp only[Nat.add_zero,Nat.zero_mul,Nat.one_mul]at g0 g1;have HV1:=Lib.hid hv1;clear hs hb2 hv0 hv1 hb' hW hb1
 go_wp2_with(first|(go_at_call 8;refine(lnum16_any _ _).mono ?_;rintro e w' ⟨rfl,hw'⟩;rw[hw'];clear hw' w')|fail);have hb3:=below1 w1 (.cells #[.int .i64 0] 3);have HE:=eqNumbers_at [0] A1 (some ⟨w1.heap.size,0,none⟩) c1 1 (w1.alloc (.cells #[.int .i64 0] 3)).heap.size (w1.alloc (.cells #[.int .i64 0] 3)) (Nat.le_refl _) (LongsAt.below HV1.out hb3 hb3.size) (longs_new1 w1 _ rfl 0 (by unfold In64;omega));refine HE.mono ?_;rintro e w3 ⟨rfl,hb4⟩;have HB4:=Lib.hid (HB2.out.trans ((hb3.trans (hb4.mono hb3.size)).mono HB2.out.size));clear hb3 hb4 HE;go_wp2_with fail;refine HQ.out _ _ _ ?_;exact bodyPost_ret (v:= .bool true) (by simp[results,Tryz.results12,go_sem]) rfl ⟨rfl,HB4.out⟩
theorem vwgt_any(p:VirtS)(P:Value×Value×Value)(B:Nat)(w:World)(hB:B≤w.heap.size)(hP:VirtAt w B P p)(hgl:p.globs.length≤200000000000000)(hlo:∀g,g∈p.funcs→g.locs.length≤200000000000000∧g.ins.length≤200000000000000∧∀x,x∈g.ins→x.arg.length≤200000000000000):
  Calls Tryz.prog 13 #[.agg #[P.1,P.2.1,P.2.2]] w fun e w'=>∃n:Int,e= .returned (.int .i64 n)∧0≤n∧n≤1000000000000000∧Below w.heap.size w w':=by
 obtain⟨GA,gc,FA,fc,rfl⟩:=hP.shape;have hfl:=hP.2.1.len.2;have HP:=Lib.hid hP;have HLO:=Lib.hid hlo;clear hP hlo;go_enter Tryz.func13,Tryz.ntmps13;refine wp_letter (fun Q hQ=>?_);have HQ:=Lib.hid hQ;clear hQ;go_wp2_with fail;go_loopw [3,4] (fun nn i wr=>∃(k:Nat)(n:Int),nn= .int .i64 n∧i= .int .i64 (k:Nat)∧k≤p.funcs.length∧0≤n∧n≤1000000000000000∧Below w.heap.size w wr∧Row wr w.heap.size #[.slice GA p.globs.length gc,.slice FA p.funcs.length fc,.int .i64 p.main] 30) (fun _ i _=>p.funcs.length-(intOf i).toNat)
 case atStart=>exact⟨0,p.globs.length,rfl,rfl,Nat.zero_le _,by omega,by omega,below1 w _,Row.new w _ _⟩
 case round=>
  obtain⟨k1,n1,rfl,rfl,hk1,hn01,hn11,hb1,hp1⟩:=hrel;obtain⟨w1,rfl⟩:∃w1:World,w1=wr:=⟨_,rfl⟩
  have hz1:=hb1.size;have HB1:=Lib.hid hb1;have HP1:=Lib.hid hp1;have p1:=hp1.cell (j:=1) rfl;have pl:=hp1.lt;clear hb1 hp1;by_cases hgo:k1<p.funcs.length∧n1<1048576
  ·obtain⟨hlt1,hnl1⟩:=hgo;have hd3:decide ((k1:Int)<(p.funcs.length:Int))=true:=by simpa using hlt1
   have hd4:decide (n1<1048576)=true:=by simpa using hnl1
   have hkl1:(k1:Int)<(p.funcs.length:Int):=by omega
   obtain⟨fb,foff,g,hfa,hfb,hfk,z0,z1,⟨lv,z2,hlv⟩,⟨bv,z3,hbv⟩,_,_⟩:=HP.out.2.1.get hlt1;subst hfa;obtain⟨⟨LA,lc,hlv0,_⟩,⟨BA,bc,hbv0,_⟩⟩:=And.intro hlv hbv;subst hlv0 hbv0;obtain⟨hll,hil,hax⟩:=HLO.out g (List.mem_of_getElem? hfk);have HBL:=Lib.hid hbv;have HAX:=Lib.hid hax;have HG:=Lib.hid (fun(W:World)(hW:Below w.heap.size w W)=>(⟨(hW.cell (p:=⟨fb,_,none⟩) (show fb<w.heap.size by omega)).trans z2,(hW.cell (p:=⟨fb,_,none⟩) (show fb<w.heap.size by omega)).trans z3⟩:W.cell? ⟨fb,foff+k1*4+2,none⟩=some (.slice LA g.locs.length lc)∧W.cell? ⟨fb,foff+k1*4+3,none⟩=some (.slice BA g.ins.length bc)));have z2':=(HG.out w1 HB1.out).1;have z3':=(HG.out w1 HB1.out).2;have hfbl:fb<w1.heap.size:=by omega
   clear hlv hbv hfk z0 z1 z2 z3 hax;go_wp2_with fail;refine still_tailq 18 (by kernel_rfl) (by kernel_rfl) ?_;simp only[List.take_succ_cons,List.take_zero,List.drop_succ_cons,List.drop_zero]
   repeat(go_big_quiet_step (fail))
   refine wpQuiet_nil ?_;go_wp2_with fail;go_loopw [3,5] (fun nn i wr=>∃(k:Nat)(n:Int),nn= .int .i64 n∧i= .int .i64 (k:Nat)∧k≤g.ins.length∧0≤n∧n≤1000000000000000∧Below w.heap.size w wr∧Row wr w.heap.size #[.slice GA p.globs.length gc,.slice (some ⟨fb,foff,none⟩) p.funcs.length fc,.int .i64 p.main] 30) (fun _ i _=>g.ins.length-(intOf i).toNat)
   case atStart=>exact⟨0,n1+1+g.locs.length+g.ins.length,by go_num,rfl,Nat.zero_le _,by omega,by omega,HB1.out.drew,HP1.out.drew⟩
   case round=>
    obtain⟨k2,n2,rfl,rfl,hk2,hn02,hn12,hb2,hp2⟩:=hrel;obtain⟨w2,rfl⟩:∃w2:World,w2=wr:=⟨_,rfl⟩
    have hz2:=hb2.size;have HB2:=Lib.hid hb2;have HP2:=Lib.hid hp2;have p1:=hp2.cell (j:=1) rfl;have pl:=hp2.lt;have z3:=(HG.out w2 hb2).2;have hfbl2:fb<w2.heap.size:=by omega
    have hkl1':(k1:Int)<(p.funcs.length:Int):=by omega
    clear hb2 hp2;by_cases hgo:k2<g.ins.length∧n2<1048576
    ·obtain⟨hlt2,hnl2⟩:=hgo;have hd3:decide ((k2:Int)<(g.ins.length:Int))=true:=by simpa using hlt2
     have hd4:decide (n2<1048576)=true:=by simpa using hnl2
     have hkl2:(k2:Int)<(g.ins.length:Int):=by omega
     obtain⟨bb,boff,x,hba,hbb,hbk,_,_,_,_,_,⟨sv,b5,hst⟩,_⟩:=HBL.out.get hlt2;obtain⟨SA,scap,hsv⟩:∃SA scap,sv= .slice SA x.arg.length scap:=(by obtain⟨A',c',h,_⟩:=hst;exact⟨_,_,h⟩)
     subst hsv hba;have harg:=HAX.out x (List.mem_of_getElem? hbk);have b5':=(HB2.out.cell (p:=⟨bb,_,none⟩) (show bb<w.heap.size by omega)).trans b5;have hbbl:bb<w2.heap.size:=by omega
     clear hbk hst b5;go_wp2_with fail
     try(refine still_tailq 13 (by kernel_rfl) (by kernel_rfl) ?_;simp only[List.take_succ_cons,List.take_zero,List.drop_succ_cons,List.drop_zero];repeat(go_big_quiet_step (fail));refine wpQuiet_nil ?_;go_wp2_with fail)
     go_roundw
     case rel=>exact⟨k2+1,n2+x.arg.length,by go_num,by go_num,by omega,by omega,by omega,(by first|exact HB2.out|exact HB2.out.drew),(by first|exact HP2.out|exact HP2.out.drew)⟩
     case measure=>simp[intOf];omega
    ·have hor:decide (k2<g.ins.length)=false∨(decide (k2<g.ins.length)=true∧decide (n2<1048576)=false):=by
      by_cases hlt:k2<g.ins.length
      ·exact Or.inr ⟨by simpa using hlt,by simp;exact Int.not_lt.1 (fun h=>hgo ⟨hlt,h⟩)⟩
      ·exact Or.inl (by simp;omega)
     clear hgo;rcases hor with hd|⟨hd,hd2⟩
     all_goals
      go_wp2_with fail;go_roundw
      case rel=>exact⟨k1+1,n2,by go_num,by go_num,by omega,by omega,by omega,HB2.out,HP2.out⟩
      case measure=>simp[intOf];omega
  ·have hor:decide (k1<p.funcs.length)=false∨(decide (k1<p.funcs.length)=true∧decide (n1<1048576)=false):=by
    by_cases hlt:k1<p.funcs.length
    ·exact Or.inr ⟨by simpa using hlt,by simp;exact Int.not_lt.1 (fun h=>hgo ⟨hlt,h⟩)⟩
    ·exact Or.inl (by simp;omega)
   clear hgo;rcases hor with hd|⟨hd,hd2⟩
   all_goals
    go_wp2_with fail;refine HQ.out _ _ _ ?_;exact bodyPost_ret (v:= .int .i64 n1) (by simp[results,Tryz.results13,go_sem]) rfl ⟨n1,rfl,by omega,by omega,HB1.out⟩
theorem heavy14_any(ps:List VirtS)(PA IA:Option Addr)(pn pc il ic:Nat)(fuel:Int)(B:Nat)(w:World)(hB:B≤w.heap.size)(hps:SliceAt w B 3 (VirtE w B) ps (.slice PA pn pc))(hpn:pn≤200000000000000)(hil:il≤200000000000000)(hsz:∀p,p∈ps→p.globs.length≤200000000000000∧∀g,g∈p.funcs→g.locs.length≤200000000000000∧g.ins.length≤200000000000000∧∀x,x∈g.ins→x.arg.length≤200000000000000):
  Calls Tryz.prog 4 #[.agg #[.slice PA pn pc,.slice IA il ic,.int .i64 fuel]] w fun e w'=>∃b,e= .returned (.bool b)∧Below w.heap.size w w':=by
 have HP:=Lib.hid hps;have HSZ:=Lib.hid hsz;clear hps hsz;go_enter Tryz.func4,Tryz.ntmps4;refine wp_letter (fun Q hQ=>?_);have HQ:=Lib.hid hQ;clear hQ;go_wp2_with fail;go_loopw [3,4] (fun a i wr=>∃(k:Nat)(n:Int),a= .int .i64 n∧i= .int .i64 k∧k≤pn∧0≤n∧n≤2000000000000000∧Below w.heap.size w wr∧Row wr w.heap.size #[.slice PA pn pc,.slice IA il ic,.int .i64 fuel] 25) (fun _ i _=>pn-(intOf i).toNat)
 case atStart=>exact⟨0,il+pn,rfl,rfl,by omega,by omega,by omega,below1 _ _,Row.new w _ _⟩
 case round=>
  obtain⟨k,n,rfl,rfl,hk2,hm0,hm1,hbw,hr⟩:=hrel;have HBW:=Lib.hid hbw;have HR:=Lib.hid hr;have r0:=hr.cell (j:=0) rfl;have rl:=hr.lt;have hzw:=hbw.size;by_cases hgo:k<pn∧n<1048576
  ·obtain⟨hlt,hn⟩:=hgo;obtain⟨b,off,p,hpa,hb,hk1,hE⟩:=(HP.out.below (hbw.mono hB) (Nat.le_refl _) (fun _ _ h=>h.below (hbw.mono hB) (Nat.le_refl _))).get hlt;obtain⟨P,c0,c1,c2,hpt⟩:=hE.at;simp only[Nat.add_zero]at c0 c1 c2;subst hpa;have hs:=HSZ.out p (List.mem_of_getElem? hk1);have HC:=Lib.hid (vwgt_any p P B wr (by omega) hpt hs.1 hs.2);have hklt:(k:Int)<(pn:Int):=by omega
   have hd3:decide ((k:Int)<(pn:Int))=true:=by simpa using hlt
   have hd4:decide (n<1048576)=true:=by simpa using hn
   have hbl:b<wr.heap.size:=by omega
   clear hk1 hpt hE hbw hr hs;go_wp2_with fail;refine HC.out.mono ?_;rintro e w1 ⟨q,rfl,hq0,hq1,hb1⟩;have HB1:=Lib.hid hb1;clear hb1;go_wp2_with fail;go_roundw
   case rel=>exact⟨k+1,n+q,rfl,by go_num,by omega,by omega,by omega,HBW.out.trans (HB1.out.mono hzw),HR.out.below HB1.out HR.out.lt⟩
   case measure=>simp[intOf];omega
  ·have hor:decide (k<pn)=false∨(decide (k<pn)=true∧decide (n<1048576)=false):=by
    by_cases hlt:k<pn
    ·exact Or.inr ⟨by simpa using hlt,by simp;exact Int.not_lt.1 (fun h=>hgo ⟨hlt,h⟩)⟩
    ·exact Or.inl (by simp;omega)
   clear hgo hbw hr;rcases hor with hd|⟨hd,hd2⟩
   all_goals
    go_wp2_with fail;refine HQ.out _ _ _ ?_;exact bodyPost_ret (v:= .bool (decide (9000<n))) (by simp[results,Tryz.results4,go_sem]) rfl ⟨_,rfl,HBW.out⟩
theorem size3'{cs:Array Value}(h:cs.size=3):∃a b c,cs=#[a,b,c]:=by
 obtain⟨l⟩:=cs
 match l,h with
 |[a,b,c],_=>exact⟨a,b,c,rfl⟩
def vlAC(N pb:Nat)(fu wv:Int)(W:World):Nat→Value→Prop
 |0,v|2,v=>v= .pointer (some ⟨pb,2,none⟩)
 |1,v|3,v=>v= .int .i64 fu
 |4,v=>v= .int .i64 wv
 |5,v|6,v=>∃g,v= .slice (some ⟨g,0,none⟩) 3 3∧N≤g∧Row W g #[.int .i64 fu,.int .i64 wv,.int .i64 3000] 3
 |_,_=>True
def vlBC(pb qb qoff k pn pc:Nat)(IA:Option Addr)(ic:Nat)(GA FA:Option Addr)(gc fc:Nat)(p:VirtS)(inp:List Int)(W:World):Nat→Value→(Nat→Prop)→Prop
 |0,v,_=>v= .pointer (some ⟨pb,0,none⟩)
 |1,v,_=>v= .slice (some ⟨qb,qoff,none⟩) pn pc
 |2,v,_=>v= .int .i64 (k:Nat)
 |3,v,_=>v= .pointer (some ⟨qb,qoff+k*3,none⟩)
 |4,v,_=>v= .agg #[.slice GA p.globs.length gc,.slice FA p.funcs.length fc,.int .i64 p.main]
 |5,v,S=>∃GA' gc' FA' fc',v= .agg #[.slice GA' p.globs.length gc',.slice FA' p.funcs.length fc',.int .i64 p.main]∧VirtAt (only W S) W.heap.size (.slice GA' p.globs.length gc',.slice FA' p.funcs.length fc',.int .i64 p.main) p
 |6,v,_=>v= .pointer (some ⟨pb,1,none⟩)
 |7,v,_=>v= .slice IA inp.length ic
 |8,v,S|11,v,S=>∃IA' ic',v= .slice IA' inp.length ic'∧inp.length≤ic'∧ic'≤9223372036854775807∧LongsAt (only W S) W.heap.size inp (.slice IA' inp.length ic')
 |_,_,_=>True
def vlCC(pi:Nat)(GA FA IA:Option Addr)(gn gc fn fc il ic:Nat)(mn:Int)(fb foff k2:Nat)(fu:Int):Nat→Value
 |0=> .agg #[.slice GA gn gc,.slice FA fn fc,.int .i64 mn]
 |1=> .slice IA il ic
 |2=> .slice (some ⟨fb,foff,none⟩) 3 3
 |3=> .int .i64 (k2:Nat)
 |4=> .pointer (some ⟨fb,foff+k2,none⟩)
 |5=> .int .i64 fu
 |_=>undef
def vlDC(N pb qb qoff k pn pc il ic gn gc fn fc:Nat)(IA GA FA:Option Addr)(mn:Int)(fb foff k2:Nat)(fu:Int)(o:OutS)(W:World):Nat→Value→Prop
 |0,v=>v= .pointer (some ⟨pb,0,none⟩)
 |1,v=>v= .slice (some ⟨qb,qoff,none⟩) pn pc
 |2,v=>v= .int .i64 (k:Nat)
 |3,v=>v= .pointer (some ⟨qb,qoff+k*3,none⟩)
 |4,v=>v= .agg #[.slice GA gn gc,.slice FA fn fc,.int .i64 mn]
 |5,v=>v= .pointer (some ⟨pb,1,none⟩)
 |6,v=>v= .slice IA il ic
 |7,v=>v= .slice (some ⟨fb,foff,none⟩) 3 3
 |8,v=>v= .int .i64 (k2:Nat)
 |9,v=>v= .pointer (some ⟨fb,foff+k2,none⟩)
 |10,v=>v= .int .i64 fu
 |11,v=>∃u,v=outA o u∧W.ownsRow N 2 1 u o.out.length (o.out.map (Value.int .i64))
 |12,v=>v= .int .i64 0
 |_,_=>True
def vW:VirtS:=⟨[],[⟨0,1,[],[⟨1,0,0,0,3,[]⟩,⟨17,-1,0,0,0,[]⟩]⟩],0⟩
theorem vW_good:goodV vW 5:=⟨by decide+kernel,by omega,by omega⟩
theorem vW_run:runF (virtG vW) [] 5=⟨1,3,[],2,1⟩:=by kernel_rfl
theorem vW_at(w:World):VirtAt ((w.alloc (.cells #[.int .i64 1,.int .i64 0,.int .i64 0,.int .i64 0,.int .i64 3,.slice none 0 0,.int .i64 17,.int .i64 (-1),.int .i64 0,.int .i64 0,.int .i64 0,.slice none 0 0] 43)).alloc (.cells #[.int .i64 0,.int .i64 1,.slice none 0 0,.slice (some ⟨w.heap.size,0,none⟩) 2 2] 39)) (w.heap.size+2) (.slice none 0 0,.slice (some ⟨w.heap.size+1,0,none⟩) 1 1,.int .i64 0) vW:=by
 have i0:In64 0:=by unfold In64;omega
 have i1:In64 1:=by unfold In64;omega
 have i3:In64 3:=by unfold In64;omega
 have i17:In64 17:=by unfold In64;omega
 have im:In64 (-1):=by unfold In64;omega
 have hb:Row ((w.alloc (.cells #[.int .i64 1,.int .i64 0,.int .i64 0,.int .i64 0,.int .i64 3,.slice none 0 0,.int .i64 17,.int .i64 (-1),.int .i64 0,.int .i64 0,.int .i64 0,.slice none 0 0] 43)).alloc (.cells #[.int .i64 0,.int .i64 1,.slice none 0 0,.slice (some ⟨w.heap.size,0,none⟩) 2 2] 39)) w.heap.size #[.int .i64 1,.int .i64 0,.int .i64 0,.int .i64 0,.int .i64 3,.slice none 0 0,.int .i64 17,.int .i64 (-1),.int .i64 0,.int .i64 0,.int .i64 0,.slice none 0 0] 43:=(Row.new _ _ _).alloc _
 have hg:Row ((w.alloc (.cells #[.int .i64 1,.int .i64 0,.int .i64 0,.int .i64 0,.int .i64 3,.slice none 0 0,.int .i64 17,.int .i64 (-1),.int .i64 0,.int .i64 0,.int .i64 0,.slice none 0 0] 43)).alloc (.cells #[.int .i64 0,.int .i64 1,.slice none 0 0,.slice (some ⟨w.heap.size,0,none⟩) 2 2] 39)) (w.heap.size+1) #[.int .i64 0,.int .i64 1,.slice none 0 0,.slice (some ⟨w.heap.size,0,none⟩) 2 2] 39:=Row.new' _ _ (by simp);generalize ((w.alloc (.cells #[.int .i64 1,.int .i64 0,.int .i64 0,.int .i64 0,.int .i64 3,.slice none 0 0,.int .i64 17,.int .i64 (-1),.int .i64 0,.int .i64 0,.int .i64 0,.slice none 0 0] 43)).alloc (.cells #[.int .i64 0,.int .i64 1,.slice none 0 0,.slice (some ⟨w.heap.size,0,none⟩) 2 2] 39))=W at hb hg ⊢
 refine⟨⟨none,0,rfl,by simp[vW],fun h=>by simp[vW]at h⟩,⟨_,1,rfl,by simp[vW],fun _=>⟨_,0,rfl,by omega,fun i x hi=>?_⟩⟩,rfl,i0⟩;rcases i with _|i
 ·simp[vW]at hi;subst hi;refine⟨hg.cell (j:=0) rfl,hg.cell (j:=1) rfl,⟨_,hg.cell (j:=2) rfl,none,0,rfl,by simp,fun h=>by simp at h⟩,⟨_,hg.cell (j:=3) rfl,_,2,rfl,by simp,fun _=>⟨_,0,rfl,by omega,fun i x hi=>?_⟩⟩,i0,i1⟩;rcases i with _|_|i
  ·simp at hi;subst hi;exact⟨hb.cell (j:=0) rfl,hb.cell (j:=1) rfl,hb.cell (j:=2) rfl,hb.cell (j:=3) rfl,hb.cell (j:=4) rfl,⟨_,hb.cell (j:=5) rfl,none,0,rfl,by simp,fun h=>by simp at h⟩,i1,i0,i0,i0,i3⟩
  ·simp at hi;subst hi;exact⟨hb.cell (j:=6) rfl,hb.cell (j:=7) rfl,hb.cell (j:=8) rfl,hb.cell (j:=9) rfl,hb.cell (j:=10) rfl,⟨_,hb.cell (j:=11) rfl,none,0,rfl,by simp,fun h=>by simp at h⟩,i17,im,i0,i0,i0⟩
  ·simp at hi
 ·simp[vW]at hi
def ReadsL(w:World)(v:Value)(l:List Int):Prop:=
 ∃A c,v= .slice A l.length c∧l.length≤c∧c≤9223372036854775807∧(0<l.length→∃b off,A=some ⟨b,off,none⟩∧b<w.heap.size∧∀k x,l[k]? =some x→w.cell? ⟨b,off+k,none⟩=some (.int .i64 x))
theorem ReadsL.below{w w':World}{v:Value}{l:List Int}(h:ReadsL w v l)(hb:Below w.heap.size w w'):ReadsL w' v l:=by
 obtain⟨A,c,h0,h1,h2,h3⟩:=h;refine⟨A,c,h0,h1,h2,fun hp=>?_⟩;obtain⟨b,off,hA,hlt,hc⟩:=h3 hp;have:=hb.size;exact⟨b,off,hA,by omega,fun k x hk=>cell_below (hc k x hk) hb hlt⟩
theorem ReadsL.of_own{w:World}{base:Nat}{e:TypeId}{v:Value}{l:List Int}(h:w.ownsRow base e 1 v l.length (l.map (Value.int .i64))):ReadsL w v l:=by
 have hc:=fun g=>h.cells (g:=g);obtain⟨_,h|⟨g,c,cur,hv,_,hh,h1,h2,_⟩⟩:=h
 ·exact⟨none,0,by rw[h.1,h.2],by omega,by omega,fun hp=>by omega⟩
 ·unfold maxLen at h2;refine⟨_,c,hv,by omega,by omega,fun hp=>⟨g,0,rfl,Row.lt hh,fun k x hk=>?_⟩⟩;have:=hc g (by rw[hv];rfl) k (.int .i64 x) (by rw[List.getElem?_map,hk];rfl);rw[addr0]at this;rw[Nat.zero_add];exact this
theorem ReadsL.of_in{w:World}{B:Nat}{v:Value}{l:List Int}(h:InW w B v l)(hB:B≤w.heap.size):ReadsL w v l:=by
 obtain⟨A,c,h0,h1,h2,h3⟩:=h;refine⟨A,c,h0,h1,h2,fun hp=>?_⟩;obtain⟨b,off,hA,hlt,hc⟩:=h3 hp;exact⟨b,off,hA,by omega,fun k x hk=>(hc k x hk).1⟩
theorem eqLongs_read(l:List Int)(v v':Value)(w:World)(hv:ReadsL w v l)(hu:ReadsL w v' l):
  Calls Tryz.prog 10 #[v,v'] w fun e w'=>e= .returned (.bool true)∧Below w.heap.size w w':=by
 obtain⟨A,c,rfl,hlc,hcm,hA⟩:=hv;obtain⟨A',c',rfl,_,_,hA'⟩:=hu;have hlm:l.length≤9223372036854775807:=by omega
 have hb0:((l.length:Int) !=(l.length:Int))=false:=by simp
 have HA:=Lib.hid hA;have HA':=Lib.hid hA';clear hA hA';go_enter Tryz.func10,Tryz.ntmps10;go_wp2_with fail;go_loopw [5] (fun i wr=>∃k:Nat,k≤l.length∧i= .int .i64 k∧Below w.heap.size w wr) (fun i _=>l.length-(intOf i).toNat)
 case atStart=>exact⟨0,by omega,rfl,Below.refl _ _⟩
 case round=>
  obtain⟨k,hk2,rfl,hbw⟩:=hrel;by_cases hlt:k<l.length
  ·obtain⟨x,hx⟩:∃x,l[k]? =some x:=⟨_,List.getElem?_eq_getElem hlt⟩
   obtain⟨b,off,rfl,hb,hc⟩:=HA.out (by omega);obtain⟨b',off',rfl,hb',hc'⟩:=HA'.out (by omega);have e1:wr.cell? ⟨b,off+k,none⟩=some (.int .i64 x):=cell_below (hc k x hx) hbw hb;have e2:wr.cell? ⟨b',off'+k,none⟩=some (.int .i64 x):=cell_below (hc' k x hx) hbw hb';have hklt:(k:Int)<(l.length:Int):=by omega
   have hxx:(x !=x)=false:=by simp
   clear hx hc hc';go_wp2_with fail;go_quiet (fail);go_wp2_with fail;go_roundw
   case rel=>exact⟨k+1,by omega,by go_num,below_drewN hbw _⟩
   case measure=>simp[intOf];omega
  ·obtain rfl:k=l.length:=by omega
   go_wp2_with fail;go_ret;exact⟨rfl,hbw⟩
theorem inw_of_longs{w:World}{B:Nat}{l:List Int}{A:Option Addr}{c:Nat}(h:LongsAt w B l (.slice A l.length c))(h1:l.length≤c)(h2:c≤9223372036854775807):InW w B (.slice A l.length c) l:=by
 obtain⟨A',c',h0,_,h3⟩:=h;injection h0 with e1 e2 e3;subst e1 e3;refine⟨A,c,rfl,h1,h2,fun hp=>?_⟩;obtain⟨b,off,hA,hb,hx⟩:=h3 hp;refine⟨b,off,hA,hb,fun j x hj=>?_⟩;have:=hx j x hj;simpa using this
def withinI(n:Int):Int:=wrap64 ((IntKind.u64.wrap n).tmod 300)
theorem within300_any(n:Int)(w:World):
  Calls Tryz.prog 11 #[.int .i64 n,.int .i64 300] w fun e w'=>e= .returned (.int .i64 (withinI n))∧w=w':=by
 go_enter Tryz.func11,Tryz.ntmps11;go_wp2_with fail;go_ret;exact⟨by unfold withinI;rfl,rfl⟩
theorem copyVirt_at(p:VirtS)(P:Value×Value×Value)(B:Nat)(w:World)(hB:B≤w.heap.size)(hP:VirtAt w B P p)(hsz:VirtF p):
  Calls Tryz.prog 6 #[.agg #[P.1,P.2.1,P.2.2]] w fun e w'=>∃GA' gc' FA' fc',e= .returned (.agg #[.slice GA' p.globs.length gc',.slice FA' p.funcs.length fc',.int .i64 p.main])∧VirtAt (only w' (From w.heap.size)) w'.heap.size (.slice GA' p.globs.length gc',.slice FA' p.funcs.length fc',.int .i64 p.main) p∧Below w.heap.size w w':=by
 refine(copyVirt_any p B w (fun j=>[P.1,P.2.1,P.2.2][j]?) _ _ _ hB (hP.toE _ rfl rfl rfl) rfl rfl rfl hsz).mono ?_;rintro e w' ⟨u0,u1,u2,rfl,hE,hb⟩;obtain⟨Q,e0,e1,e2,hat⟩:=hE.at;obtain⟨GA,gc,FA,fc,rfl⟩:=hat.shape;obtain rfl:=Option.some.inj e0;obtain rfl:=Option.some.inj e1;obtain rfl:=Option.some.inj e2;exact⟨GA,gc,FA,fc,rfl,hat,hb⟩
end Go.Proofs.YtlenilbkifofjaaGreatDoor
namespace Go.Proofs.YtlenilbkifofjaaGreatDoor
open Go.RowKit Go.Deep
theorem take_cell{cs l:List Value}{j n i:Nat}(h:(cs.drop j).take n=l)(hi:i<l.length):cs[j+i]? =l[i]? :=by
 subst h;rw[List.length_take]at hi;rw[List.getElem?_take,if_pos (by omega),List.getElem?_drop]
section
variable {H:Type} {enc:TypeId×Value→H} {w:World} {base:Nat} {spare:Nat→Bool} {held:Bool}
theorem slice_read{te ts:TypeId}{sz by1:Nat}{α:Type}(hts:Tryz.prog.underlying ts=some (.slice te))(hce:Tryz.prog.cellsOf te=sz)(hby:Tryz.prog.bytesOf te=by1)(hsz:0<sz)(hb1:1≤by1)
  (E:(Nat→Option Value)→α→Prop)(Sz:α→Prop)
  (hE:∀(k:Nat)(cs:List Value)(x:DataW H×List MemPlace),DataW.trod enc Tryz.prog w base spare held k te cs=some x→(∀n,n∈x.1.weights Tryz.prog te→n≤reachBytes)→∃t,Sz t∧∀c:Nat→Option Value,(∀j,j<sz→c j=cs[j]?)→E c t)
  {m:Nat}{cs:List Value}{x:DataW H×List MemPlace}(h:DataW.trod enc Tryz.prog w base spare held m ts cs=some x)(hw:∀n,n∈x.1.weights Tryz.prog ts→n≤reachBytes):
  ∃(l:List α)(A:Option Addr)(c:Nat),cs=[.slice A l.length c]∧SliceAt w w.heap.size sz E l (.slice A l.length c)∧l.length≤140737488351232∧l.length≤c∧c≤9223372036854775807∧∀t,t∈l→Sz t:=by
 have hml:maxLen=9223372036854775807:=rfl;have hr:reachBytes=140737488351232:=rfl;rcases DataW.trod_slice hts h with⟨rfl,_⟩|⟨a,len,cap,elems,rest,k,hk,rfl,hx,_,hl,hc,hel,he,_⟩
 ·exact⟨[],none,0,rfl,⟨none,0,rfl,by simp,fun h=>by simp at h⟩,by simp,by simp,by omega,fun t ht=>by cases ht⟩
 ·rw[hce]at he;have hx1:x.1= .slice (elems.map (·.1)) (rest.map (·.1)):=by rw[hx]
  have hwl:len≤140737488351232:=by
   have h1:=hw ((elems.length+rest.length)*Tryz.prog.bytesOf te) (by rw[hx1];simp only[DataW.weights,hts,List.length_map,List.mem_cons,true_or]);rw[hby,hr]at h1;have:len≤(elems.length+rest.length)*by1:=Nat.le_trans (by omega) (Nat.le_mul_of_pos_right _ (by omega));omega
  have raw:∀i,i<len→∃t,∃cs',w.cells? base (a.add (i*sz)) sz=some cs'∧Sz t∧∀c:Nat→Option Value,(∀j,j<sz→c j=cs'[j]?)→E c t:=by
   intro i hi;have h1:=he i hi;rw[List.getElem?_eq_getElem (by omega)]at h1;obtain⟨cs',h2,h3⟩:=Option.bind_eq_some_iff.1 h1;obtain⟨t,ht1,ht2⟩:=hE k cs' _ h3 (fun n hn=>hw n (by
    rw[hx1];simp only[DataW.weights,hts,List.mem_cons,List.mem_append];exact Or.inr (Or.inl (weights_mem_all (List.mem_map.2 ⟨_,List.getElem_mem (by omega),rfl⟩) hn))))
   exact⟨t,cs',h2,ht1,ht2⟩
  rcases Nat.eq_zero_or_pos len with h0|hp
  ·subst h0;exact⟨[],some a,cap,rfl,⟨_,cap,rfl,by simp,fun h=>by simp at h⟩,by simp,by simp,by omega,fun t ht=>by cases ht⟩
  ·have hspot:a.spot=none∧a.block<w.heap.size:=by
    obtain⟨t,cs',h2,_⟩:=raw 0 hp;have hb:=World.cells?_block h2 (by omega);have c0:=(World.cells?_some h2).2.2 0 (by omega);obtain⟨b,off,spot⟩:=a;have hs:spot=none:=by
     have hlt:0<cs'.length:=by rw[(World.cells?_some h2).2.1];omega
     rw[List.getElem?_eq_getElem hlt]at c0;simpa [Addr.add]using World.cell?_spot c0
    exact⟨hs,by simpa [Addr.add]using hb⟩
   obtain⟨b,off,spot⟩:=a;obtain⟨hs,hb⟩:=hspot;simp only at hs hb;subst hs;have key:∀i,i<len→∃t,Sz t∧E (fun j=>w.cell? ⟨b,off+i*sz+j,none⟩) t:=by
    intro i hi;obtain⟨t,cs',h2,h3,h4⟩:=raw i hi;rw[Go.WideShapes.add_plain]at h2;obtain⟨_,hlen,hcell⟩:=World.cells?_some h2;refine⟨t,h3,h4 _ (fun j hj=>?_)⟩;have c0:=hcell j (by omega);rw[Go.WideShapes.add_plain]at c0;exact c0
   obtain⟨l,hll,hls⟩:=list_of len (fun i t=>Sz t∧E (fun j=>w.cell? ⟨b,off+i*sz+j,none⟩) t) key;subst hll;exact⟨l,some ⟨b,off,none⟩,cap,rfl,⟨_,cap,rfl,by omega,fun _=>⟨b,off,rfl,hb,fun i t hi=>(hls i t hi).2⟩⟩,hwl,by omega,by omega,fun t ht=>by obtain⟨i,hi⟩:=List.mem_iff_getElem?.1 ht;exact(hls i t hi).1⟩
end
end Go.Proofs.YtlenilbkifofjaaGreatDoor
namespace Go.Proofs.YtlenilbkifofjaaGreatDoor
open Go.RowKit Go.Deep
section
variable {H:Type} {enc:TypeId×Value→H} {w:World} {base:Nat} {spare:Nat→Bool} {held:Bool}
theorem sliceF_read{te ts:TypeId}{sz by1:Nat}{α:Type}(hts:Tryz.prog.underlying ts=some (.slice te))(hce:Tryz.prog.cellsOf te=sz)(hby:Tryz.prog.bytesOf te=by1)(hsz:0<sz)(hb1:1≤by1)
  (E:(Nat→Option Value)→α→Prop)(Sz:α→Prop)
  (hE:∀(k:Nat)(cs:List Value)(x:DataW H×List MemPlace),DataW.trod enc Tryz.prog w base spare held k te cs=some x→(∀n,n∈x.1.weights Tryz.prog te→n≤reachBytes)→∃t,Sz t∧∀c:Nat→Option Value,(∀j,j<sz→c j=cs[j]?)→E c t)
  {m:Nat}{cs:List Value}{x:DataW H×List MemPlace}(h:DataW.trod enc Tryz.prog w base spare held m ts cs=some x)(hw:∀n,n∈x.1.weights Tryz.prog ts→n≤reachBytes):
  ∃(l:List α)(A:Option Addr)(c:Nat),cs=[.slice A l.length c]∧SliceAt w w.heap.size sz E l (.slice A l.length c)∧l.length*by1≤140737488351232∧l.length≤c∧c≤9223372036854775807∧∀t,t∈l→Sz t:=by
 have hml:maxLen=9223372036854775807:=rfl;have hr:reachBytes=140737488351232:=rfl;rcases DataW.trod_slice hts h with⟨rfl,_⟩|⟨a,len,cap,elems,rest,k,hk,rfl,hx,_,hl,hc,hel,he,_⟩
 ·exact⟨[],none,0,rfl,⟨none,0,rfl,by simp,fun h=>by simp at h⟩,by simp,by simp,by omega,fun t ht=>by cases ht⟩
 ·rw[hce]at he;have hx1:x.1= .slice (elems.map (·.1)) (rest.map (·.1)):=by rw[hx]
  have hwl:len*by1≤140737488351232:=by
   have h1:=hw ((elems.length+rest.length)*Tryz.prog.bytesOf te) (by rw[hx1];simp only[DataW.weights,hts,List.length_map,List.mem_cons,true_or]);rw[hby,hr]at h1;exact Nat.le_trans (Nat.mul_le_mul_right _ (by omega)) h1
  have raw:∀i,i<len→∃t,∃cs',w.cells? base (a.add (i*sz)) sz=some cs'∧Sz t∧∀c:Nat→Option Value,(∀j,j<sz→c j=cs'[j]?)→E c t:=by
   intro i hi;have h1:=he i hi;rw[List.getElem?_eq_getElem (by omega)]at h1;obtain⟨cs',h2,h3⟩:=Option.bind_eq_some_iff.1 h1;obtain⟨t,ht1,ht2⟩:=hE k cs' _ h3 (fun n hn=>hw n (by
    rw[hx1];simp only[DataW.weights,hts,List.mem_cons,List.mem_append];exact Or.inr (Or.inl (weights_mem_all (List.mem_map.2 ⟨_,List.getElem_mem (by omega),rfl⟩) hn))))
   exact⟨t,cs',h2,ht1,ht2⟩
  rcases Nat.eq_zero_or_pos len with h0|hp
  ·subst h0;exact⟨[],some a,cap,rfl,⟨_,cap,rfl,by simp,fun h=>by simp at h⟩,by simp,by simp,by omega,fun t ht=>by cases ht⟩
  ·have hspot:a.spot=none∧a.block<w.heap.size:=by
    obtain⟨t,cs',h2,_⟩:=raw 0 hp;have hb:=World.cells?_block h2 (by omega);have c0:=(World.cells?_some h2).2.2 0 (by omega);obtain⟨b,off,spot⟩:=a;have hs:spot=none:=by
     have hlt:0<cs'.length:=by rw[(World.cells?_some h2).2.1];omega
     rw[List.getElem?_eq_getElem hlt]at c0;simpa [Addr.add]using World.cell?_spot c0
    exact⟨hs,by simpa [Addr.add]using hb⟩
   obtain⟨b,off,spot⟩:=a;obtain⟨hs,hb⟩:=hspot;simp only at hs hb;subst hs;have key:∀i,i<len→∃t,Sz t∧E (fun j=>w.cell? ⟨b,off+i*sz+j,none⟩) t:=by
    intro i hi;obtain⟨t,cs',h2,h3,h4⟩:=raw i hi;rw[Go.WideShapes.add_plain]at h2;obtain⟨_,hlen,hcell⟩:=World.cells?_some h2;refine⟨t,h3,h4 _ (fun j hj=>?_)⟩;have c0:=hcell j (by omega);rw[Go.WideShapes.add_plain]at c0;exact c0
   obtain⟨l,hll,hls⟩:=list_of len (fun i t=>Sz t∧E (fun j=>w.cell? ⟨b,off+i*sz+j,none⟩) t) key;subst hll;exact⟨l,some ⟨b,off,none⟩,cap,rfl,⟨_,cap,rfl,by omega,fun _=>⟨b,off,rfl,hb,fun i t hi=>(hls i t hi).2⟩⟩,hwl,by omega,by omega,fun t ht=>by obtain⟨i,hi⟩:=List.mem_iff_getElem?.1 ht;exact(hls i t hi).1⟩
theorem longF_read{k:Nat}{cs:List Value}{x:DataW H×List MemPlace}(h:DataW.trod enc Tryz.prog w base spare held k 2 cs=some x):∃t:Int,True∧∀c:Nat→Option Value,(∀j,j<1→c j=cs[j]?)→c 0=some (.int .i64 t)∧In64 t:=by
 obtain⟨a,e,_,w0⟩:=DataW.trod_int Tryz.underlying2 h;exact⟨a,trivial,fun c hc=>⟨by rw[hc 0 (by omega),e];rfl,in64_of_wf w0⟩⟩
theorem longsF_read{m:Nat}{cs:List Value}{x:DataW H×List MemPlace}(h:DataW.trod enc Tryz.prog w base spare held m 23 cs=some x)(hw:∀n,n∈x.1.weights Tryz.prog 23→n≤reachBytes):
  ∃l A c,cs=[.slice A l.length c]∧SliceAt w w.heap.size 1 (fun c x=>c 0=some (.int .i64 x)∧In64 x) l (.slice A l.length c)∧l.length*8≤140737488351232∧l.length≤c∧c≤9223372036854775807∧∀t,t∈l→True:=
 sliceF_read Tryz.underlying23 (by kernel_rfl) (by1:=8) (by kernel_rfl) (by omega) (by omega) (fun c x=>c 0=some (.int .i64 x)∧In64 x) (fun t=>True) (fun k cs x h hw=>longF_read h) h hw
theorem numF_read{k:Nat}{cs:List Value}{x:DataW H×List MemPlace}(h:DataW.trod enc Tryz.prog w base spare held k 3 cs=some x):∃t:Int,True∧∀c:Nat→Option Value,(∀j,j<1→c j=cs[j]?)→c 0=some (.int .i64 t)∧In64 t:=by
 obtain⟨a,e,_,w0⟩:=DataW.trod_int Tryz.underlying3 h;exact⟨a,trivial,fun c hc=>⟨by rw[hc 0 (by omega),e];rfl,in64_of_wf w0⟩⟩
theorem numsF_read{m:Nat}{cs:List Value}{x:DataW H×List MemPlace}(h:DataW.trod enc Tryz.prog w base spare held m 41 cs=some x)(hw:∀n,n∈x.1.weights Tryz.prog 41→n≤reachBytes):
  ∃l A c,cs=[.slice A l.length c]∧SliceAt w w.heap.size 1 (fun c x=>c 0=some (.int .i64 x)∧In64 x) l (.slice A l.length c)∧l.length*8≤140737488351232∧l.length≤c∧c≤9223372036854775807∧∀t,t∈l→True:=
 sliceF_read Tryz.underlying41 (by kernel_rfl) (by1:=8) (by kernel_rfl) (by omega) (by omega) (fun c x=>c 0=some (.int .i64 x)∧In64 x) (fun t=>True) (fun k cs x h hw=>numF_read h) h hw
theorem objF_read{k:Nat}{cs:List Value}{x:DataW H×List MemPlace}(h:DataW.trod enc Tryz.prog w base spare held k 68 cs=some x)(hw:∀n,n∈x.1.weights Tryz.prog 68→n≤reachBytes):
  ∃o:ObS,ObjF o∧∀c:Nat→Option Value,(∀j,j<3→c j=cs[j]?)→ObE w w.heap.size c o:=by
 obtain⟨xs,m,_,hxe,hl,hxs,hf⟩:=DataW.trod_struct Tryz.underlying68 h;have hc0:Tryz.prog.cellsOf 3=1:=by kernel_rfl
 have hc1:Tryz.prog.cellsOf 23=1:=by kernel_rfl
 have f0:DataW.trod enc Tryz.prog w base spare held m 3 ((cs.drop 0).take (Tryz.prog.cellsOf 3))=xs[0]? :=hf 0 _ rfl;rw[hc0]at f0;have f1:DataW.trod enc Tryz.prog w base spare held m 3 ((cs.drop 1).take (Tryz.prog.cellsOf 3))=xs[1]? :=hf 1 _ rfl;rw[hc0]at f1;have f2:DataW.trod enc Tryz.prog w base spare held m 23 ((cs.drop 2).take (Tryz.prog.cellsOf 23))=xs[2]? :=hf 2 _ rfl;rw[hc1]at f2;obtain⟨x0,x1,x2,rfl⟩:∃x0 x1 x2,xs=[x0,x1,x2]:=by
  match xs,hxs with
  |[p,q,r],_=>exact⟨p,q,r,rfl⟩
 have hx1:x.1= .agg [x0.1,x1.1,x2.1]:=by rw[hxe];rfl
 have hwt:∀n,n∈x0.1.weights Tryz.prog 3++x1.1.weights Tryz.prog 3++x2.1.weights Tryz.prog 23→n≤reachBytes:=fun n hn=>hw n (by
  rw[hx1];simp only[DataW.weights,Tryz.underlying68,List.map_cons,List.map_nil,DataW.weightsEach,List.append_nil];simpa using hn)
 obtain⟨v0,e0,_,i0⟩:=DataW.trod_int Tryz.underlying3 f0;have h0:=take_cell e0 (i:=0) (by simp);obtain⟨v1,e1,_,i1⟩:=DataW.trod_int Tryz.underlying3 f1;have h1:=take_cell e1 (i:=0) (by simp);obtain⟨v2,A2,c2,e2,r2,z2,_,_,y2⟩:=longsF_read f2 (fun n hn=>hwt n (by simp[hn]));have h2:=take_cell e2 (i:=0) (by simp);simp at h0 h1 h2;exact⟨⟨v0,v1,v2⟩,z2,fun c hc=>⟨by rw[hc 0 (by omega),h0],by rw[hc 1 (by omega),h1],⟨_,by rw[hc 2 (by omega),h2],r2⟩,in64_of_wf i0,in64_of_wf i1⟩⟩
theorem objsF_read{m:Nat}{cs:List Value}{x:DataW H×List MemPlace}(h:DataW.trod enc Tryz.prog w base spare held m 27 cs=some x)(hw:∀n,n∈x.1.weights Tryz.prog 27→n≤reachBytes):
  ∃l A c,cs=[.slice A l.length c]∧SliceAt w w.heap.size 3 (ObE w w.heap.size) l (.slice A l.length c)∧l.length*40≤140737488351232∧l.length≤c∧c≤9223372036854775807∧∀t,t∈l→ObjF t:=
 sliceF_read Tryz.underlying27 (by kernel_rfl) (by1:=40) (by kernel_rfl) (by omega) (by omega) (ObE w w.heap.size) (fun t=>ObjF t) (fun k cs x h hw=>objF_read h hw) h hw
theorem insF_read{k:Nat}{cs:List Value}{x:DataW H×List MemPlace}(h:DataW.trod enc Tryz.prog w base spare held k 43 cs=some x)(hw:∀n,n∈x.1.weights Tryz.prog 43→n≤reachBytes):
  ∃o:InsS,InsF o∧∀c:Nat→Option Value,(∀j,j<6→c j=cs[j]?)→InsE w w.heap.size c o:=by
 obtain⟨xs,m,_,hxe,hl,hxs,hf⟩:=DataW.trod_struct Tryz.underlying43 h;have hc0:Tryz.prog.cellsOf 3=1:=by kernel_rfl
 have hc1:Tryz.prog.cellsOf 2=1:=by kernel_rfl
 have hc2:Tryz.prog.cellsOf 41=1:=by kernel_rfl
 have f0:DataW.trod enc Tryz.prog w base spare held m 3 ((cs.drop 0).take (Tryz.prog.cellsOf 3))=xs[0]? :=hf 0 _ rfl;rw[hc0]at f0;have f1:DataW.trod enc Tryz.prog w base spare held m 3 ((cs.drop 1).take (Tryz.prog.cellsOf 3))=xs[1]? :=hf 1 _ rfl;rw[hc0]at f1;have f2:DataW.trod enc Tryz.prog w base spare held m 3 ((cs.drop 2).take (Tryz.prog.cellsOf 3))=xs[2]? :=hf 2 _ rfl;rw[hc0]at f2;have f3:DataW.trod enc Tryz.prog w base spare held m 3 ((cs.drop 3).take (Tryz.prog.cellsOf 3))=xs[3]? :=hf 3 _ rfl;rw[hc0]at f3;have f4:DataW.trod enc Tryz.prog w base spare held m 2 ((cs.drop 4).take (Tryz.prog.cellsOf 2))=xs[4]? :=hf 4 _ rfl;rw[hc1]at f4;have f5:DataW.trod enc Tryz.prog w base spare held m 41 ((cs.drop 5).take (Tryz.prog.cellsOf 41))=xs[5]? :=hf 5 _ rfl;rw[hc2]at f5
 obtain⟨x0,x1,x2,x3,x4,x5,rfl⟩:∃x0 x1 x2 x3 x4 x5,xs=[x0,x1,x2,x3,x4,x5]:=by
  match xs,hxs with
  |[p,q,r,s,t,u],_=>exact⟨p,q,r,s,t,u,rfl⟩
 have hx1:x.1= .agg [x0.1,x1.1,x2.1,x3.1,x4.1,x5.1]:=by rw[hxe];rfl
 have hwt:∀n,n∈x0.1.weights Tryz.prog 3++x1.1.weights Tryz.prog 3++x2.1.weights Tryz.prog 3++x3.1.weights Tryz.prog 3++x4.1.weights Tryz.prog 2++x5.1.weights Tryz.prog 41→n≤reachBytes:=fun n hn=>hw n (by
  rw[hx1];simp only[DataW.weights,Tryz.underlying43,List.map_cons,List.map_nil,DataW.weightsEach,List.append_nil];simpa using hn)
 obtain⟨v0,e0,_,i0⟩:=DataW.trod_int Tryz.underlying3 f0;have h0:=take_cell e0 (i:=0) (by simp);obtain⟨v1,e1,_,i1⟩:=DataW.trod_int Tryz.underlying3 f1;have h1:=take_cell e1 (i:=0) (by simp);obtain⟨v2,e2,_,i2⟩:=DataW.trod_int Tryz.underlying3 f2;have h2:=take_cell e2 (i:=0) (by simp);obtain⟨v3,e3,_,i3⟩:=DataW.trod_int Tryz.underlying3 f3;have h3:=take_cell e3 (i:=0) (by simp);obtain⟨v4,e4,_,i4⟩:=DataW.trod_int Tryz.underlying2 f4;have h4:=take_cell e4 (i:=0) (by simp);obtain⟨v5,A5,c5,e5,r5,z5,_,_,y5⟩:=numsF_read f5 (fun n hn=>hwt n (by simp[hn]));have h5:=take_cell e5 (i:=0) (by simp);simp at h0 h1 h2 h3 h4 h5
 exact⟨⟨v0,v1,v2,v3,v4,v5⟩,z5,fun c hc=>⟨by rw[hc 0 (by omega),h0],by rw[hc 1 (by omega),h1],by rw[hc 2 (by omega),h2],by rw[hc 3 (by omega),h3],by rw[hc 4 (by omega),h4],⟨_,by rw[hc 5 (by omega),h5],r5⟩,in64_of_wf i0,in64_of_wf i1,in64_of_wf i2,in64_of_wf i3,in64_of_wf i4⟩⟩
theorem inssF_read{m:Nat}{cs:List Value}{x:DataW H×List MemPlace}(h:DataW.trod enc Tryz.prog w base spare held m 37 cs=some x)(hw:∀n,n∈x.1.weights Tryz.prog 37→n≤reachBytes):
  ∃l A c,cs=[.slice A l.length c]∧SliceAt w w.heap.size 6 (InsE w w.heap.size) l (.slice A l.length c)∧l.length*64≤140737488351232∧l.length≤c∧c≤9223372036854775807∧∀t,t∈l→InsF t:=
 sliceF_read Tryz.underlying37 (by kernel_rfl) (by1:=64) (by kernel_rfl) (by omega) (by omega) (InsE w w.heap.size) (fun t=>InsF t) (fun k cs x h hw=>insF_read h hw) h hw
theorem codeF_read{k:Nat}{cs:List Value}{x:DataW H×List MemPlace}(h:DataW.trod enc Tryz.prog w base spare held k 39 cs=some x)(hw:∀n,n∈x.1.weights Tryz.prog 39→n≤reachBytes):
  ∃o:CodeS,CodeF o∧∀c:Nat→Option Value,(∀j,j<4→c j=cs[j]?)→CodeE w w.heap.size c o:=by
 obtain⟨xs,m,_,hxe,hl,hxs,hf⟩:=DataW.trod_struct Tryz.underlying39 h;have hc0:Tryz.prog.cellsOf 3=1:=by kernel_rfl
 have hc1:Tryz.prog.cellsOf 27=1:=by kernel_rfl
 have hc2:Tryz.prog.cellsOf 37=1:=by kernel_rfl
 have f0:DataW.trod enc Tryz.prog w base spare held m 3 ((cs.drop 0).take (Tryz.prog.cellsOf 3))=xs[0]? :=hf 0 _ rfl;rw[hc0]at f0;have f1:DataW.trod enc Tryz.prog w base spare held m 3 ((cs.drop 1).take (Tryz.prog.cellsOf 3))=xs[1]? :=hf 1 _ rfl;rw[hc0]at f1;have f2:DataW.trod enc Tryz.prog w base spare held m 27 ((cs.drop 2).take (Tryz.prog.cellsOf 27))=xs[2]? :=hf 2 _ rfl;rw[hc1]at f2;have f3:DataW.trod enc Tryz.prog w base spare held m 37 ((cs.drop 3).take (Tryz.prog.cellsOf 37))=xs[3]? :=hf 3 _ rfl;rw[hc2]at f3;obtain⟨x0,x1,x2,x3,rfl⟩:∃x0 x1 x2 x3,xs=[x0,x1,x2,x3]:=by
  match xs,hxs with
  |[p,q,r,s],_=>exact⟨p,q,r,s,rfl⟩
 have hx1:x.1= .agg [x0.1,x1.1,x2.1,x3.1]:=by rw[hxe];rfl
 have hwt:∀n,n∈x0.1.weights Tryz.prog 3++x1.1.weights Tryz.prog 3++x2.1.weights Tryz.prog 27++x3.1.weights Tryz.prog 37→n≤reachBytes:=fun n hn=>hw n (by
  rw[hx1];simp only[DataW.weights,Tryz.underlying39,List.map_cons,List.map_nil,DataW.weightsEach,List.append_nil];simpa using hn)
 obtain⟨v0,e0,_,i0⟩:=DataW.trod_int Tryz.underlying3 f0;have h0:=take_cell e0 (i:=0) (by simp);obtain⟨v1,e1,_,i1⟩:=DataW.trod_int Tryz.underlying3 f1;have h1:=take_cell e1 (i:=0) (by simp);obtain⟨v2,A2,c2,e2,r2,z2,_,_,y2⟩:=objsF_read f2 (fun n hn=>hwt n (by simp[hn]));have h2:=take_cell e2 (i:=0) (by simp);obtain⟨v3,A3,c3,e3,r3,z3,_,_,y3⟩:=inssF_read f3 (fun n hn=>hwt n (by simp[hn]));have h3:=take_cell e3 (i:=0) (by simp);simp at h0 h1 h2 h3;exact⟨⟨v0,v1,v2,v3⟩,⟨z2,y2,z3,y3⟩,fun c hc=>⟨by rw[hc 0 (by omega),h0],by rw[hc 1 (by omega),h1],⟨_,by rw[hc 2 (by omega),h2],r2⟩,⟨_,by rw[hc 3 (by omega),h3],r3⟩,in64_of_wf i0,in64_of_wf i1⟩⟩
theorem codesF_read{m:Nat}{cs:List Value}{x:DataW H×List MemPlace}(h:DataW.trod enc Tryz.prog w base spare held m 28 cs=some x)(hw:∀n,n∈x.1.weights Tryz.prog 28→n≤reachBytes):
  ∃l A c,cs=[.slice A l.length c]∧SliceAt w w.heap.size 4 (CodeE w w.heap.size) l (.slice A l.length c)∧l.length*64≤140737488351232∧l.length≤c∧c≤9223372036854775807∧∀t,t∈l→CodeF t:=
 sliceF_read Tryz.underlying28 (by kernel_rfl) (by1:=64) (by kernel_rfl) (by omega) (by omega) (CodeE w w.heap.size) (fun t=>CodeF t) (fun k cs x h hw=>codeF_read h hw) h hw
theorem virtF_read{k:Nat}{cs:List Value}{x:DataW H×List MemPlace}(h:DataW.trod enc Tryz.prog w base spare held k 30 cs=some x)(hw:∀n,n∈x.1.weights Tryz.prog 30→n≤reachBytes):
  ∃o:VirtS,VirtF o∧∀c:Nat→Option Value,(∀j,j<3→c j=cs[j]?)→VirtE w w.heap.size c o:=by
 obtain⟨xs,m,_,hxe,hl,hxs,hf⟩:=DataW.trod_struct Tryz.underlying30 h;have hc0:Tryz.prog.cellsOf 27=1:=by kernel_rfl
 have hc1:Tryz.prog.cellsOf 28=1:=by kernel_rfl
 have hc2:Tryz.prog.cellsOf 3=1:=by kernel_rfl
 have f0:DataW.trod enc Tryz.prog w base spare held m 27 ((cs.drop 0).take (Tryz.prog.cellsOf 27))=xs[0]? :=hf 0 _ rfl;rw[hc0]at f0;have f1:DataW.trod enc Tryz.prog w base spare held m 28 ((cs.drop 1).take (Tryz.prog.cellsOf 28))=xs[1]? :=hf 1 _ rfl;rw[hc1]at f1;have f2:DataW.trod enc Tryz.prog w base spare held m 3 ((cs.drop 2).take (Tryz.prog.cellsOf 3))=xs[2]? :=hf 2 _ rfl;rw[hc2]at f2;obtain⟨x0,x1,x2,rfl⟩:∃x0 x1 x2,xs=[x0,x1,x2]:=by
  match xs,hxs with
  |[p,q,r],_=>exact⟨p,q,r,rfl⟩
 have hx1:x.1= .agg [x0.1,x1.1,x2.1]:=by rw[hxe];rfl
 have hwt:∀n,n∈x0.1.weights Tryz.prog 27++x1.1.weights Tryz.prog 28++x2.1.weights Tryz.prog 3→n≤reachBytes:=fun n hn=>hw n (by
  rw[hx1];simp only[DataW.weights,Tryz.underlying30,List.map_cons,List.map_nil,DataW.weightsEach,List.append_nil];simpa using hn)
 obtain⟨v0,A0,c0,e0,r0,z0,_,_,y0⟩:=objsF_read f0 (fun n hn=>hwt n (by simp[hn]));have h0:=take_cell e0 (i:=0) (by simp);obtain⟨v1,A1,c1,e1,r1,z1,_,_,y1⟩:=codesF_read f1 (fun n hn=>hwt n (by simp[hn]));have h1:=take_cell e1 (i:=0) (by simp);obtain⟨v2,e2,_,i2⟩:=DataW.trod_int Tryz.underlying3 f2;have h2:=take_cell e2 (i:=0) (by simp);simp at h0 h1 h2;exact⟨⟨v0,v1,v2⟩,⟨z0,y0,z1,y1⟩,fun c hc=>⟨⟨_,by rw[hc 0 (by omega),h0],r0⟩,⟨_,by rw[hc 1 (by omega),h1],r1⟩,by rw[hc 2 (by omega),h2],in64_of_wf i2⟩⟩
theorem virtsF_read{m:Nat}{cs:List Value}{x:DataW H×List MemPlace}(h:DataW.trod enc Tryz.prog w base spare held m 22 cs=some x)(hw:∀n,n∈x.1.weights Tryz.prog 22→n≤reachBytes):
  ∃l A c,cs=[.slice A l.length c]∧SliceAt w w.heap.size 3 (VirtE w w.heap.size) l (.slice A l.length c)∧l.length*56≤140737488351232∧l.length≤c∧c≤9223372036854775807∧∀t,t∈l→VirtF t:=
 sliceF_read Tryz.underlying22 (by kernel_rfl) (by1:=56) (by kernel_rfl) (by omega) (by omega) (VirtE w w.heap.size) (fun t=>VirtF t) (fun k cs x h hw=>virtF_read h hw) h hw
theorem ask14F_trod{k:Nat}{cs:List Value}{x:DataW H×List MemPlace}(h:DataW.trod enc Tryz.prog w base spare held k 25 cs=some x)(hw:∀n,n∈x.1.weights Tryz.prog 25→n≤reachBytes):
  ∃(ps:List VirtS)(inp:List Int)(PA IA:Option Addr)(pc ic:Nat)(fu:Int),cs=[.slice PA ps.length pc,.slice IA inp.length ic,.int .i64 fu]∧SliceAt w w.heap.size 3 (VirtE w w.heap.size) ps (.slice PA ps.length pc)∧ps.length*56≤140737488351232∧inp.length*8≤140737488351232∧(∀t,t∈ps→VirtF t)∧inp.length≤ic∧ic≤9223372036854775807∧LongsAt w w.heap.size inp (.slice IA inp.length ic)∧In64 fu:=by
 obtain⟨xs,m,_,hxe,hl,hxs,hf⟩:=DataW.trod_struct Tryz.underlying25 h;have hc0:Tryz.prog.cellsOf 22=1:=by kernel_rfl
 have hc1:Tryz.prog.cellsOf 23=1:=by kernel_rfl
 have hc2:Tryz.prog.cellsOf 3=1:=by kernel_rfl
 have f0:DataW.trod enc Tryz.prog w base spare held m 22 ((cs.drop 0).take (Tryz.prog.cellsOf 22))=xs[0]? :=hf 0 _ rfl;rw[hc0]at f0;have f1:DataW.trod enc Tryz.prog w base spare held m 23 ((cs.drop 1).take (Tryz.prog.cellsOf 23))=xs[1]? :=hf 1 _ rfl;rw[hc1]at f1;have f2:DataW.trod enc Tryz.prog w base spare held m 3 ((cs.drop 2).take (Tryz.prog.cellsOf 3))=xs[2]? :=hf 2 _ rfl;rw[hc2]at f2;obtain⟨x0,x1,x2,rfl⟩:∃x0 x1 x2,xs=[x0,x1,x2]:=by
  match xs,hxs with
  |[a,b,c],_=>exact⟨a,b,c,rfl⟩
 have hx1:x.1= .agg [x0.1,x1.1,x2.1]:=by rw[hxe];rfl
 have hwt:∀n,n∈x0.1.weights Tryz.prog 22++x1.1.weights Tryz.prog 23++x2.1.weights Tryz.prog 3→n≤reachBytes:=fun n hn=>hw n (by
  rw[hx1];simp only[DataW.weights,Tryz.underlying25,List.map_cons,List.map_nil,DataW.weightsEach,List.append_nil];simpa using hn)
 obtain⟨v0,A0,c0,e0,s0,l0,q0,q0',z0⟩:=virtsF_read f0 (fun n hn=>hwt n (by simp[hn]));obtain⟨v1,A1,c1,e1,s1,l1,q1,q1',z1⟩:=longsF_read f1 (fun n hn=>hwt n (by simp[hn]));obtain⟨v2,e2,_,w2⟩:=DataW.trod_int Tryz.underlying3 f2;have hce:Tryz.prog.cellsOf 25=3:=by kernel_rfl
 rw[hce]at hl;exact⟨v0,v1,A0,A1,c0,c1,v2,cs3 hl e0 e1 e2,s0,l0,l1,z0,q1,q1',s1,in64_of_wf w2⟩
end
theorem ask14F_read{H:Type}{enc:TypeId×Value→H}{w:World}{v:Value}{d:DataW H}{ps:List MemPlace}{cs:Array Value}(hv:v= .agg cs)(h:DataW.Trod enc Tryz.prog w 0 (fun _=>true) true 25 v d ps)
  (hsz:(DataW.weightsEach Tryz.prog [25] [d]).all (·≤reachBytes)=true):
  ∃(ps:List VirtS)(inp:List Int)(PA IA:Option Addr)(pc ic:Nat)(fu:Int),v= .agg #[.slice PA ps.length pc,.slice IA inp.length ic,.int .i64 fu]∧SliceAt w w.heap.size 3 (VirtE w w.heap.size) ps (.slice PA ps.length pc)∧ps.length*56≤140737488351232∧inp.length*8≤140737488351232∧(∀t,t∈ps→VirtF t)∧inp.length≤ic∧ic≤9223372036854775807∧LongsAt w w.heap.size inp (.slice IA inp.length ic)∧In64 fu:=by
 subst hv;obtain⟨m,h⟩:=h;obtain⟨ps',inp,PA,IA,pc,ic,fu,e,rest⟩:=ask14F_trod h (fun n hn=>by
  have:=List.all_eq_true.1 hsz n (DataW.weights_mem_each (j:=0) rfl rfl n hn);simpa using this)
 refine⟨ps',inp,PA,IA,pc,ic,fu,?_,rest⟩;have e':cs.toList=[.slice PA ps'.length pc,.slice IA inp.length ic,.int .i64 fu]:=by simpa [Value.cells]using e
 rw[←Array.toArray_toList (xs:=cs),e']
end Go.Proofs.YtlenilbkifofjaaGreatDoor
