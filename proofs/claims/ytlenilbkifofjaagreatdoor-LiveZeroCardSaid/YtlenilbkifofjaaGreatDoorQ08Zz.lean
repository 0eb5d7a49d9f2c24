/- A region that draws its order: a head by what each operation's result is, then a tail in one forced order. No program in sight. No condition. The shelf's contracts at this program, in plain words: written by the kit's tools (lay-shelf, lay-plain); its remarks are struck. Conditions: as stated. A region that draws its order: plain results, one store, operations that may come behind it, a forced tail. No program in sight. No condition. A region that draws its order, of which one operation writes and the others read what it does not touch; a forced tail. No program in sight. No condition. gantletref14's machine: its state, how it lies in memory; stop, step. Conditions: as stated. Objs: whether objects may be. Conditions: as stated. Regions that draw their order: one box made and written, or an old box written; results that own memory. No program in sight. No condition. A region that draws its order, whose operations read, but for one call and, when all else is done, one store. No program in sight. No condition. The page's memory: a value is stored. Conditions: as stated. The page's machine: a step for which no fuel is left. Conditions: as stated. The page's machine: a set. Conditions: as stated. The page's machine: nothing comes in. Conditions: as stated. The page's machine: a number comes in. Conditions: as stated. The page's machine: what is put out is no number. Conditions: as stated. The page's machine: what it ends with is no number. Conditions: as stated. The page's machine: an exit. Conditions: as stated. The page's machine: a store that is stuck. Conditions: as stated. What is read as trees lies in memory as trees. No condition. -/
import Derived.Test.YtlenilbkifofjaaGreatDoorQ02Zz
import Derived.Test.YtlenilbkifofjaaGreatDoorMemApplyZz
import Derived.Test.YtlenilbkifofjaaGreatDoorQ01Zz
import Derived.StillTail
import Derived.Shelf.Small.Bits
import Derived.Shelf.Strconv.Itoa0
import Derived.Shelf.Sort.Plain
import Derived.Ground.Names2Prog
import Derived.Shelf.Slices.Clone
import Derived.Shelf.Slices.CompactI
import Derived.Shelf.Slices.SearchI
import Derived.Shelf.Slices.Cells
import Derived.Shelf.Slices.In.SortNone
import Derived.Ground.SlgnProg
import Derived.Shelf.SlicesE.Clone
import Derived.Test.YtlenilbkifofjaaGreatDoorChecked
import Derived.StillTailTactics
import Derived.SizedLaws
import Derived.Deep.Slices
import Derived.Deep.Strs
import Derived.ProofKit
set_option linter.unusedVariables false
set_option linter.unusedSimpArgs false
set_option maxHeartbeats 8000000
set_option maxRecDepth 100000
namespace Go.Proofs.YtlenilbkifofjaaGreatDoor
open Go.RowKit
theorem wpAny_of_seq'{P:Program}{md:Region.Mode}{ops:Array Oper}{Q':Exit→Act→World→Prop}(m:Nat):∀(l:List Oper)(k:Nat)(listed:Array Bool)(a:Act)(w:World),(∀j,l[j]? =ops[k+j]?)→
  Region.seqB md ops l.length k listed=true→wpList P ops Q' l a w→wpAny P md ops Q' (l.length+m) listed a w
 |[],_,listed,_,_,_,hB,h=>by
  have hr:Region.ready md ops listed=[]:=by simpa [Region.seqB]using hB
  cases m with
  |zero=>exact⟨hr,h⟩
  |succ m=>
   rw[show([]:List Oper).length+(m+1)=m+1 by simp];exact⟨fun _=>h,fun i hi=>by rw[hr]at hi;cases hi⟩
 |o::l,k,listed,a,w,hl,hB,h=>by
  have h0:ops[k]? =some o:=by simpa using(hl 0).symm
  simp only[List.length_cons,Region.seqB,Bool.and_eq_true,decide_eq_true_eq]at hB;rw[show(o::l).length+m=(l.length+m)+1 by simp;omega];refine⟨fun h1=>(by rw[hB.1]at h1;cases h1),fun i hi=>?_⟩;rw[hB.1]at hi;have hik:i=k:=by simpa using hi
  subst hik;have hw:wpOp P ops Q' i (wpList P ops Q' l) a w:=by unfold wpOp;simp only[h0];exact h
  exact wpOp_mono (fun a' w' h'=>wpAny_of_seq' m l (i+1) _ a' w' (fun j=>by have:=hl (j+1);simpa [Nat.add_assoc,Nat.add_comm 1 j]using this) hB.2 h') hw
def backB(l:List Oper):Bool:=l.zipIdx.all (fun x=>x.1.after.all fun e=>!Region.binds .any e||decide (e.on<x.2))
theorem backB_of{l:List Oper}(hback:backB l=true){i:Nat}{o:Oper}(ho:l[i]? =some o){e:Edge}(he:e∈o.after)(hbd:Region.binds .any e=true):e.on<i:=by
 have hx:=List.all_eq_true.1 hback (o,i) (List.mem_iff_getElem?.2 ⟨i,by simp[ho]⟩);have hy:=(Array.all_eq_true_iff_forall_mem.1 hx) e he;rw[hbd]at hy;simpa using hy
theorem ready_of{l:List Oper}{listed:Array Bool}(hback:backB l=true)(hsz:listed.size=l.length):∀(n:Nat),n≤l.length→(∃j,j<n∧listed.getD j false=false)→Region.ready .any l.toArray listed≠[]
 |0,_,⟨j,h,_⟩=>by omega
 |n+1,hn,⟨j,hj,hf⟩=>by
  by_cases he:∃j,j<n∧listed.getD j false=false
  ·exact ready_of hback hsz n (by omega) he
  ·have hjn:j=n:=by
    rcases Nat.lt_or_ge j n with h|h
    ·exact absurd ⟨j,h,hf⟩ he
    ·omega
   subst hjn;intro hr;have hjl:j<l.length:=by omega
   have:j∈Region.ready .any l.toArray listed:=mem_ready.2 ⟨getD_in (by omega) hf,l[j],by simp[hjl],fun e he' hbd=>by
    have hlt:=backB_of hback (i:=j) (o:=l[j]) (by simp[hjl]) he' hbd;cases hx:listed.getD e.on false with
    |true=>rfl
    |false=>exact absurd ⟨e.on,hlt,hx⟩ he⟩
   rw[hr]at this;cases this
def headB(l:List Oper)(n:Nat):Bool:=decide (n<l.length)&& Region.sinkB .any l.toArray n && Region.chainB .any l.toArray n && backB l && Region.seqB .any l.toArray (l.length-n) n ((List.range l.length).map fun j=>decide (j<n)).toArray
theorem wpAny_inv_tail{P:Program}{l:List Oper}{Q:Exit→Act→World→Prop}(n:Nat)(hB:headB l n=true)(Inv:Array Bool→Act→World→Prop)
  (hstep:∀listed a w i,HeadInv .any l.toArray n listed→i<n→i∈Region.ready .any l.toArray listed→Inv listed a w→wpOp P l.toArray Q i (fun a' w'=>Inv (listed.setIfInBounds i true) a' w') a w)
  (hend:∀listed a w,(∀j,j<n→listed.getD j false=true)→Inv listed a w→wpList P l.toArray Q (l.drop n) a w):
  ∀(f:Nat)(listed:Array Bool)(a:Act)(w:World),HeadInv .any l.toArray n listed→unlisted n listed≤f→Inv listed a w→wpAny P .any l.toArray Q ((l.length-n)+f) listed a w:=by
 unfold headB at hB;simp only[Bool.and_eq_true,decide_eq_true_eq]at hB;obtain⟨⟨⟨⟨hn,hs⟩,hc⟩,hback⟩,hseq⟩:=hB;have hnt:n<l.toArray.size:=by simpa using hn
 have hdl:(l.drop n).length=l.length-n:=by simp
 intro f
 induction f with
 |zero=>
  intro listed a w inv hf h;have hall:∀j,j<n→listed.getD j false=true:=by
   intro j hj;cases hx:listed.getD j false with
   |true=>rfl
   |false=>
    have hd:listed.getD j true=false:=getD_in (by rw[inv.size];omega) hx;have:=unlisted_set hj hd;omega
  have hL:listed=((List.range l.length).map fun j=>decide (j<n)).toArray:=by
   refine Array.ext (by simp[inv.size]) (fun j h1 h2=>?_);simp only[List.getElem_toArray,List.getElem_map,List.getElem_range];by_cases hj:j<n
   ·rw[decide_eq_true hj];have:=hall j hj;simpa [Array.getD,h1]using this
   ·rw[decide_eq_false hj];have:=inv.tail j (by omega) (by rw[←inv.size];exact h1);simpa [Array.getD,h1]using this
  rw[←hL]at hseq;rw[←hdl]at hseq ⊢;exact wpAny_of_seq' 0 (l.drop n) n listed a w (fun j=>by simp) hseq (hend listed a w hall h)
 |succ f ih=>
  intro listed a w inv hf h;by_cases hall:∀j,j<n→listed.getD j false=true
  ·have hL:listed=((List.range l.length).map fun j=>decide (j<n)).toArray:=by
    refine Array.ext (by simp[inv.size]) (fun j h1 h2=>?_);simp only[List.getElem_toArray,List.getElem_map,List.getElem_range];by_cases hj:j<n
    ·rw[decide_eq_true hj];have:=hall j hj;simpa [Array.getD,h1]using this
    ·rw[decide_eq_false hj];have:=inv.tail j (by omega) (by rw[←inv.size];exact h1);simpa [Array.getD,h1]using this
   rw[←hL]at hseq;rw[←hdl]at hseq ⊢;exact wpAny_of_seq' (f+1) (l.drop n) n listed a w (fun j=>by simp) hseq (hend listed a w hall h)
  ·have hex:∃j,j<n∧listed.getD j false=false:=by
    rcases Classical.not_forall.1 hall with⟨j,hj⟩
    rcases Classical.not_imp.1 hj with⟨h1,h2⟩
    exact⟨j,h1,by simpa using h2⟩
   rw[show l.length-n+(f+1)=(l.length-n+f)+1 by omega];refine⟨fun hr=>absurd hr (ready_of hback (by rw[inv.size];simp) n (by omega) hex),fun i hi=>?_⟩;obtain⟨j,hj,hf'⟩:=hex;have hin:i<n:=by
    rcases Nat.lt_or_ge i n with h'|h'
    ·exact h'
    ·exact absurd hi (tail_waits hs hc hnt inv _ j rfl hj (getD_in (by rw[inv.size];omega) hf') i h')
   refine wpOp_mono (fun a' w' h'=>ih _ a' w' (inv.set hi hin) ?_ h') (hstep listed a w i inv hin hi h);have:=unlisted_set hin (mem_ready.1 hi).1;omega
theorem region_cl_tail{P:Program}{id:Nat}{Q:Exit→Act→World→Prop}{a:Act}{w:World}{l:List Oper}(n:Nat)(hm:P.follows .mixedOrders=true)(hB:headB l n=true)(Cl:World→Nat→Value→Prop)(mk:(Nat→Value)→Act)(Y0:Nat→Value)(ha:a=mk Y0)
  (hmono:∀W W' i v,Below W.heap.size W W'→Cl W i v→Cl W' i v)
  (hstep:∀i o Y W,i<n→l[i]? =some o→Below w.heap.size w W→(∀e∈o.after,Region.binds .any e=true→Cl W e.on (Y e.on))→∀K:Act→World→Prop,(∀v W',Below W.heap.size W W'→Cl W' i v→K (mk (upd Y i v)) W')→wpOp P l.toArray Q i K (mk Y) W)
  (hend:∀Y W,Below w.heap.size w W→(∀i,i<n→Cl W i (Y i))→wpList P l.toArray Q (l.drop n) (mk Y) W):(Code.region id l.toArray true).wp P Q a w:=by
 have hn:n<l.length:=by
  unfold headB at hB;simp only[Bool.and_eq_true,decide_eq_true_eq]at hB;exact hB.1.1.1.1
 refine wp_region_any hm ?_;have hun:unlisted n (Array.replicate l.toArray.size false)≤n:=by unfold unlisted;exact Nat.le_trans (List.length_filter_le _ _) (by simp)
 have inv0:HeadInv .any l.toArray n (Array.replicate l.toArray.size false):=
  ⟨by simp,fun j oj _ hl=>(by rw[getD_replicate_false]at hl;cases hl),fun t _ ht=>getD_in (by simpa using ht) (getD_replicate_false _ _)⟩
 have H:=wpAny_inv_tail (P:=P) (Q:=Q) n hB (fun L act W=>L.size=l.length∧∃Y,act=mk Y∧Below w.heap.size w W∧∀i,i<n→L.getD i false=true→Cl W i (Y i)) ?_ ?_ n _ a w.drew inv0 hun ?_
 ·have e:l.length-n+n=l.toArray.size:=by simp;omega
  rw[e]at H;exact H
 ·rintro L act W i _ hin hi ⟨hsz,Y,rfl,hb,hc⟩;obtain⟨hnn,o,ho,hall⟩:=mem_ready.1 hi;have hback:backB l=true:=by
   unfold headB at hB;simp only[Bool.and_eq_true,decide_eq_true_eq]at hB;exact hB.1.2
  refine hstep i o Y W hin (by simpa using ho) hb (fun e he hbd=>hc _ (by have:=backB_of hback (by simpa using ho) he hbd;omega) (hall e he hbd)) _ (fun v W' hb' hv=>⟨by simp[hsz],upd Y i v,rfl,hb.trans (hb'.mono hb.size),fun j hjn hj=>?_⟩);by_cases hji:j=i
  ·subst hji;rw[upd_self];exact hv
  ·rw[upd_ne Y v hji];exact hmono _ _ _ _ hb' (hc j hjn ((ls_set' hj).resolve_left hji))
 ·rintro L act W hall ⟨hsz,Y,rfl,hb,hc⟩;exact hend Y W hb (fun i hi=>hc i hi (hall i hi))
 ·exact⟨by simp,Y0,ha,(Below.refl _ _).drew,fun j _ h=>by rw[getD_replicate_false]at h;cases h⟩
def coverB(l:List Oper)(m:Nat)(late:Nat→Bool):Bool:=(List.range m).all fun i=>late i||(List.range (m+1)).any fun j=>decide (i<j)&& (!late j && Region.waitsFor .any l.toArray j i)
theorem coverB_of{l:List Oper}{m n:Nat}{late:Nat→Bool}{L:Array Bool}(h:coverB l m late=true)(inv:HeadInv .any l.toArray n L)(hm:L.getD m false=true):∀(d i:Nat),m-i=d→i<m→late i=false→L.getD i false=true:=by
 intro d
 induction d using Nat.strongRecOn with
 |_ d ih=>
  intro i hd hi hl;have h1:=List.all_eq_true.1 h i (List.mem_range.2 hi);rw[hl,Bool.false_or]at h1;obtain⟨j,hj,hj2⟩:=List.any_eq_true.1 h1;simp only[Bool.and_eq_true,decide_eq_true_eq,Bool.not_eq_true']at hj2;obtain⟨hij,hjl,hw⟩:=hj2;obtain⟨oj,hoj,e,he,hb,hon⟩:=Region.waitsFor_spec hw;have hjm:j≤m:=by have:=List.mem_range.1 hj;omega
  have hjt:L.getD j false=true:=by
   by_cases h':j=m
   ·rw[h'];exact hm
   ·exact ih (m-j) (by omega) j rfl (by omega) hjl
  have:=inv.closed j oj hoj hjt e he hb;rw[hon]at this;exact this
theorem region_cw_tail{P:Program}{id:Nat}{Q:Exit→Act→World→Prop}{a:Act}{w:World}{l:List Oper}(m:Nat)(late:Nat→Bool)(hm:P.follows .mixedOrders=true)(hB:headB l (m+1)=true)(hcov:coverB l m late=true)(Cl:World→Nat→Value→Prop)(Fin:World→Value→Prop)(mk:(Nat→Value)→Act)(Y0:Nat→Value)(ha:a=mk Y0)
  (hmono:∀W W' i v,Below W.heap.size W W'→Cl W i v→Cl W' i v)
  (hstep:∀i o Y W,i<m→late i=false→l[i]? =some o→Below w.heap.size w W→(∀e∈o.after,Region.binds .any e=true→Cl W e.on (Y e.on))→∀K:Act→World→Prop,(∀v W',Below W.heap.size W W'→Cl W' i v→K (mk (upd Y i v)) W')→wpOp P l.toArray Q i K (mk Y) W)
  (hlate:∀i o Y W,i<m→late i=true→l[i]? =some o→∀K:Act→World→Prop,(∀v,(∀W',Cl W' i v)→K (mk (upd Y i v)) W)→wpOp P l.toArray Q i K (mk Y) W)
  (hwrite:∀o Y W,l[m]? =some o→Below w.heap.size w W→(∀i,i<m→late i=false→Cl W i (Y i))→∀K:Act→World→Prop,(∀v W',Fin W' v→K (mk (upd Y m v)) W')→wpOp P l.toArray Q m K (mk Y) W)
  (hend:∀Y W,Fin W (Y m)→(∀i,i<m→late i=true→∀W',Cl W' i (Y i))→wpList P l.toArray Q (l.drop (m+1)) (mk Y) W):(Code.region id l.toArray true).wp P Q a w:=by
 have hn:m+1<l.length:=by
  unfold headB at hB;simp only[Bool.and_eq_true,decide_eq_true_eq]at hB;exact hB.1.1.1.1
 have hback:backB l=true:=by
  unfold headB at hB;simp only[Bool.and_eq_true,decide_eq_true_eq]at hB;exact hB.1.2
 refine wp_region_any hm ?_;have hun:unlisted (m+1) (Array.replicate l.toArray.size false)≤m+1:=by unfold unlisted;exact Nat.le_trans (List.length_filter_le _ _) (by simp)
 have inv0:HeadInv .any l.toArray (m+1) (Array.replicate l.toArray.size false):=
  ⟨by simp,fun j oj _ hl=>(by rw[getD_replicate_false]at hl;cases hl),fun t _ ht=>getD_in (by simpa using ht) (getD_replicate_false _ _)⟩
 have H:=wpAny_inv_tail (P:=P) (Q:=Q) (m+1) hB (fun L act W=>∃Y,act=mk Y∧(L.getD m false=false→Below w.heap.size w W∧∀i,i<m→L.getD i false=true→Cl W i (Y i))∧(L.getD m false=true→Fin W (Y m))∧∀i,i<m→late i=true→L.getD i false=true→∀W',Cl W' i (Y i)) ?_ ?_ (m+1) _ a w.drew inv0 hun ?_
 ·have e:l.length-(m+1)+(m+1)=l.toArray.size:=by simp;omega
  rw[e]at H;exact H
 ·rintro L act W i inv hin hi ⟨Y,rfl,h1,h2,h3⟩;obtain⟨hnn,o,ho,hall⟩:=mem_ready.1 hi;have ho':l[i]? =some o:=by simpa using ho
  have hui:=getD_both hnn;have hsz:L.size=l.length:=by rw[inv.size];simp
  by_cases him:i=m
  ·subst him;obtain⟨hb,hc⟩:=h1 hui;refine hwrite o Y W ho' hb (fun j hj hl=>hc j hj ?_) _ (fun v W' hv=>⟨upd Y i v,rfl,fun hx=>?_,fun _=>by rw[upd_self];exact hv,fun j hj hl hx W''=>?_⟩)
   ·have hcv:=coverB_of (L:=L.setIfInBounds i true) hcov (inv.set hi hin) (by simp[Array.getD,hsz];omega) (i-j) j rfl hj hl;exact((ls_set' hcv).resolve_left (by omega))
   ·simp[Array.getD,hsz]at hx;omega
   ·rw[upd_ne Y v (by omega)];exact h3 j hj hl ((ls_set' hx).resolve_left (by omega)) W''
  ·have hilt:i<m:=by omega
   cases hl:late i with
   |true=>
    refine hlate i o Y W hilt hl ho' _ (fun v hv=>⟨upd Y i v,rfl,fun hx=>?_,fun hx=>?_,fun j hj hlj hx W''=>?_⟩)
    ·rw[getD_set_ne false him]at hx;obtain⟨hb,hc⟩:=h1 hx;refine⟨hb,fun j hj hx'=>?_⟩;by_cases hji:j=i
     ·subst hji;rw[upd_self];exact hv W
     ·rw[upd_ne Y v hji];exact hc j hj ((ls_set' hx').resolve_left hji)
    ·rw[getD_set_ne false him]at hx;rw[upd_ne Y v (by omega)];exact h2 hx
    ·by_cases hji:j=i
     ·subst hji;rw[upd_self];exact hv W''
     ·rw[upd_ne Y v hji];exact h3 j hj hlj ((ls_set' hx).resolve_left hji) W''
   |false=>
    have hmf:L.getD m false=false:=by
     cases hx:L.getD m false with
     |false=>rfl
     |true=>
      have:=coverB_of hcov inv hx (m-i) i rfl hilt hl;rw[hui]at this;cases this
    obtain⟨hb,hc⟩:=h1 hmf;refine hstep i o Y W hilt hl ho' hb (fun e he hbd=>hc _ (by have:=backB_of hback ho' he hbd;omega) (hall e he hbd)) _ (fun v W' hb' hv=>⟨upd Y i v,rfl,fun _=>⟨hb.trans (hb'.mono hb.size),fun j hj hx'=>?_⟩,fun hx=>?_,fun j hj hlj hx W''=>?_⟩)
    ·by_cases hji:j=i
     ·subst hji;rw[upd_self];exact hv
     ·rw[upd_ne Y v hji];exact hmono _ _ _ _ hb' (hc j hj ((ls_set' hx').resolve_left hji))
    ·rw[getD_set_ne false him,hmf]at hx;cases hx
    ·by_cases hji:j=i
     ·subst hji;rw[hl]at hlj;cases hlj
     ·rw[upd_ne Y v hji];exact h3 j hj hlj ((ls_set' hx).resolve_left hji) W''
 ·rintro L act W hall ⟨Y,rfl,h1,h2,h3⟩;exact hend Y W (h2 (hall m (by omega))) (fun i hi hl=>h3 i hi hl (hall i (by omega)))
 ·exact⟨Y0,ha,fun _=>⟨(Below.refl _ _).drew,fun j _ h=>by rw[getD_replicate_false]at h;cases h⟩,fun h=>(by rw[getD_replicate_false]at h;cases h),fun j _ _ h=>by rw[getD_replicate_false]at h;cases h⟩
end Go.Proofs.YtlenilbkifofjaaGreatDoor
namespace Go.Proofs
open Go.Shelf
def Tryz.lays128_ren:Go.Shelf.Ren:=⟨fun|128=>99|n=>n,fun|51=>154|3=>3|4=>4|46=>73|5=>5|9=>9|n=>n,fun|n=>n⟩
theorem Tryz.lays128:Go.Proofs.Lays.n128 Tryz.prog Tryz.lays128_ren:={
 mixed:=by kernel_rfl
 f128:=Tryz.func99.trans (congrArg some (by kernel_rfl))
 t3:=Tryz.underlying3
 a3:=Tryz.isAgg3
 z3:=Tryz.sizeOf3
 v3:=Tryz.zeroValue3
 t4:=Tryz.underlying4
 a4:=Tryz.isAgg4
 z4:=Tryz.sizeOf4
 v4:=Tryz.zeroValue4
 t5:=Tryz.underlying5
 a5:=Tryz.isAgg5
 z5:=Tryz.sizeOf5
 v5:=Tryz.zeroValue5
 t9:=Tryz.underlying9
 a9:=Tryz.isAgg9
 z9:=Tryz.sizeOf9
 v9:=Tryz.zeroValue9
 t46:=Tryz.underlying73
 a46:=Tryz.isAgg73
 z46:=Tryz.sizeOf73
 v46:=Tryz.zeroValue73
 t51:=Tryz.underlying154
 a51:=Tryz.isAgg154
 z51:=Tryz.sizeOf154
 v51:=Tryz.zeroValue154}
theorem Tryz.bits_Len32(x:Int)(w:World)(h0:0≤x)(h1:x≤4294967295):
  Calls Tryz.prog 99 #[.int .u32 x] w fun e w'=>e= .returned (.int .i64 (Lib.bitLen x.toNat))∧w'=w:=Any.bits_Len32 Tryz.lays128 x w h0 h1
def Tryz.lays125_ren:Go.Shelf.Ren:=⟨fun|125=>87|128=>99|129=>100|n=>n,fun|46=>73|3=>3|51=>154|53=>98|4=>4|5=>5|9=>9|n=>n,fun|n=>n⟩
theorem Tryz.lays125:Go.Proofs.Lays.n125 Tryz.prog Tryz.lays125_ren:={
 mixed:=by kernel_rfl
 f125:=Tryz.func87.trans (congrArg some (by kernel_rfl))
 f128:=Tryz.func99.trans (congrArg some (by kernel_rfl))
 f129:=Tryz.func100.trans (congrArg some (by kernel_rfl))
 t3:=Tryz.underlying3
 a3:=Tryz.isAgg3
 z3:=Tryz.sizeOf3
 v3:=Tryz.zeroValue3
 t4:=Tryz.underlying4
 a4:=Tryz.isAgg4
 z4:=Tryz.sizeOf4
 v4:=Tryz.zeroValue4
 t5:=Tryz.underlying5
 a5:=Tryz.isAgg5
 z5:=Tryz.sizeOf5
 v5:=Tryz.zeroValue5
 t9:=Tryz.underlying9
 a9:=Tryz.isAgg9
 z9:=Tryz.sizeOf9
 v9:=Tryz.zeroValue9
 t46:=Tryz.underlying73
 a46:=Tryz.isAgg73
 z46:=Tryz.sizeOf73
 v46:=Tryz.zeroValue73
 t51:=Tryz.underlying154
 a51:=Tryz.isAgg154
 z51:=Tryz.sizeOf154
 v51:=Tryz.zeroValue154
 t53:=Tryz.underlying98
 a53:=Tryz.isAgg98
 z53:=Tryz.sizeOf98
 v53:=Tryz.zeroValue98}
theorem Tryz.bits_Len(x:Int)(w:World)(h0:0≤x)(h1:x≤18446744073709551615):
  Calls Tryz.prog 87 #[.int .u64 x] w fun e w'=>e= .returned (.int .i64 (Lib.bitLen x.toNat))∧w'=w:=Any.bits_Len Tryz.lays125 x w h0 h1
def Tryz.lays129_ren:Go.Shelf.Ren:=⟨fun|129=>100|n=>n,fun|53=>98|3=>3|4=>4|46=>73|5=>5|9=>9|n=>n,fun|n=>n⟩
theorem Tryz.lays129:Go.Proofs.Lays.n129 Tryz.prog Tryz.lays129_ren:={
 mixed:=by kernel_rfl
 f129:=Tryz.func100.trans (congrArg some (by kernel_rfl))
 t3:=Tryz.underlying3
 a3:=Tryz.isAgg3
 z3:=Tryz.sizeOf3
 v3:=Tryz.zeroValue3
 t4:=Tryz.underlying4
 a4:=Tryz.isAgg4
 z4:=Tryz.sizeOf4
 v4:=Tryz.zeroValue4
 t5:=Tryz.underlying5
 a5:=Tryz.isAgg5
 z5:=Tryz.sizeOf5
 v5:=Tryz.zeroValue5
 t9:=Tryz.underlying9
 a9:=Tryz.isAgg9
 z9:=Tryz.sizeOf9
 v9:=Tryz.zeroValue9
 t46:=Tryz.underlying73
 a46:=Tryz.isAgg73
 z46:=Tryz.sizeOf73
 v46:=Tryz.zeroValue73
 t53:=Tryz.underlying98
 a53:=Tryz.isAgg98
 z53:=Tryz.sizeOf98
 v53:=Tryz.zeroValue98}
theorem Tryz.bits_Len64(x:Int)(w:World)(h0:0≤x)(h1:x≤18446744073709551615):
  Calls Tryz.prog 100 #[.int .u64 x] w fun e w'=>e= .returned (.int .i64 (Lib.bitLen x.toNat))∧w'=w:=Any.bits_Len64 Tryz.lays129 x w h0 h1
def Tryz.lays189_ren:Go.Shelf.Ren:=⟨fun|189=>69|125=>87|257=>86|128=>99|129=>100|294=>90|295=>91|296=>92|297=>93|298=>94|299=>95|216=>96|300=>97|301=>98|328=>101|329=>102|330=>103|331=>104|332=>105|215=>106|343=>107|n=>n,fun|28=>41|3=>3|46=>73|0=>0|51=>154|53=>98|4=>4|183=>148|182=>147|131=>84|5=>5|9=>9|218=>155|222=>159|228=>161|229=>162|n=>n,fun|n=>n⟩
theorem Tryz.lays189:Go.Proofs.Lays.n189 Tryz.prog Tryz.lays189_ren:={
 mixed:=by kernel_rfl
 f125:=Tryz.func87.trans (congrArg some (by kernel_rfl))
 f128:=Tryz.func99.trans (congrArg some (by kernel_rfl))
 f129:=Tryz.func100.trans (congrArg some (by kernel_rfl))
 f189:=Tryz.func69.trans (congrArg some (by kernel_rfl))
 f215:=Tryz.func106.trans (congrArg some (by kernel_rfl))
 f216:=Tryz.func96.trans (congrArg some (by kernel_rfl))
 f257:=Tryz.func86.trans (congrArg some (by kernel_rfl))
 f294:=Tryz.func90.trans (congrArg some (by kernel_rfl))
 f295:=Tryz.func91.trans (congrArg some (by kernel_rfl))
 f296:=Tryz.func92.trans (congrArg some (by kernel_rfl))
 f297:=Tryz.func93.trans (congrArg some (by kernel_rfl))
 f298:=Tryz.func94.trans (congrArg some (by kernel_rfl))
 f299:=Tryz.func95.trans (congrArg some (by kernel_rfl))
 f300:=Tryz.func97.trans (congrArg some (by kernel_rfl))
 f301:=Tryz.func98.trans (congrArg some (by kernel_rfl))
 f328:=Tryz.func101.trans (congrArg some (by kernel_rfl))
 f329:=Tryz.func102.trans (congrArg some (by kernel_rfl))
 f330:=Tryz.func103.trans (congrArg some (by kernel_rfl))
 f331:=Tryz.func104.trans (congrArg some (by kernel_rfl))
 f332:=Tryz.func105.trans (congrArg some (by kernel_rfl))
 f343:=Tryz.func107.trans (congrArg some (by kernel_rfl))
 t0:=Tryz.underlying0
 a0:=Tryz.isAgg0
 z0:=Tryz.sizeOf0
 v0:=Tryz.zeroValue0
 t3:=Tryz.underlying3
 a3:=Tryz.isAgg3
 z3:=Tryz.sizeOf3
 v3:=Tryz.zeroValue3
 t4:=Tryz.underlying4
 a4:=Tryz.isAgg4
 z4:=Tryz.sizeOf4
 v4:=Tryz.zeroValue4
 t5:=Tryz.underlying5
 a5:=Tryz.isAgg5
 z5:=Tryz.sizeOf5
 v5:=Tryz.zeroValue5
 t9:=Tryz.underlying9
 a9:=Tryz.isAgg9
 z9:=Tryz.sizeOf9
 v9:=Tryz.zeroValue9
 t28:=Tryz.underlying41
 a28:=Tryz.isAgg41
 z28:=Tryz.sizeOf41
 v28:=Tryz.zeroValue41
 t46:=Tryz.underlying73
 a46:=Tryz.isAgg73
 z46:=Tryz.sizeOf73
 v46:=Tryz.zeroValue73
 t51:=Tryz.underlying154
 a51:=Tryz.isAgg154
 z51:=Tryz.sizeOf154
 v51:=Tryz.zeroValue154
 t53:=Tryz.underlying98
 a53:=Tryz.isAgg98
 z53:=Tryz.sizeOf98
 v53:=Tryz.zeroValue98
 t131:=Tryz.underlying84
 a131:=Tryz.isAgg84
 z131:=Tryz.sizeOf84
 v131:=Tryz.zeroValue84
 t182:=Tryz.underlying147
 a182:=Tryz.isAgg147
 z182:=Tryz.sizeOf147
 v182:=Tryz.zeroValue147
 t183:=Tryz.underlying148
 a183:=Tryz.isAgg148
 z183:=Tryz.sizeOf148
 v183:=Tryz.zeroValue148
 t218:=Tryz.underlying155
 a218:=Tryz.isAgg155
 z218:=Tryz.sizeOf155
 v218:=Tryz.zeroValue155
 t222:=Tryz.underlying159
 a222:=Tryz.isAgg159
 z222:=Tryz.sizeOf159
 v222:=Tryz.zeroValue159
 t228:=Tryz.underlying161
 a228:=Tryz.isAgg161
 z228:=Tryz.sizeOf161
 v228:=Tryz.zeroValue161
 t229:=Tryz.underlying162
 a229:=Tryz.isAgg162
 z229:=Tryz.sizeOf162
 v229:=Tryz.zeroValue162}
open Go.Sort Go.RowKit in
theorem Tryz.slices_Sort_int(blk off cap:Nat)(zs:List Int)(w:World)(hH:Holds (Value.int .i64) w blk off zs.toArray)(hblk:blk<w.heap.size)(hsz:zs.length<4611686018427387904):
  Calls Tryz.prog 69 #[.slice (some ⟨blk,off,none⟩) zs.length cap] w fun e w'=>
   e= .returned (.tuple #[])∧∃n os,w'=grow (putRow (Value.int .i64) (Sort.ahead w n) blk off (zs.mergeSort fun x y=>decide (x≤y)).toArray) os:=Any.slices_Sort_int Tryz.lays189 blk off cap zs w hH hblk hsz
def Tryz.laysNm215_ren:Go.Shelf.Ren:=⟨fun|15=>68|n=>n,fun|22=>41|3=>3|4=>4|n=>n,fun|n=>n⟩
theorem Tryz.laysNm215:Go.Proofs.Lays2.n15 Tryz.prog Tryz.laysNm215_ren:={
 mixed:=by kernel_rfl
 f15:=Tryz.func68.trans (congrArg some (by kernel_rfl))
 t3:=Tryz.underlying3
 a3:=Tryz.isAgg3
 z3:=Tryz.sizeOf3
 v3:=Tryz.zeroValue3
 t4:=Tryz.underlying4
 a4:=Tryz.isAgg4
 z4:=Tryz.sizeOf4
 v4:=Tryz.zeroValue4
 t22:=Tryz.underlying41
 a22:=Tryz.isAgg41
 z22:=Tryz.sizeOf41
 v22:=Tryz.zeroValue41
 i3:=by kernel_rfl}
open Go.RowKit Go.Lib in
theorem Tryz.slices_Clone_int(b off n c:Nat)(zs:List Int)(w:World)(hz:n≤zs.length)(hbig:n*8≤140737488355328)(hc:∀j,j<zs.length→w.cell? ⟨b,off+j,none⟩=some (.int .i64 (zs.getD j 0))):
  Calls Tryz.prog 68 #[.slice (some ⟨b,off,none⟩) n c] w fun e w'=>∃v',e= .returned v'∧w'.ownsRow w.heap.size 3 1 v' n ((zs.take n).map (Value.int .i64))∧v'≠.slice none 0 0∧Below w.heap.size w w':=Any.slices_Clone_int Tryz.laysNm215 b off n c zs w hz hbig hc
open Go.RowKit Go.Lib in
theorem Tryz.slices_Clone_int_nil(n c:Nat)(w:World):
  Calls Tryz.prog 68 #[.slice none n c] w fun e w'=>e= .returned (.slice none 0 0)∧w'=w:=Any.slices_Clone_int_nil Tryz.laysNm215 n c w
open Go.RowKit Go.Lib in
theorem Tryz.slices_Clone_int_zero(a:Addr)(c:Nat)(w:World):
  Calls Tryz.prog 68 #[.slice (some a) 0 c] w fun e w'=>∃v',e= .returned v'∧w'.ownsRow w.heap.size 3 1 v' 0 []∧v'≠.slice none 0 0∧Below w.heap.size w w':=Any.slices_Clone_int_zero Tryz.laysNm215 a c w
def Tryz.laysNm220_ren:Go.Shelf.Ren:=⟨fun|20=>70|n=>n,fun|22=>41|3=>3|4=>4|0=>0|n=>n,fun|n=>n⟩
theorem Tryz.laysNm220:Go.Proofs.Lays2.n20 Tryz.prog Tryz.laysNm220_ren:={
 mixed:=by kernel_rfl
 f20:=Tryz.func70.trans (congrArg some (by kernel_rfl))
 t0:=Tryz.underlying0
 a0:=Tryz.isAgg0
 z0:=Tryz.sizeOf0
 v0:=Tryz.zeroValue0
 t3:=Tryz.underlying3
 a3:=Tryz.isAgg3
 z3:=Tryz.sizeOf3
 v3:=Tryz.zeroValue3
 t4:=Tryz.underlying4
 a4:=Tryz.isAgg4
 z4:=Tryz.sizeOf4
 v4:=Tryz.zeroValue4
 t22:=Tryz.underlying41
 a22:=Tryz.isAgg41
 z22:=Tryz.sizeOf41
 v22:=Tryz.zeroValue41
 i3:=by kernel_rfl}
open Go.RowKit Go.Lib Go.Sort in
theorem Tryz.slices_Compact_int_arr(blk off cap:Nat)(d:Array Int)(w:World)(hH:Holds encI w blk off d)(hsz:d.size≤9223372036854775807)(hcap:d.size≤cap):
  Calls Tryz.prog 70 #[.slice (some ⟨blk,off,none⟩) d.size cap] w fun e w'=>e= .returned (.slice (some ⟨blk,off,none⟩) (compactUpTo d d.size).length cap)∧∃q,w'=putRow encI (Sort.ahead w q) blk off (compactUpTo d d.size++List.replicate (d.size-(compactUpTo d d.size).length) 0).toArray:=Any.slices_Compact_int_arr Tryz.laysNm220 blk off cap d w hH hsz hcap
open Go.RowKit Go.Lib Go.Sort in
theorem Tryz.slices_Compact_int(blk off cap:Nat)(zs:List Int)(w:World)(hH:Holds (Value.int .i64) w blk off zs.toArray)(hsz:zs.length≤9223372036854775807)(hcap:zs.length≤cap):
  Calls Tryz.prog 70 #[.slice (some ⟨blk,off,none⟩) zs.length cap] w fun e w'=>e= .returned (.slice (some ⟨blk,off,none⟩) (Lib.compact zs).length cap)∧∃q,w'=putRow (Value.int .i64) (Sort.ahead w q) blk off (Lib.compact zs++List.replicate (zs.length-(Lib.compact zs).length) 0).toArray:=Any.slices_Compact_int Tryz.laysNm220 blk off cap zs w hH hsz hcap
open Go.RowKit Go.Lib Go.Sort in
theorem Tryz.slices_Compact_int_empty(a:Option Addr)(cap:Nat)(w:World):
  Calls Tryz.prog 70 #[.slice a 0 cap] w fun e w'=>e= .returned (.slice a 0 cap)∧w'=w:=Any.slices_Compact_int_empty Tryz.laysNm220 a cap w
def Tryz.laysNm237_ren:Go.Shelf.Ren:=⟨fun|37=>106|n=>n,fun|3=>3|4=>4|n=>n,fun|n=>n⟩
theorem Tryz.laysNm237:Go.Proofs.Lays2.n37 Tryz.prog Tryz.laysNm237_ren:={
 mixed:=by kernel_rfl
 f37:=Tryz.func106.trans (congrArg some (by kernel_rfl))
 t3:=Tryz.underlying3
 a3:=Tryz.isAgg3
 z3:=Tryz.sizeOf3
 v3:=Tryz.zeroValue3
 t4:=Tryz.underlying4
 a4:=Tryz.isAgg4
 z4:=Tryz.sizeOf4
 v4:=Tryz.zeroValue4}
open Go.RowKit Go.Lib in
theorem Tryz.cmp_isNaN_int2(x:Int)(w:World):
  Calls Tryz.prog 106 #[.int .i64 x] w fun e w'=>e= .returned (.bool false)∧w'=w:=Any.cmp_isNaN_int2 Tryz.laysNm237 x w
def Tryz.laysNm231_ren:Go.Shelf.Ren:=⟨fun|31=>96|37=>106|n=>n,fun|3=>3|4=>4|n=>n,fun|n=>n⟩
theorem Tryz.laysNm231:Go.Proofs.Lays2.n31 Tryz.prog Tryz.laysNm231_ren:={
 mixed:=by kernel_rfl
 f31:=Tryz.func96.trans (congrArg some (by kernel_rfl))
 f37:=Tryz.func106.trans (congrArg some (by kernel_rfl))
 t3:=Tryz.underlying3
 a3:=Tryz.isAgg3
 z3:=Tryz.sizeOf3
 v3:=Tryz.zeroValue3
 t4:=Tryz.underlying4
 a4:=Tryz.isAgg4
 z4:=Tryz.sizeOf4
 v4:=Tryz.zeroValue4}
open Go.RowKit Go.Lib in
theorem Tryz.cmp_Less_int2(x y:Int)(w:World):
  Calls Tryz.prog 96 #[.int .i64 x,.int .i64 y] w fun e w'=>e= .returned (.bool (decide (x<y)))∧w'=w:=Any.cmp_Less_int2 Tryz.laysNm231 x y w
open Go.RowKit Go.Lib Go.Sort in
theorem Tryz.slices_Compact_int_cells(b off n c:Nat)(zs:List Int)(w:World)(hz:n≤zs.length)(hbig:n≤9223372036854775807)(hcap:n≤c)(hc:∀j,j<zs.length→w.cell? ⟨b,off+j,none⟩=some (.int .i64 (zs.getD j 0)))(hf:∀j,j<n→w.frozen? ⟨b,off+j,none⟩=false):
  Calls Tryz.prog 70 #[.slice (some ⟨b,off,none⟩) n c] w fun e w'=>e= .returned (.slice (some ⟨b,off,none⟩) (Lib.compact (zs.take n)).length c)∧∃q,w'=(w.drewN q).setCells b off ((Lib.compact (zs.take n)++List.replicate (n-(Lib.compact (zs.take n)).length) 0).map (Value.int .i64)):=Any.slices_Compact_int_cells Tryz.laysNm220 b off n c zs w hz hbig hcap hc hf
open Go.RowKit Go.Sort in
theorem Tryz.slices_Sort_int_none(p:Option Addr)(cap:Nat)(w:World):
  Calls Tryz.prog 69 #[.slice p 0 cap] w fun e w'=>e= .returned (.tuple #[])∧w'=w:=Any.slices_Sort_int_none Tryz.lays189 p cap w
def Tryz.laysSlE041_f68_ren:Go.Shelf.Ren:=⟨fun|41=>68|n=>n,fun|22=>41|23=>3|4=>4|n=>n,fun|n=>n⟩
theorem Tryz.laysSlE041_f68:Go.Proofs.SlLaysE0.n41 Tryz.prog Tryz.laysSlE041_f68_ren:={
 mixed:=by kernel_rfl
 f41:=⟨Tryz.f68.name,by decide,Tryz.func68.trans (congrArg some (by kernel_rfl))⟩
 t4:=Tryz.underlying4
 a4:=Tryz.isAgg4
 z4:=Tryz.sizeOf4
 v4:=Tryz.zeroValue4
 t22:=Tryz.underlying41
 a22:=Tryz.isAgg41
 z22:=Tryz.sizeOf41
 v22:=Tryz.zeroValue41}
open Go.RowKit Go.Lib in
theorem Tryz.slices_Clone(i0:TypeInfo)(z:Value)(size bytes:Nat)(hi:Tryz.prog.info? 3=some i0)(hz0:i0.zero=some z)(hz1:i0.size=size)(hz2:i0.bytes=bytes)(hzs:z.cells.size=size)(hsz:0<size)(z23:∀w,(Go.sizeOf 3).run Tryz.prog w= .ok size w)(b off n c:Nat)(news:List Value)(w:World)(hl:news.length=n*size)(hn:n≤maxLen)(hbig:n*bytes≤140737488355328)(hc:∀j u,news[j]? =some u→w.cell? ⟨b,off+j,none⟩=some u)(h1:∀u∈news,u.oneCell'=true):
  Calls Tryz.prog 68 #[.slice (some ⟨b,off,none⟩) n c] w fun e w'=>∃v',e= .returned v'∧w'.ownsRow w.heap.size 3 size v' n news∧v'≠.slice none 0 0∧Below w.heap.size w w':=AnyE.slices_Clone Tryz.laysSlE041_f68 i0 z size bytes hi hz0 hz1 hz2 hzs hsz z23 b off n c news w hl hn hbig hc h1
open Go.RowKit Go.Lib in
theorem Tryz.slices_Clone_nil(n c:Nat)(w:World):
  Calls Tryz.prog 68 #[.slice none n c] w fun e w'=>e= .returned (.slice none 0 0)∧w'=w:=AnyE.slices_Clone_nil Tryz.laysSlE041_f68 n c w
end Go.Proofs
namespace Go.Proofs.YtlenilbkifofjaaGreatDoor
open Go.RowKit
theorem wp_world{P:Program}{c:Code}{Q:Exit→Act→World→Prop}{a:Act}{w:World}(h:∀W,W=w→Code.wp P c Q a W):Code.wp P c Q a w:=h w rfl
theorem wpOp_want{P:Program}{ops:Array Oper}{Q:Exit→Act→World→Prop}{i:Nat}{o:Oper}{a:Act}{w:World}{K:Act→World→Prop}(ho:ops[i]? =some o)(hg:Region.wanted o (yielded ops a.tmps)=true)
  (h:∀K':Act→World→Prop,(∀a w,K a w→K' a w)→o.wp P a w K' Q):wpOp P ops Q i K a w:=by
 unfold wpOp;rw[ho];simp only;rw[if_pos hg];exact Or.inl (h K (fun _ _ h=>h))
theorem wpOp_skip{P:Program}{ops:Array Oper}{Q:Exit→Act→World→Prop}{i:Nat}{o:Oper}{a:Act}{w:World}{K:Act→World→Prop}(ho:ops[i]? =some o)(hg:Region.wanted o (yielded ops a.tmps)=false)(h:K (a.put o.dst undef) w):wpOp P ops Q i K a w:=by
 unfold wpOp;rw[ho];simp only;rw[if_neg (by rw[hg];exact Bool.false_ne_true)];exact h
theorem region_ci_tail{P:Program}{id:Nat}{Q:Exit→Act→World→Prop}{a:Act}{w:World}{l:List Oper}(m:Nat)(late:Nat→Bool)(hm:P.follows .mixedOrders=true)(hB:headB l (m+1)=true)(hcov:coverB l m late=true)(Cl:Nat→Value→Prop)(Fin:World→Prop)(mk:(Nat→Value)→Act)(Y0:Nat→Value)(ha:a=mk Y0)
  (hstep:∀i o Y W,i<m→late i=false→l[i]? =some o→Below w.heap.size w W→(∀e∈o.after,Region.binds .any e=true→Cl e.on (Y e.on))→∀K:Act→World→Prop,(∀v W',Below W.heap.size W W'→Cl i v→K (mk (upd Y i v)) W')→wpOp P l.toArray Q i K (mk Y) W)
  (hlate:∀i o Y W,i<m→late i=true→l[i]? =some o→(∀e∈o.after,Region.binds .any e=true→Cl e.on (Y e.on))→∀K:Act→World→Prop,(∀v,Cl i v→K (mk (upd Y i v)) W)→wpOp P l.toArray Q i K (mk Y) W)
  (hwrite:∀o Y W,l[m]? =some o→Below w.heap.size w W→(∀e∈o.after,Region.binds .any e=true→Cl e.on (Y e.on))→∀K:Act→World→Prop,(∀v W',Fin W'→K (mk (upd Y m v)) W')→wpOp P l.toArray Q m K (mk Y) W)
  (hend:∀Y W,Fin W→(∀i,i<m→Cl i (Y i))→wpList P l.toArray Q (l.drop (m+1)) (mk Y) W):(Code.region id l.toArray true).wp P Q a w:=by
 have hn:m+1<l.length:=by
  unfold headB at hB;simp only[Bool.and_eq_true,decide_eq_true_eq]at hB;exact hB.1.1.1.1
 have hback:backB l=true:=by
  unfold headB at hB;simp only[Bool.and_eq_true,decide_eq_true_eq]at hB;exact hB.1.2
 refine wp_region_any hm ?_;have hun:unlisted (m+1) (Array.replicate l.toArray.size false)≤m+1:=by unfold unlisted;exact Nat.le_trans (List.length_filter_le _ _) (by simp)
 have inv0:HeadInv .any l.toArray (m+1) (Array.replicate l.toArray.size false):=
  ⟨by simp,fun j oj _ hl=>(by rw[getD_replicate_false]at hl;cases hl),fun t _ ht=>getD_in (by simpa using ht) (getD_replicate_false _ _)⟩
 have H:=wpAny_inv_tail (P:=P) (Q:=Q) (m+1) hB (fun L act W=>∃Y,act=mk Y∧(L.getD m false=false→Below w.heap.size w W)∧(L.getD m false=true→Fin W)∧∀i,i<m→L.getD i false=true→Cl i (Y i)) ?_ ?_ (m+1) _ a w.drew inv0 hun ?_
 ·have e:l.length-(m+1)+(m+1)=l.toArray.size:=by simp;omega
  rw[e]at H;exact H
 ·rintro L act W i inv hin hi ⟨Y,rfl,h1,h2,h3⟩;obtain⟨hnn,o,ho,hall⟩:=mem_ready.1 hi;have ho':l[i]? =some o:=by simpa using ho
  have hui:=getD_both hnn;have hsz:L.size=l.length:=by rw[inv.size];simp
  have hdep:∀e∈o.after,Region.binds .any e=true→Cl e.on (Y e.on):=fun e he hbd=>h3 _ (by have:=backB_of hback ho' he hbd;omega) (hall e he hbd);by_cases him:i=m
  ·subst him;refine hwrite o Y W ho' (h1 hui) hdep _ (fun v W' hv=>⟨upd Y i v,rfl,fun hx=>?_,fun _=>hv,fun j hj hx=>?_⟩)
   ·simp[Array.getD,hsz]at hx;omega
   ·rw[upd_ne Y v (by omega)];exact h3 j hj ((ls_set' hx).resolve_left (by omega))
  ·have hilt:i<m:=by omega
   have hkeep:∀(v:Value),Cl i v→∀j,j<m→(L.setIfInBounds i true).getD j false=true→Cl j (upd Y i v j):=fun v hv j hj hx=>by
    by_cases hji:j=i
    ·subst hji;rw[upd_self];exact hv
    ·rw[upd_ne Y v hji];exact h3 j hj ((ls_set' hx).resolve_left hji)
   cases hl:late i with
   |true=>exact hlate i o Y W hilt hl ho' hdep _ (fun v hv=>⟨upd Y i v,rfl,fun hx=>h1 (by rw[getD_set_ne false him]at hx;exact hx),fun hx=>h2 (by rw[getD_set_ne false him]at hx;exact hx),hkeep v hv⟩)
   |false=>
    have hmf:L.getD m false=false:=by
     cases hx:L.getD m false with
     |false=>rfl
     |true=>
      have:=coverB_of hcov inv hx (m-i) i rfl hilt hl;rw[hui]at this;cases this
    have hb:=h1 hmf;exact hstep i o Y W hilt hl ho' hb hdep _ (fun v W' hb' hv=>⟨upd Y i v,rfl,fun _=>hb.trans (hb'.mono hb.size),fun hx=>(by rw[getD_set_ne false him,hmf]at hx;cases hx),hkeep v hv⟩)
 ·rintro L act W hall ⟨Y,rfl,h1,h2,h3⟩;exact hend Y W (h2 (hall m (by omega))) (fun i hi=>h3 i hi (hall i (by omega)))
 ·exact⟨Y0,ha,fun _=>(Below.refl _ _).drew,fun h=>(by rw[getD_replicate_false]at h;cases h),fun j _ h=>by rw[getD_replicate_false]at h;cases h⟩
theorem one_un{L:Array Bool}{i:Nat}(hn:L.getD i true=false)(h:L.getD i false=true):False:=by
 rcases Nat.lt_or_ge i L.size with hj|hj
 ·simp[Array.getD,hj]at h hn;rw[hn]at h;cases h
 ·simp[Array.getD,Nat.not_lt.2 hj]at h
theorem region_one{P:Program}{id:Nat}{Q:Exit→Act→World→Prop}{a:Act}{w:World}{l:List Oper}(n m:Nat)(hmn:m<n)(hm:P.follows .mixedOrders=true)(hB:headB l n=true)(cst:Nat→Value)(Fin:World→Value→Prop)(mk:(Nat→Value)→Act)(Y0:Nat→Value)(ha:a=mk Y0)
  (hstep:∀i o Y W,i<n→i≠m→l[i]? =some o→(W=w.drew∨∃v,Fin W v)→(∀e∈o.after,Region.binds .any e=true→e.on≠m→Y e.on=cst e.on)→∀K:Act→World→Prop,K (mk (upd Y i (cst i))) W→wpOp P l.toArray Q i K (mk Y) W)
  (hwrite:∀o Y,l[m]? =some o→(∀e∈o.after,Region.binds .any e=true→Y e.on=cst e.on)→∀K:Act→World→Prop,(∀v W',Fin W' v→K (mk (upd Y m v)) W')→wpOp P l.toArray Q m K (mk Y) w.drew)
  (hend:∀Y W,Fin W (Y m)→(∀i,i<n→i≠m→Y i=cst i)→wpList P l.toArray Q (l.drop n) (mk Y) W):(Code.region id l.toArray true).wp P Q a w:=by
 have hn:n<l.length:=by
  unfold headB at hB;simp only[Bool.and_eq_true,decide_eq_true_eq]at hB;exact hB.1.1.1.1
 have hback:backB l=true:=by
  unfold headB at hB;simp only[Bool.and_eq_true,decide_eq_true_eq]at hB;exact hB.1.2
 refine wp_region_any hm ?_;have hun:unlisted n (Array.replicate l.toArray.size false)≤n:=by unfold unlisted;exact Nat.le_trans (List.length_filter_le _ _) (by simp)
 have inv0:HeadInv .any l.toArray n (Array.replicate l.toArray.size false):=
  ⟨by simp,fun j oj _ hl=>(by rw[getD_replicate_false]at hl;cases hl),fun t _ ht=>getD_in (by simpa using ht) (getD_replicate_false _ _)⟩
 have H:=wpAny_inv_tail (P:=P) (Q:=Q) n hB (fun L act W=>L.size=l.length∧∃Y,act=mk Y∧(L.getD m false=false→W=w.drew)∧(L.getD m false=true→Fin W (Y m))∧∀i,i<n→i≠m→L.getD i false=true→Y i=cst i) ?_ ?_ n _ a w.drew inv0 hun ?_
 ·have e:l.length-n+n=l.toArray.size:=by simp;omega
  rw[e]at H;exact H
 ·rintro L act W i _ hin hi ⟨hsz,Y,rfl,h1,h2,h3⟩;obtain⟨hnn,o,ho,hall⟩:=mem_ready.1 hi;have ho':l[i]? =some o:=by simpa using ho
  have hlt:∀e∈o.after,Region.binds .any e=true→e.on<i:=fun e he hbd=>backB_of hback ho' he hbd;by_cases him:i=m
  ·subst him;have hf:L.getD i false=false:=by
    cases hx:L.getD i false with
    |false=>rfl
    |true=>exact(one_un hnn hx).elim
   rw[h1 hf];refine hwrite o Y ho' (fun e he hbd=>h3 e.on (by have:=hlt e he hbd;omega) (by have:=hlt e he hbd;omega) (hall e he hbd)) _ (fun v W' hv=>⟨by simp[hsz],upd Y i v,rfl,fun h=>?_,fun _=>by rw[upd_self];exact hv,fun j hj hjm hL=>?_⟩)
   ·have:(L.setIfInBounds i true).getD i false=true:=by
     have hi':i<L.size:=by omega
     simp[Array.getD,hi']
    rw[this]at h;cases h
   ·rw[upd_ne Y v hjm];exact h3 j hj hjm ((ls_set' hL).resolve_left hjm)
  ·have hm':(L.setIfInBounds i true).getD m false=L.getD m false:=getD_set_ne false him;refine hstep i o Y W hin him ho' ?_ (fun e he hbd hem=>h3 e.on (by have:=hlt e he hbd;omega) hem (hall e he hbd)) _ ⟨by simp[hsz],upd Y i (cst i),rfl,fun h=>h1 (by rw[←hm'];exact h),fun h=>by rw[upd_ne Y _ (fun e=>him e.symm)];exact h2 (by rw[←hm'];exact h),fun j hj hjm hL=>?_⟩
   ·cases hL:L.getD m false with
    |false=>exact Or.inl (h1 hL)
    |true=>exact Or.inr ⟨_,h2 hL⟩
   ·by_cases hji:j=i
    ·subst hji;rw[upd_self]
    ·rw[upd_ne Y _ hji];exact h3 j hj hjm ((ls_set' hL).resolve_left hji)
 ·rintro L act W hall ⟨hsz,Y,rfl,h1,h2,h3⟩;exact hend Y W (h2 (hall m hmn)) (fun i hi hne=>h3 i hi hne (hall i hi))
 ·refine⟨by simp,Y0,ha,⟨fun _=>rfl,⟨?_,?_⟩⟩⟩
  ·intro h;rw[getD_replicate_false]at h;cases h
  ·intro i _ _ h;rw[getD_replicate_false]at h;cases h
def rmcells(P:Value×Value×Value×Value)(fuel:Int)(s:St)(inv outv memv:Value):Array Value:=
 #[P.1,P.2.1,P.2.2.1,P.2.2.2,inv,.int .i64 fuel,.int .i64 s.kind,.int .i64 s.code,outv,.int .i64 s.steps,.int .i64 s.deep,memv,.int .i64 s.calls]
structure RMachAt (w:World) (base mc:Nat) (own:Nat→Prop) (P:Value×Value×Value×Value) (fuel:Int) (s:St) (inv outv memv:Value) (rb:Nat→Nat):Prop where
 row:Row w mc (rmcells P fuel s inv outv memv) 64
 mine:own mc
 rest:Rest w base own inv outv memv rb s
def RMach(w:World)(base mc:Nat)(own:Nat→Prop)(P:Value×Value×Value×Value)(fuel:Int)(s:St):Prop:=
 ∃inv outv memv rb,RMachAt w base mc own P fuel s inv outv memv rb
theorem Rest.wrR{w w':World}{base:Nat}{own F:Nat→Prop}{inv outv memv:Value}{rb:Nat→Nat}{s:St}(h:Rest w base own inv outv memv rb s)(hw:Wr F w w')
  (hF:∀k,F k→base≤k∧(own k→∃cs,Row w k cs 64))(hb:base≤w.heap.size):Rest w' base own inv outv memv rb s:=by
 have hne:∀g cs t,Row w g cs t→own g→t≠64→¬F g:=by
  intro g cs t hr ho ht hf;obtain⟨cs',hr'⟩:=(hF g hf).2 ho;exact hr.ne hr' ht rfl
 refine⟨h.inp.below (fun b o hb'=>?_),ownsRow_wr h.out hw (fun g hg=>?_),h.outo,?_,h.memo,fun k hk=>⟨(h.own k hk).1,Nat.lt_of_lt_of_le (h.own k hk).2 hw.size⟩⟩
 ·exact World.cell?_of_block (a:=⟨b,o,none⟩) (hw.block b (by omega) (fun hf=>by have:=(hF b hf).1;omega))
 ·obtain⟨_,cs,hr⟩:=ownsRow_row h.out hg;exact hne g cs _ hr (h.outo g hg) (by decide)
 ·obtain⟨⟨xs,hx,hox⟩,hm,hi,hk⟩:=h.mem;refine⟨⟨xs,ownsRow_wr hx hw (fun g hg=>?_),hox⟩,fun k o h1 ho=>?_,hi,hk⟩
  ·obtain⟨_,cs,hr⟩:=ownsRow_row hx hg;exact hne g cs _ hr (h.memo g hg) (by decide)
  ·obtain⟨ho',cs,hr,hv⟩:=hm k o h1 ho;exact⟨ho',cs,hr.wr hw (hne _ cs _ hr ho' (by decide)),hv⟩
theorem RMach.below{w w':World}{base mc:Nat}{own:Nat→Prop}{P:Value×Value×Value×Value}{fuel:Int}{s:St}(h:RMach w base mc own P fuel s)(hw:Below w.heap.size w w'):RMach w' base mc own P fuel s:=by
 obtain⟨inv,outv,memv,rb,hr,hm,hs⟩:=h;have hb:=(hs.own mc hm)
 exact⟨inv,outv,memv,rb,hr.below hw hr.lt,hm,hs.wrR (F:=fun _=>False) (Wr.of_below hw) (fun k hk=>hk.elim) (by omega)⟩
theorem RMach.wr{w w':World}{base mc:Nat}{own F:Nat→Prop}{P:Value×Value×Value×Value}{fuel:Int}{s:St}(h:RMach w base mc own P fuel s)(hw:Wr F w w')(hF:∀k,F k→base≤k∧¬own k):RMach w' base mc own P fuel s:=by
 obtain⟨inv,outv,memv,rb,hr,hm,hs⟩:=h;have hb:=(hs.own mc hm)
 exact⟨inv,outv,memv,rb,hr.wr hw (fun hf=>(hF mc hf).2 hm),hm,hs.wrR hw (fun k hk=>⟨(hF k hk).1,fun ho=>absurd ho (hF k hk).2⟩) (by omega)⟩
theorem RMachAt.num{w:World}{base mc:Nat}{own:Nat→Prop}{P:Value×Value×Value×Value}{fuel:Int}{s s':St}{inv outv memv:Value}{rb:Nat→Nat}(h:RMachAt w base mc own P fuel s inv outv memv rb)(j:Nat)(v:Value)
  (hj:(rmcells P fuel s inv outv memv).setIfInBounds j v=rmcells P fuel s' inv outv memv)(h1:s'.inp=s.inp)(h2:s'.out=s.out)(h3:s'.mem=s.mem):RMachAt (w.setCell ⟨mc,j,none⟩ v) base mc own P fuel s' inv outv memv rb:=by
 obtain⟨hr,hm,hs⟩:=h;have hb:=(hs.own mc hm)
 have hw:Wr (fun k=>k=mc) w (w.setCell ⟨mc,j,none⟩ v):=Wr.setCell w ⟨mc,j,none⟩ v rfl;refine⟨hj▸hr.set j v,hm,(hs.wrR hw (fun k hk=>?_) (by omega)).same h1 h2 h3⟩;subst hk;exact⟨hb.1,fun _=>⟨_,hr⟩⟩
theorem RMachAt.lt{w:World}{base mc:Nat}{own:Nat→Prop}{P:Value×Value×Value×Value}{fuel:Int}{s:St}{inv outv memv:Value}{rb:Nat→Nat}(h:RMachAt w base mc own P fuel s inv outv memv rb):mc<w.heap.size:=h.row.lt
theorem rstop_any(base mc:Nat)(own:Nat→Prop)(P:Value×Value×Value×Value)(fuel k:Int)(s:St)(w:World)(hm:RMach w base mc own P fuel s):
  Calls Tryz.prog 37 #[.pointer (some ⟨mc,0,none⟩),.int .i64 k] w fun e w'=>e= .returned (.bool false)∧RMach w' base mc own P fuel (stopF k s)∧Wr (fun b=>b=mc) w w':=by
 obtain⟨inv,outv,memv,rb,hm⟩:=hm;have c5:w.cell? ⟨mc,6,none⟩=some (.int .i64 s.kind):=hm.row.cell rfl;have f5:w.frozen? ⟨mc,6,none⟩=false:=hm.row.free 6;unfold stopF;by_cases hk:s.kind=0
 ·rw[if_pos hk];have HM:=Lib.hid (RMachAt.num (s':={s with kind:=k}) hm 6 (.int .i64 k) rfl rfl rfl rfl);rw[hk]at c5;clear hm hk;go_enter Tryz.func37,Tryz.ntmps37;go_wp2;go_ret;exact⟨rfl,⟨_,_,_,_,HM.out⟩,Wr.setCell w ⟨mc,6,none⟩ _ rfl⟩
 ·rw[if_neg hk];have HM:=Lib.hid hm;have hk':(s.kind==0)=false:=by simpa using hk
  clear hm hk;go_enter Tryz.func37,Tryz.ntmps37;go_wp2;go_ret;exact⟨rfl,⟨_,_,_,_,HM.out⟩,Wr.refl _ _⟩
theorem RMachAt.drew{w:World}{base mc:Nat}{own:Nat→Prop}{P:Value×Value×Value×Value}{fuel:Int}{s:St}{inv outv memv:Value}{rb:Nat→Nat}(h:RMachAt w base mc own P fuel s inv outv memv rb)(n:Nat):RMachAt (w.drewN n) base mc own P fuel s inv outv memv rb:=by
 have hw:Wr (fun _=>False) w (w.drewN n):=Wr.of_below (below_drewN (Below.refl _ _) n);exact⟨h.row,h.mine,h.rest.wrR hw (fun k hk=>hk.elim) (by have:=h.rest.own mc h.mine;omega)⟩
theorem rstep_any(base mc:Nat)(own:Nat→Prop)(P:Value×Value×Value×Value)(fuel k:Int)(s:St)(w:World)(hm:RMach w base mc own P fuel s)(hs0:0≤s.steps)(hs1:s.steps≤fuel)(hf:fuel≤1000000000)(hk0:0≤k)(hk1:k≤1000000000):
  Calls Tryz.prog 38 #[.pointer (some ⟨mc,0,none⟩),.int .i64 k] w fun e w'=>e= .returned (.bool (stepF fuel k s).1)∧RMach w' base mc own P fuel (stepF fuel k s).2∧Wr (fun b=>b=mc) w w':=by
 obtain⟨inv,outv,memv,rb,hm⟩:=hm;have c4:w.cell? ⟨mc,5,none⟩=some (.int .i64 fuel):=hm.row.cell rfl;have c5:w.cell? ⟨mc,6,none⟩=some (.int .i64 s.kind):=hm.row.cell rfl;have c8:w.cell? ⟨mc,9,none⟩=some (.int .i64 s.steps):=hm.row.cell rfl;have f8:w.frozen? ⟨mc,9,none⟩=false:=hm.row.free 9;unfold stepF;by_cases hk:s.kind=0
 ·rw[if_pos hk];rw[hk]at c5;by_cases hn:fuel-s.steps<k
  ·rw[if_pos hn];have hn':decide (fuel-s.steps<k)=true:=by simpa using hn
   have HM:=Lib.hid (fun nq=>RMachAt.num (s':={s with steps:=fuel}) (hm.drew nq) 9 (.int .i64 fuel) rfl rfl rfl rfl);have HS:=Lib.hid (fun W hM=>rstop_any base mc own P fuel 2 {s with steps:=fuel} W ⟨inv,outv,memv,rb,hM⟩);have hk':=Lib.hid hk;clear hm hn hk;go_enter Tryz.func38,Tryz.ntmps38;go_wp2_with fail;go_quiet (fail);go_wp2_with(go_at_call 37;refine(HS.out _ (HM.out _)).mono ?_;rintro e w' ⟨rfl,hM',hW'⟩);go_ret;refine⟨rfl,?_,?_⟩
   ·simpa [stopF,hk'.out]using hM'
   ·exact((wr_drewN _ w _).trans (Wr.cell1 _ mc 9 _) (fun i hi=>Or.inl hi)).trans hW' (fun i hi=>Or.inl hi)
  ·rw[if_neg hn];have hn':decide (fuel-s.steps<k)=false:=by simpa using hn
   have HM:=Lib.hid (fun nq=>RMachAt.num (s':={s with steps:=s.steps+k}) (hm.drew nq) 9 (.int .i64 (s.steps+k)) rfl rfl rfl rfl);clear hm hn hk;go_enter Tryz.func38,Tryz.ntmps38;go_wp2_with fail;go_quiet (fail);go_wp2_with fail;go_ret;exact⟨rfl,⟨_,_,_,_,HM.out _⟩,(wr_drewN _ w _).trans (Wr.cell1 _ mc 9 _) (fun i hi=>Or.inl hi)⟩
 ·rw[if_neg hk];have HM:=Lib.hid hm;have hk':(s.kind !=0)=true:=by simpa using hk
  clear hm hk;go_enter Tryz.func38,Tryz.ntmps38;go_wp2;go_ret;exact⟨rfl,⟨_,_,_,_,HM.out⟩,Wr.refl _ _⟩
theorem objs_any(l:List ObS)(A:Option Addr)(n cap:Nat)(most:Int)(B:Nat)(w:World)(hB:B≤w.heap.size)(hl:SliceAt w B 3 (ObE w B) l (.slice A n cap)):
  Calls Tryz.prog 14 #[.slice A n cap,.int .i64 most] w fun e w'=>e= .returned (.bool (objsB l most))∧Below w.heap.size w w':=by
 obtain⟨hln,hn⟩:=hl.len;have HL:=Lib.hid hl;have HLN:=Lib.hid hln;clear hl hln;go_enter Tryz.func14,Tryz.ntmps14;go_wp2_with fail;go_loopw [5] (fun i wr=>∃k:Nat,k≤n∧i= .int .i64 k∧obsB (l.drop k)=obsB l∧Below w.heap.size w wr) (fun i _=>n-(intOf i).toNat)
 case atStart=>exact⟨0,by omega,rfl,rfl,Below.refl _ _⟩
 case round=>
  obtain⟨k,hk,rfl,hcs,hbw⟩:=hrel;have HCS:=Lib.hid hcs;clear hcs;have hzw:=hbw.size;by_cases hlt:k<n
  ·obtain⟨b,off,o,rfl,hb,hk1,c0,c1,⟨v,c2,hv⟩,_,_⟩:=(HL.out.below (hbw.mono hB) (Nat.le_refl _) (fun _ _ h=>h.below (hbw.mono hB) (Nat.le_refl _))).get hlt;simp only[Nat.add_zero]at c0 c1 c2;obtain⟨IA,icap,hiv⟩:∃IA icap,v= .slice IA o.init.length icap:=(by obtain⟨A',c',h,_⟩:=hv;exact⟨_,_,h⟩)
   subst hiv;have hil:=hv.len.2;have HD:=Lib.hid (show obsB (l.drop k)=(obB o && obsB (l.drop (k+1)))from by rw[drop_of hk1];rfl);have hklt:(k:Int)<(n:Int):=by omega
   have hbl:b<wr.heap.size:=by omega
   have HS:=Lib.hid (fun W=>size_any o.size W);have HT:=Lib.hid (fun W=>between_any o.count 1 64 W);obtain⟨q1,hq1⟩:∃q,q=sizeB o.size:=⟨_,rfl⟩
   obtain⟨q2,hq2⟩:∃q,q=betwB o.count 1 64:=⟨_,rfl⟩
   rw[←hq1]at HS;rw[←hq2]at HT;have HO:=Lib.hid (show obB o=(q1 && q2 && !decide ((o.init.length:Int)>o.count))from by rw[hq1,hq2];rfl);clear hk1 hv hq1 hq2;have hbad:obB o=false→obsB l=false:=fun h=>by rw[←HCS.out,HD.out,h];rfl
   have hgood:obB o=true→obsB (l.drop (k+1))=obsB l:=fun h=>by rw[←HCS.out,HD.out,h];rfl
   have HBAD:=Lib.hid hbad;have HGOOD:=Lib.hid hgood;clear hbad hgood;cases q1 with
   |false=>
    go_wp2_with fail;go_quiet ((go_at_call 26;exact Calls.quiet_of_same ((HS.out _).mono fun _ _ h=>⟨h.1,h.2.symm⟩)));go_wp2_with fail;go_ret;have he:objsB l most=false:=by unfold objsB;rw[HBAD.out (by rw[HO.out];rfl)];rfl
    exact⟨by rw[he];rfl,below_drewN hbw _⟩
   |true=>
    cases q2 with
    |false=>
     go_wp2_with fail;go_quiet ((first|(go_at_call 26;exact Calls.quiet_of_same ((HS.out _).mono fun _ _ h=>⟨h.1,h.2.symm⟩))|(go_at_call 15;exact Calls.quiet_of_same ((HT.out _).mono fun _ _ h=>⟨h.1,h.2.symm⟩))));go_wp2_with fail;go_ret;have he:objsB l most=false:=by unfold objsB;rw[HBAD.out (by rw[HO.out];rfl)];rfl
     exact⟨by rw[he];rfl,below_drewN hbw _⟩
    |true=>
     by_cases hx:(o.init.length:Int)>o.count
     ·have hd:decide (o.count<(o.init.length:Int))=true:=by simpa using hx
      have he:objsB l most=false:=by unfold objsB;rw[HBAD.out (by rw[HO.out];simpa using hx)];rfl
      have HE:=Lib.hid he;clear hx he;go_wp2_with fail;go_quiet ((first|(go_at_call 26;exact Calls.quiet_of_same ((HS.out _).mono fun _ _ h=>⟨h.1,h.2.symm⟩))|(go_at_call 15;exact Calls.quiet_of_same ((HT.out _).mono fun _ _ h=>⟨h.1,h.2.symm⟩))));go_wp2_with fail;go_ret;exact⟨by rw[HE.out];rfl,below_drewN hbw _⟩
     ·have hd:decide (o.count<(o.init.length:Int))=false:=by simpa using hx
      have HE:=Lib.hid (HGOOD.out (by rw[HO.out];simpa using hx));clear hx;go_wp2_with fail;go_quiet ((first|(go_at_call 26;exact Calls.quiet_of_same ((HS.out _).mono fun _ _ h=>⟨h.1,h.2.symm⟩))|(go_at_call 15;exact Calls.quiet_of_same ((HT.out _).mono fun _ _ h=>⟨h.1,h.2.symm⟩))));go_wp2_with fail;go_roundw
      case rel=>exact⟨k+1,by omega,by go_num,HE.out,below_drewN hbw _⟩
      case measure=>simp[intOf];omega
  ·obtain rfl:k=n:=by omega
   have he:obsB l=true:=by rw[←HCS.out,drop_nil_of (by rw[HLN.out];exact Nat.le_refl _)];rfl
   have hl2:objsB l most=decide ((k:Int)≤most):=by unfold objsB;rw[he,HLN.out];rfl
   have HE:=Lib.hid hl2;clear he hl2;go_wp2_with fail;go_ret;exact⟨by rw[HE.out];rfl,hbw⟩
structure XBoxS (w:World) (ia is ix sz:Nat) (ty:TypeId) (boxed:Value→Array Value) (Cl:World→Nat→Value→(Nat→Prop)→Prop) (L:Array Bool) (Y:Nat→Value) (Z:Nat→Nat→Prop) (W:World):Prop where
 below:Below w.heap.size w W
 cl:∀i,i≠ia→i≠is→L.getD i false=true→Cl W i (Y i) (Z i)∧(∀k,Z i k→k<W.heap.size)∧(L.getD ia false=true→∀p,Y ia= .pointer (some ⟨p,0,none⟩)→¬Z i p)
 box:L.getD ia false=true→∃p cs,Y ia= .pointer (some ⟨p,0,none⟩)∧w.heap.size≤p∧Row W p cs ty∧cs.size=sz∧(L.getD is false=true→L.getD ix false=true∧cs=boxed (Y ix))
 dep:L.getD is false=true→L.getD ia false=true
def updZ(Z:Nat→Nat→Prop)(i:Nat)(S:Nat→Prop):Nat→Nat→Prop:=fun j=>if j=i then S else Z j
theorem updZ_self(Z:Nat→Nat→Prop)(i:Nat)(S:Nat→Prop):updZ Z i S i=S:=by simp[updZ]
theorem updZ_ne(Z:Nat→Nat→Prop){i j:Nat}(S:Nat→Prop)(h:j≠i):updZ Z i S j=Z j:=by simp[updZ,h]
theorem flags_all{l:List Oper}{L:Array Bool}(hback:l.zipIdx.all (fun x=>x.1.after.all fun e=>!Region.binds .any e||decide (e.on<x.2))=true)(hr:Region.ready .any l.toArray L=[])(hsz:L.size=l.length):∀i,i<l.length→L.getD i false=true:=by
 have key:∀n i,i<n→i<l.length→L.getD i false=true:=by
  intro n
  induction n with
  |zero=>intro i h;omega
  |succ n ih=>
   intro i hin hil;refine flag_of_any (j:=i) (by omega) hr (show l.toArray[i]? =some l[i] by simp[hil]) (fun e he hbd=>?_);have hlt:e.on<i:=by
    have hx:=List.all_eq_true.1 hback (l[i],i) (List.mem_iff_getElem?.2 ⟨i,by simp[hil]⟩);have hy:=(Array.all_eq_true_iff_forall_mem.1 hx) e he;rw[hbd]at hy;simpa using hy
   exact ih e.on (by omega) (by omega)
 exact fun i hi=>key (i+1) i (by omega) hi
theorem region_boxS{P:Program}{id:Nat}{Q:Exit→Act→World→Prop}{a:Act}{w:World}{l:List Oper}(hm:P.follows .mixedOrders=true)(ia is ix sz:Nat)(ty:TypeId)(boxed:Value→Array Value)
  (Cl:World→Nat→Value→(Nat→Prop)→Prop)(mk:(Nat→Value)→Act)(Y0:Nat→Value)(ha:a=mk Y0)
  (hback:l.zipIdx.all (fun x=>x.1.after.all fun e=>!Region.binds .any e||decide (e.on<x.2))=true)
  (hia:ia<l.length)(his:is<l.length)(hne:ia≠is)(hxa:ix≠ia)(hxs:ix≠is)
  (hst:∀o,l[is]? =some o→(∃e∈o.after,e.on=ia∧Region.binds .any e=true)∧(∃e∈o.after,e.on=ix∧Region.binds .any e=true))
  (hwr:∀F W W' i v S,Wr F W W'→(∀k,S k→¬F k)→Cl W i v S→Cl W' i v S)
  (hstep:∀i o Y(Z:Nat→Nat→Prop)W,i≠ia→i≠is→l[i]? =some o→Below w.heap.size w W→(∀e∈o.after,Region.binds .any e=true→e.on≠ia→e.on≠is→Cl W e.on (Y e.on) (Z e.on))→
   ∀K:Act→World→Prop,(∀v S W',Below W.heap.size W W'→Cl W' i v S→(∀k,S k→(W.heap.size≤k∧k<W'.heap.size)∨∃e∈o.after,Region.binds .any e=true∧e.on≠ia∧e.on≠is∧Z e.on k)→K (mk (upd Y i v)) W')→wpOp P l.toArray Q i K (mk Y) W)
  (halloc:∀o Y W,l[ia]? =some o→Below w.heap.size w W→∀K:Act→World→Prop,(∀cs:Array Value,cs.size=sz→K (mk (upd Y ia (.pointer (some ⟨W.heap.size,0,none⟩)))) (W.alloc (.cells cs ty)))→wpOp P l.toArray Q ia K (mk Y) W)
  (hwrite:∀o Y S W p cs,l[is]? =some o→Y ia= .pointer (some ⟨p,0,none⟩)→Row W p cs ty→cs.size=sz→Cl W ix (Y ix) S→∀K:Act→World→Prop,(∀W' v,Wr (fun k=>k=p) W W'→Row W' p (boxed (Y ix)) ty→(boxed (Y ix)).size=sz→K (mk (upd Y is v)) W')→wpOp P l.toArray Q is K (mk Y) W)
  (hend:∀Y(Z:Nat→Nat→Prop)W p,Below w.heap.size w W→w.heap.size≤p→Y ia= .pointer (some ⟨p,0,none⟩)→Row W p (boxed (Y ix)) ty→(∀i,i<l.length→i≠ia→i≠is→Cl W i (Y i) (Z i)∧¬Z i p)→Q .normal (mk Y) W):(Code.region id l.toArray true).wp P Q a w:=by
 refine wp_region_inv hm (fun L act W=>L.size=l.length∧∃Y Z,act=mk Y∧XBoxS w ia is ix sz ty boxed Cl L Y Z W) ?_ ?_ ?_
 ·have hf:∀j,(Array.replicate l.toArray.size false).getD j false=true→False:=fun j h=>by
   rcases Nat.lt_or_ge j l.length with hj|hj
   ·simp[Array.getD,hj]at h
   ·simp[Array.getD,Nat.not_lt.2 hj]at h
  exact⟨by simp,Y0,fun _ _=>False,ha,(Below.refl _ _).drew,fun i _ _ h=>(hf i h).elim,fun h=>(hf _ h).elim,fun h=>(hf _ h).elim⟩
 ·rintro L act W i hi ⟨hsz,Y,Z,rfl,hJ⟩;obtain⟨hn,o,ho,hall⟩:=mem_ready.1 hi;have ho':l[i]? =some o:=by simpa using ho
  have hb:=hJ.below;by_cases h1:i=ia
  ·subst h1;refine halloc o Y W ho' hb _ (fun cs hcs=>⟨by simp[hsz],_,Z,rfl,hb.alloc hb.size _,fun j hj1 hj2 g=>?_,fun g=>?_,fun g=>?_⟩)
   ·have g':=(ls_set' g).resolve_left hj1;obtain⟨c1,c2,c3⟩:=hJ.cl j hj1 hj2 g';rw[upd_ne Y _ hj1];refine⟨hwr (fun _=>False) _ _ _ _ _ (Wr.of_below (below1 W _)) (fun _ _ h=>h) c1,fun k hk=>by have:=c2 k hk;simp;omega,fun _ p hp hz=>?_⟩;rw[upd_self]at hp;injection hp with hp;injection hp with hp;injection hp with hp;have:=c2 p hz;omega
   ·refine⟨W.heap.size,cs,upd_self _ _ _,hb.size,Row.new _ _ _,hcs,fun g2=>?_⟩;exact(ls_un hn (hJ.dep ((ls_set' g2).resolve_left (Ne.symm hne)))).elim
   ·exact(ls_un hn (hJ.dep ((ls_set' g).resolve_left (Ne.symm hne)))).elim
  ·by_cases h2:i=is
   ·subst h2;obtain⟨⟨e1,he1,hon1,hb1⟩,⟨e2,he2,hon2,hb2⟩⟩:=hst o ho';have f1:=hall e1 he1 hb1;have f2:=hall e2 he2 hb2;rw[hon1]at f1;rw[hon2]at f2;obtain⟨p,cs,hp,hpw,hrow,hcs,_⟩:=hJ.box f1;refine hwrite o Y (Z ix) W p cs ho' hp hrow hcs (hJ.cl ix hxa hxs f2).1 _ (fun W' v hw' hr' hbs=>⟨by simp[hsz],_,Z,rfl,hb.trans (hw'.below hb.size (fun k hk=>by omega)),fun j hj1 hj2 g=>?_,fun g=>?_,fun g=>ls_keep f1⟩)
    ·have g':=(ls_set' g).resolve_left hj2;obtain⟨c1,c2,c3⟩:=hJ.cl j hj1 hj2 g';rw[upd_ne Y _ hj2,upd_ne Y _ hne];exact⟨hwr _ _ _ _ _ _ hw' (fun k hk e=>c3 f1 p hp (by have e:k=p:=e;rw[←e];exact hk)) c1,fun k hk=>Nat.lt_of_lt_of_le (c2 k hk) hw'.size,fun _=>c3 f1⟩
    ·rw[upd_ne Y _ hne,upd_ne Y _ hxs];exact⟨p,_,hp,hpw,hr',hbs,fun _=>⟨ls_keep f2,rfl⟩⟩
   ·refine hstep i o Y Z W h1 h2 ho' hb (fun e he hbd n1 n2=>(hJ.cl e.on n1 n2 (hall e he hbd)).1) _ (fun v S W' hb' hv hoff=>⟨by simp[hsz],_,updZ Z i S,rfl,hb.trans (hb'.mono hb.size),fun j hj1 hj2 g=>?_,fun g=>?_,fun g=>ls_keep (hJ.dep ((ls_set' g).resolve_left (Ne.symm h2)))⟩)
    ·by_cases hji:j=i
     ·subst hji;rw[upd_self,upd_ne Y _ (Ne.symm h1),updZ_self];refine⟨hv,fun k hk=>?_,fun g2 p hp hz=>?_⟩
      ·rcases hoff k hk with h|⟨e,he,hbd,n1,n2,hz⟩
       ·exact h.2
       ·exact Nat.lt_of_lt_of_le ((hJ.cl e.on n1 n2 (hall e he hbd)).2.1 k hz) hb'.size
      ·have g3:=(ls_set' g2).resolve_left (Ne.symm h1);obtain⟨p',cs,hp',hpw,hrow,_⟩:=hJ.box g3;have:p=p':=by rw[hp]at hp';simpa using hp'
       subst this;rcases hoff p hz with h|⟨e,he,hbd,n1,n2,hz'⟩
       ·have:=hrow.lt;omega
       ·exact(hJ.cl e.on n1 n2 (hall e he hbd)).2.2 g3 p hp hz'
     ·have g':=(ls_set' g).resolve_left hji;obtain⟨c1,c2,c3⟩:=hJ.cl j hj1 hj2 g';rw[upd_ne Y _ hji,upd_ne Y _ (Ne.symm h1),updZ_ne Z _ hji];exact⟨hwr (fun _=>False) _ _ _ _ _ (Wr.of_below hb') (fun _ _ h=>h) c1,fun k hk=>Nat.lt_of_lt_of_le (c2 k hk) hb'.size,fun g2=>c3 ((ls_set' g2).resolve_left (Ne.symm h1))⟩
    ·obtain⟨p,cs,hp,hpw,hrow,hcs,hw⟩:=hJ.box ((ls_set' g).resolve_left (Ne.symm h1));rw[upd_ne Y _ (Ne.symm h1)];refine⟨p,cs,hp,hpw,hrow.below hb' hrow.lt,hcs,fun g2=>?_⟩;obtain⟨x1,x2⟩:=hw ((ls_set' g2).resolve_left (Ne.symm h2));have hxi:ix≠i:=fun e=>ls_un hn (e▸x1);rw[upd_ne Y _ hxi];exact⟨ls_keep x1,x2⟩
 ·rintro L act W hr ⟨hsz,Y,Z,rfl,hJ⟩;have fl:=flags_all hback hr hsz;obtain⟨p,cs,hp,hpw,hrow,_,hw⟩:=hJ.box (fl ia hia);obtain⟨_,rfl⟩:=hw (fl is his);exact hend Y Z W p hJ.below hpw hp hrow (fun i hi n1 n2=>⟨(hJ.cl i n1 n2 (fl i hi)).1,(hJ.cl i n1 n2 (fl i hi)).2.2 (fl ia hia) p hp⟩)
structure XPut (w:World) (is ix p sz:Nat) (ty:TypeId) (boxed:Value→Array Value) (Cl:World→Nat→Value→Prop) (L:Array Bool) (Y:Nat→Value) (W:World):Prop where
 wr:Wr (fun k=>k=p) w W
 cl:∀i,i≠is→L.getD i false=true→Cl W i (Y i)
 box:∃cs,Row W p cs ty∧cs.size=sz∧(L.getD is false=true→L.getD ix false=true∧cs=boxed (Y ix))
theorem region_put{P:Program}{id:Nat}{Q:Exit→Act→World→Prop}{a:Act}{w:World}{l:List Oper}(hm:P.follows .mixedOrders=true)(is ix p sz:Nat)(ty:TypeId)(boxed:Value→Array Value)
  (Cl:World→Nat→Value→Prop)(mk:(Nat→Value)→Act)(Y0:Nat→Value)(ha:a=mk Y0)
  (hback:l.zipIdx.all (fun x=>x.1.after.all fun e=>!Region.binds .any e||decide (e.on<x.2))=true)
  (his:is<l.length)(hxs:ix≠is)(hrow0:∃cs,Row w p cs ty∧cs.size=sz)
  (hst:∀o,l[is]? =some o→(∃e∈o.after,e.on=ix∧Region.binds .any e=true))
  (hmono:∀W W' i v,Below W.heap.size W W'→Cl W i v→Cl W' i v)
  (hstore:∀W W' i v,Wr (fun k=>k=p) W W'→Cl W i v→Cl W' i v)
  (hstep:∀i o Y W,i≠is→l[i]? =some o→Wr (fun k=>k=p) w W→(∀e∈o.after,Region.binds .any e=true→e.on≠is→Cl W e.on (Y e.on))→
   ∀K:Act→World→Prop,(∀v W',Below W.heap.size W W'→Cl W' i v→K (mk (upd Y i v)) W')→wpOp P l.toArray Q i K (mk Y) W)
  (hwrite:∀o Y W cs,l[is]? =some o→Row W p cs ty→cs.size=sz→Cl W ix (Y ix)→∀K:Act→World→Prop,(∀W' v,Wr (fun k=>k=p) W W'→Row W' p (boxed (Y ix)) ty→(boxed (Y ix)).size=sz→K (mk (upd Y is v)) W')→wpOp P l.toArray Q is K (mk Y) W)
  (hend:∀Y W,Wr (fun k=>k=p) w W→Row W p (boxed (Y ix)) ty→(∀i,i<l.length→i≠is→Cl W i (Y i))→Q .normal (mk Y) W):(Code.region id l.toArray true).wp P Q a w:=by
 refine wp_region_inv hm (fun L act W=>L.size=l.length∧∃Y,act=mk Y∧XPut w is ix p sz ty boxed Cl L Y W) ?_ ?_ ?_
 ·have hf:∀j,(Array.replicate l.toArray.size false).getD j false=true→False:=fun j h=>by
   rcases Nat.lt_or_ge j l.length with hj|hj
   ·simp[Array.getD,hj]at h
   ·simp[Array.getD,Nat.not_lt.2 hj]at h
  obtain⟨cs,hc1,hc2⟩:=hrow0;exact⟨by simp,Y0,ha,Wr.of_below (Below.refl _ _).drew,fun i _ h=>(hf i h).elim,⟨cs,hc1.below (Below.refl w.heap.size w).drew hc1.lt,hc2,fun h=>(hf _ h).elim⟩⟩
 ·rintro L act W i hi ⟨hsz,Y,rfl,hJ⟩;obtain⟨hn,o,ho,hall⟩:=mem_ready.1 hi;have ho':l[i]? =some o:=by simpa using ho
  have hb:=hJ.wr;by_cases h2:i=is
  ·subst h2;obtain⟨e2,he2,hon2,hb2⟩:=hst o ho';have f2:=hall e2 he2 hb2;rw[hon2]at f2;obtain⟨cs,hrow,hcs,_⟩:=hJ.box;refine hwrite o Y W cs ho' hrow hcs (hJ.cl ix hxs f2) _ (fun W' v hw' hr' hbs=>⟨by simp[hsz],_,rfl,hb.trans hw' (fun _ h=>Or.inl h),fun j hj2 g=>?_,?_⟩)
   ·have g':=(ls_set' g).resolve_left hj2;rw[upd_ne Y _ hj2];exact hstore _ _ _ _ hw' (hJ.cl j hj2 g')
   ·rw[upd_ne Y _ hxs];exact⟨_,hr',hbs,fun _=>⟨ls_keep f2,rfl⟩⟩
  ·refine hstep i o Y W h2 ho' hb (fun e he hbd n2=>hJ.cl e.on n2 (hall e he hbd)) _ (fun v W' hb' hv=>⟨by simp[hsz],_,rfl,hb.trans (Wr.of_below (F:=fun _=>False) hb') (fun _ h=>h.elim),fun j hj2 g=>?_,?_⟩)
   ·by_cases hji:j=i
    ·subst hji;rw[upd_self];exact hv
    ·have g':=(ls_set' g).resolve_left hji;rw[upd_ne Y _ hji];exact hmono _ _ _ _ hb' (hJ.cl j hj2 g')
   ·obtain⟨cs,hrow,hcs,hw⟩:=hJ.box;refine⟨cs,hrow.below hb' hrow.lt,hcs,fun g2=>?_⟩;obtain⟨x1,x2⟩:=hw ((ls_set' g2).resolve_left (Ne.symm h2));have hxi:ix≠i:=fun e=>ls_un hn (e▸x1);rw[upd_ne Y _ hxi];exact⟨ls_keep x1,x2⟩
 ·rintro L act W hr ⟨hsz,Y,rfl,hJ⟩;have fl:=flags_all hback hr hsz;obtain⟨cs,hrow,_,hw⟩:=hJ.box;obtain⟨_,rfl⟩:=hw (fl is his);exact hend Y W hJ.wr hrow (fun i hi n2=>hJ.cl i n2 (fl i hi))
structure XGet (n:Nat) (w:World) (ic is:Nat) (Cl:Nat→Value→Prop) (Post:World→Value→Prop) (Fin:World→Prop) (L:Array Bool) (Y:Nat→Value) (W:World):Prop where
 cl:∀i,i≠ic→i≠is→L.getD i false=true→Cl i (Y i)
 pre:L.getD ic false=false→W=w.drew
 post:L.getD ic false=true→L.getD is false=false→Post W (Y ic)
 fin:L.getD is false=true→Fin W∧∀j,j<n→j≠is→L.getD j false=true
theorem ls_no{L:Array Bool}{i:Nat}(hn:L.getD i true=false):L.getD i false=false:=by
 rcases Nat.lt_or_ge i L.size with hj|hj
 ·simp[Array.getD,hj]at hn ⊢;exact hn
 ·simp[Array.getD,Nat.not_lt.2 hj]
theorem region_get{P:Program}{id:Nat}{Q:Exit→Act→World→Prop}{a:Act}{w:World}{l:List Oper}(hm:P.follows .mixedOrders=true)(ic is:Nat)(Cl:Nat→Value→Prop)(Post:World→Value→Prop)(Fin:World→Prop)(mk:(Nat→Value)→Act)(Y0:Nat→Value)(ha:a=mk Y0)
  (hback:l.zipIdx.all (fun x=>x.1.after.all fun e=>!Region.binds .any e||decide (e.on<x.2))=true)
  (his:is<l.length)(hne:ic≠is)(hilt:ic<is)
  (hall:∀o,l[is]? =some o→∀j,j<l.length→j≠is→∃e∈o.after,e.on=j∧Region.binds .any e=true)
  (hstep:∀i o Y W,i≠ic→i≠is→l[i]? =some o→(W=w.drew∨∃v,Post W v)→(∀e∈o.after,Region.binds .any e=true→e.on≠ic→e.on≠is→Cl e.on (Y e.on))→
   ∀K:Act→World→Prop,(∀v,Cl i v→K (mk (upd Y i v)) W)→wpOp P l.toArray Q i K (mk Y) W)
  (hcall:∀o Y,l[ic]? =some o→(∀e∈o.after,Region.binds .any e=true→e.on≠ic→e.on≠is→Cl e.on (Y e.on))→∀K:Act→World→Prop,(∀v W',Post W' v→K (mk (upd Y ic v)) W')→wpOp P l.toArray Q ic K (mk Y) w.drew)
  (hstore:∀o Y W,l[is]? =some o→Post W (Y ic)→(∀i,i<l.length→i≠ic→i≠is→Cl i (Y i))→∀K:Act→World→Prop,(∀v W',Fin W'→K (mk (upd Y is v)) W')→wpOp P l.toArray Q is K (mk Y) W)
  (hend:∀Y W,Fin W→(∀i,i<l.length→i≠ic→i≠is→Cl i (Y i))→Q .normal (mk Y) W):(Code.region id l.toArray true).wp P Q a w:=by
 refine wp_region_inv hm (fun L act W=>L.size=l.length∧∃Y,act=mk Y∧XGet l.length w ic is Cl Post Fin L Y W) ?_ ?_ ?_
 ·have hf:∀j,(Array.replicate l.toArray.size false).getD j false=true→False:=fun j h=>by
   rcases Nat.lt_or_ge j l.length with hj|hj
   ·simp[Array.getD,hj]at h
   ·simp[Array.getD,Nat.not_lt.2 hj]at h
  exact⟨by simp,Y0,ha,fun i _ _ h=>(hf i h).elim,fun _=>rfl,fun h=>(hf _ h).elim,fun h=>(hf _ h).elim⟩
 ·rintro L act W i hi ⟨hsz,Y,rfl,hJ⟩;obtain⟨hn,o,ho,hready⟩:=mem_ready.1 hi;have ho':l[i]? =some o:=by simpa using ho
  have hil:i<L.size:=by rw[hsz];exact(List.getElem?_eq_some_iff.1 ho').1
  by_cases h1:i=ic
  ·subst h1;have hW:=hJ.pre (ls_no hn);subst hW;refine hcall o Y ho' (fun e he hbd n1 n2=>hJ.cl e.on n1 n2 (hready e he hbd)) _ (fun v W' hp=>⟨by simp[hsz],_,rfl,fun j hj1 hj2 g=>?_,fun g=>?_,fun _ _=>by rw[upd_self];exact hp,fun g=>?_⟩)
   ·rw[upd_ne Y _ hj1];exact hJ.cl j hj1 hj2 ((ls_set' g).resolve_left hj1)
   ·simp[Array.getD,hil]at g
   ·exact(ls_un hn ((hJ.fin ((ls_set' g).resolve_left (Ne.symm hne))).2 i (by omega) hne)).elim
  ·by_cases h2:i=is
   ·subst h2;have hd:∀j,j<l.length→j≠i→L.getD j false=true:=fun j hj hji=>by
     obtain⟨e,he,hon,hb⟩:=hall o ho' j hj hji;have:=hready e he hb
     rwa [hon]at this
    have hic:=hd ic (by omega) hne;refine hstore o Y W ho' (hJ.post hic (ls_no hn)) (fun j hj n1 n2=>hJ.cl j n1 n2 (hd j hj n2)) _ (fun v W' hf=>⟨by simp[hsz],_,rfl,fun j hj1 hj2 g=>?_,fun g=>?_,fun g g2=>?_,fun _=>⟨hf,fun j hj hji=>ls_keep (hd j hj hji)⟩⟩)
    ·rw[upd_ne Y _ hj2];exact hJ.cl j hj1 hj2 ((ls_set' g).resolve_left hj2)
    ·rw[ls_keep hic]at g;cases g
    ·simp[Array.getD,hil]at g2
   ·have hW:W=w.drew∨∃v,Post W v:=by
     cases hc:L.getD ic false with
     |false=>exact Or.inl (hJ.pre hc)
     |true=>
      refine Or.inr ⟨_,hJ.post hc ?_⟩;cases hs:L.getD is false with
      |false=>rfl
      |true=>exact(ls_un hn ((hJ.fin hs).2 i (by omega) h2)).elim
    refine hstep i o Y W h1 h2 ho' hW (fun e he hbd n1 n2=>hJ.cl e.on n1 n2 (hready e he hbd)) _ (fun v hv=>⟨by simp[hsz],_,rfl,fun j hj1 hj2 g=>?_,fun g=>?_,fun g g2=>?_,fun g=>?_⟩)
    ·by_cases hji:j=i
     ·subst hji;rw[upd_self];exact hv
     ·rw[upd_ne Y _ hji];exact hJ.cl j hj1 hj2 ((ls_set' g).resolve_left hji)
    ·exact hJ.pre (by rw[getD_set_ne false h1]at g;exact g)
    ·rw[upd_ne Y _ (Ne.symm h1)];exact hJ.post ((ls_set' g).resolve_left (Ne.symm h1)) (by rw[getD_set_ne false h2]at g2;exact g2)
    ·have:=hJ.fin ((ls_set' g).resolve_left (Ne.symm h2));exact⟨this.1,fun j hj hji=>ls_keep (this.2 j hj hji)⟩
 ·rintro L act W hr ⟨hsz,Y,rfl,hJ⟩;have fl:=flags_all hback hr hsz;exact hend Y W (hJ.fin (fl is his)).1 (fun i hi n1 n2=>hJ.cl i n1 n2 (fl i hi))
theorem rstore_bad(pb po:Nat)(s:Nat)(a x:V)(pp:Value)(okb:Bool)(w:World)
  (hat:∀W,Below w.heap.size w W→Calls Tryz.prog 76 #[.pointer (some ⟨pb,po,none⟩),.agg #[.int .i64 a.obj,.int .i64 a.n],.int .i64 s] W fun e w'=>e= .returned (.tuple #[pp,.bool okb])∧Below W.heap.size W w')
  (hno:okb=false∨(0<x.obj∧s≠8)):
  Calls Tryz.prog 58 #[.pointer (some ⟨pb,po,none⟩),.int .i64 s,.agg #[.int .i64 a.obj,.int .i64 a.n],.agg #[.int .i64 x.obj,.int .i64 x.n]] w fun e w'=>e= .returned (.bool false)∧Below w.heap.size w w':=by
 have HAT:=Lib.hid hat;have HBX:=Lib.hid (Row.new' (w:=w.alloc (.cells #[.int .i64 a.obj,.int .i64 a.n] 70)) (g:=w.heap.size+1) #[.int .i64 x.obj,.int .i64 x.n] 70 (by simp));clear hat;cases okb with
 |false=>
  clear hno;go_enter Tryz.func58,Tryz.ntmps58;refine wp_letter (fun Q hQ=>?_);have HQ:=Lib.hid hQ;clear hQ;go_wp2_with fail;refine(HAT.out _ (below2 w _ _)).mono ?_;rintro e w1 ⟨rfl,hb1⟩;have HB1:=Lib.hid ((below2 w _ _).trans (hb1.mono (below2 w _ _).size));clear hb1;go_wp2_with fail;refine HQ.out _ _ _ ?_;exact bodyPost_ret (v:= .bool false) (by simp[results,Tryz.results58,go_sem]) rfl ⟨rfl,HB1.out⟩
 |true=>
  have hx:0<x.obj∧s≠8:=by rcases hno with h|h;cases h;exact h
  have d1:decide (0<x.obj)=true:=by simpa using hx.1
  have d1':decide ((0:Int)<(x.obj:Int))=true:=by simpa using hx.1
  have d2:((s:Int) !=8)=true:=by simp;omega
  clear hno hx;go_enter Tryz.func58,Tryz.ntmps58;refine wp_letter (fun Q hQ=>?_);have HQ:=Lib.hid hQ;clear hQ;go_wp2_with fail;refine(HAT.out _ (below2 w _ _)).mono ?_;rintro e w1 ⟨rfl,hb1⟩;have HB1:=Lib.hid ((below2 w _ _).trans (hb1.mono (below2 w _ _).size));have hbx:=HBX.out.below hb1 HBX.out.lt;have x0:=hbx.cell (j:=0) rfl;have xl:=hbx.lt;clear hb1 hbx;go_wp2_with fail;refine HQ.out _ _ _ ?_;exact bodyPost_ret (v:= .bool false) (by simp[results,Tryz.results58,go_sem]) rfl ⟨rfl,HB1.out⟩
def storedV(s:Nat)(x:V):V:=if x.obj=0 then⟨0,storedF s x.n⟩else x
theorem rstore_yes(pb po ob j:Nat)(s:Nat)(a x:V)(cs:Array Value)(w:World)(hs:s=1∨s=2∨s=4∨s=8)
  (hat:∀W,Below w.heap.size w W→Calls Tryz.prog 76 #[.pointer (some ⟨pb,po,none⟩),.agg #[.int .i64 a.obj,.int .i64 a.n],.int .i64 s] W fun e w'=>e= .returned (.tuple #[.pointer (some ⟨ob,j*2,none⟩),.bool true])∧Below W.heap.size W w')
  (hyes:¬(0<x.obj∧s≠8))(hr:Row w ob cs 70)(hj:j*2+1<cs.size):
  Calls Tryz.prog 58 #[.pointer (some ⟨pb,po,none⟩),.int .i64 s,.agg #[.int .i64 a.obj,.int .i64 a.n],.agg #[.int .i64 x.obj,.int .i64 x.n]] w fun e w'=>e= .returned (.bool true)∧Wr (fun k=>k=ob) w w'∧Row w' ob ((cs.setIfInBounds (j*2) (.int .i64 (storedV s x).obj)).setIfInBounds (j*2+1) (.int .i64 (storedV s x).n)) 70:=by
 have HAT:=Lib.hid hat;have HS:=Lib.hid (fun W=>stored_any s x.n W hs);have HBX:=Lib.hid (Row.new' (w:=w.alloc (.cells #[.int .i64 a.obj,.int .i64 a.n] 70)) (g:=w.heap.size+1) #[.int .i64 x.obj,.int .i64 x.n] 70 (by simp));have HR:=Lib.hid hr;have hrl:=hr.lt;have HJ:=Lib.hid hj;clear hat hr hj;obtain⟨xo,xn⟩:=x;simp only at hyes HS HBX ⊢;have key:∀(w1:World)(hb1:Below (w.heap.size+2) ((w.alloc (.cells #[.int .i64 a.obj,.int .i64 a.n] 70)).alloc (.cells #[.int .i64 xo,.int .i64 xn] 70)) w1),Row w1 ob cs 70∧Row w1 (w.heap.size+1) #[.int .i64 xo,.int .i64 xn] 70∧Below w.heap.size w w1:=fun w1 hb1=>
  ⟨((HR.out.alloc _).alloc _).below hb1 (by omega),HBX.out.below hb1 (by omega),(below2 w _ _).trans (hb1.mono (by omega))⟩
 have KEY:=Lib.hid key;clear key;by_cases h0:xo=0
 ·subst h0;clear hyes;go_enter Tryz.func58,Tryz.ntmps58;refine wp_letter (fun Q hQ=>?_);have HQ:=Lib.hid hQ;clear hQ;go_wp2_with fail;refine(HAT.out _ (below2 w _ _)).mono ?_;rintro e w1 ⟨rfl,hb1⟩;obtain⟨hr1,hbx,hbw⟩:=KEY.out w1 (hb1.mono (by simp));have HR1:=Lib.hid hr1;have HBX1:=Lib.hid hbx;have HBW:=Lib.hid hbw;have x0:=hbx.cell (j:=0) rfl;have x1:=hbx.cell (j:=1) rfl;have xf:=hbx.free 1;have xl:=hbx.lt;obtain⟨u0,y0⟩:∃u,w1.cell? ⟨ob,j*2,none⟩=some u:=⟨_,hr1.cell (Array.getElem?_eq_getElem (by have:=HJ.out;omega))⟩
  obtain⟨u1,y1⟩:∃u,w1.cell? ⟨ob,j*2+1,none⟩=some u:=⟨_,hr1.cell (Array.getElem?_eq_getElem HJ.out)⟩
  have yf0:=hr1.free (j*2);have yf1:=hr1.free (j*2+1);have yl:=hr1.lt;have hne:¬ob=w.heap.size+1:=by omega
  have hne2:¬w.heap.size+1=ob:=by omega
  clear hb1 hr1 hbx hbw;go_wp2_with(go_at_call 36;refine(HS.out _).mono ?_;rintro e w' ⟨rfl,rfl⟩);refine HQ.out _ _ _ ?_;refine bodyPost_ret (v:= .bool true) (by simp[results,Tryz.results58,go_sem]) rfl ⟨rfl,?_,?_⟩
  ·exact(((Wr.of_below HBW.out).trans (Wr.cell1 w1 (w.heap.size+1) 1 (.int .i64 (storedF s xn))) (fun i hi=>Or.inr (by omega))).trans (Wr.cell1 _ ob (j*2) _) (fun i hi=>Or.inl hi)).trans (Wr.cell1 _ ob (j*2+1) _) (fun i hi=>Or.inl hi)
  ·have e:storedV s ⟨0,xn⟩=⟨0,storedF s xn⟩:=by unfold storedV;rw[if_pos rfl]
   rw[e];exact((HR1.out.wr (Wr.cell1 w1 (w.heap.size+1) 1 (.int .i64 (storedF s xn))) hne).set (j*2) _).set (j*2+1) _
 ·have hp:0<xo:=by omega
  obtain rfl:s=8:=by
   rcases Nat.decEq s 8 with h|h
   ·exact absurd ⟨hp,h⟩ hyes
   ·exact h
  have d1:decide (0<xo)=true:=by simpa using hp
  have d1':decide ((0:Int)<(xo:Int))=true:=by simpa using hp
  have d3:((xo:Int)==0)=false:=by simp;omega
  clear hyes;go_enter Tryz.func58,Tryz.ntmps58;refine wp_letter (fun Q hQ=>?_);have HQ:=Lib.hid hQ;clear hQ;go_wp2_with fail;refine(HAT.out _ (below2 w _ _)).mono ?_;rintro e w1 ⟨rfl,hb1⟩;obtain⟨hr1,hbx,hbw⟩:=KEY.out w1 (hb1.mono (by simp));have HR1:=Lib.hid hr1;have HBX1:=Lib.hid hbx;have HBW:=Lib.hid hbw;have x0:=hbx.cell (j:=0) rfl;have x1:=hbx.cell (j:=1) rfl;have xl:=hbx.lt;obtain⟨u0,y0⟩:∃u,w1.cell? ⟨ob,j*2,none⟩=some u:=⟨_,hr1.cell (Array.getElem?_eq_getElem (by have:=HJ.out;omega))⟩
  obtain⟨u1,y1⟩:∃u,w1.cell? ⟨ob,j*2+1,none⟩=some u:=⟨_,hr1.cell (Array.getElem?_eq_getElem HJ.out)⟩
  have yf0:=hr1.free (j*2);have yf1:=hr1.free (j*2+1);have yl:=hr1.lt;clear hb1 hr1 hbx hbw;go_wp2_with fail;refine HQ.out _ _ _ ?_;refine bodyPost_ret (v:= .bool true) (by simp[results,Tryz.results58,go_sem]) rfl ⟨rfl,?_,?_⟩
  ·exact((Wr.of_below HBW.out).trans (Wr.cell1 w1 ob (j*2) _) (fun i hi=>Or.inl hi)).trans (Wr.cell1 _ ob (j*2+1) _) (fun i hi=>Or.inl hi)
  ·have e:storedV 8 ⟨xo,xn⟩=⟨xo,xn⟩:=by unfold storedV;rw[if_neg h0]
   rw[e];exact(HR1.out.set (j*2) _).set (j*2+1) _
end Go.Proofs.YtlenilbkifofjaaGreatDoor
namespace Go.Proofs.YtlenilbkifofjaaGreatDoor
open Go.RowKit Go.Deep
theorem list_of{α:Type}(n:Nat)(p:Nat→α→Prop)(h:∀i,i<n→∃x,p i x):∃l:List α,l.length=n∧∀i x,l[i]? =some x→p i x:=by
 induction n with
 |zero=>exact⟨[],rfl,fun i x h=>by simp at h⟩
 |succ n ih=>
  obtain⟨l,hl,hp⟩:=ih (fun i hi=>h i (by omega));obtain⟨x,hx⟩:=h n (by omega);refine⟨l++[x],by simp[hl],fun i y hy=>?_⟩;rcases Nat.lt_or_ge i l.length with hlt|hge
  ·rw[List.getElem?_append_left hlt]at hy;exact hp i y hy
  ·rw[List.getElem?_append_right hge]at hy;have:i-l.length=0:=by
    rcases Nat.eq_zero_or_pos (i-l.length)with h0|h0
    ·exact h0
    ·rw[List.getElem?_eq_none (by simp;omega)]at hy;cases hy
   rw[this]at hy;simp at hy;subst hy;rw[show i=n by omega];exact hx
theorem cs3{cs:List Value}{v0 v1 v2:Value}(hl:cs.length=3)(h0:(cs.drop 0).take 1=[v0])(h1:(cs.drop 1).take 1=[v1])(h2:(cs.drop 2).take 1=[v2]):cs=[v0,v1,v2]:=by
 match cs,hl with
 |[a,b,c],_=>simp at h0 h1 h2;rw[h0,h1,h2]
section
variable {H:Type} {enc:TypeId×Value→H} {w:World} {base:Nat} {spare:Nat→Bool} {held:Bool}
def KidsRead(w:World)(B:Nat)(cs:List Value):Prop:=∃ts A n c,cs=[.slice A n c]∧KidsV w B ts A n
end
theorem weights_mem_all{H:Type}{P:Program}{e:TypeId}{d:DataW H}{n:Nat}:∀{l:List (DataW H)},d∈l→n∈d.weights P e→n∈DataW.weightsAll P e l
 |[],h,_=>by simp at h
 |x::l,h,hn=>by
  simp only[DataW.weightsAll,List.mem_append];rcases List.mem_cons.1 h with rfl|h
  ·exact Or.inl hn
  ·exact Or.inr (weights_mem_all h hn)
end Go.Proofs.YtlenilbkifofjaaGreatDoor
