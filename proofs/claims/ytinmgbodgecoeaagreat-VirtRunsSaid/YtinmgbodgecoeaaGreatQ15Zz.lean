/- A region that draws its order: plain results, one store, operations that may come behind it, a forced tail. No program in sight. No condition. Objs: whether objects may be. Conditions: as stated. The page's machine: a step for which no fuel is left. Conditions: as stated. The page's machine: a set. Conditions: as stated. The page's machine: nothing comes in. Conditions: as stated. The page's machine: a number comes in. Conditions: as stated. The page's machine: what is put out is no number. Conditions: as stated. The page's machine: what it ends with is no number. Conditions: as stated. The page's machine: an exit. Conditions: as stated. The page's machine: a store that is stuck. Conditions: as stated. What is read as trees lies in memory as trees. No condition. -/
import Derived.Test.YtinmgbodgecoeaaGreatQ03Zz
import Derived.SizedLaws
import Derived.Deep.Slices
import Derived.Deep.Strs
import Derived.ProofKit
set_option linter.unusedSimpArgs false
set_option linter.unusedVariables false
set_option maxHeartbeats 8000000
set_option maxRecDepth 100000
open Go.Proofs.Tryz
namespace Go.Proofs.YtinmgbodgecoeaaGreat
open Go.RowKit
theorem cO{P:Program}{c:Code}{Q:Exit->Act->World->Prop}{a:Act}{w:World}(h:∀W,W=w->Code.wp P c Q a W):Code.wp P c Q a w:=h w rfl
theorem nD{P:Program}{ops:Array Oper}{Q:Exit->Act->World->Prop}{i:Nat}{o:Oper}{a:Act}{w:World}{K:Act->World->Prop}(ho:ops[i]? =some o)(hg:Region.wanted o (yielded ops a.tmps)=true)
  (h:∀K':Act->World->Prop,(∀a w,K a w->K' a w)->o.wp P a w K' Q):wpOp P ops Q i K a w:=by
 unfold wpOp;rw[ho];simp only;rw[if_pos hg];exact aK (h K (λ_ _ h=>h))
theorem nE{P:Program}{ops:Array Oper}{Q:Exit->Act->World->Prop}{i:Nat}{o:Oper}{a:Act}{w:World}{K:Act->World->Prop}(ho:ops[i]? =some o)(hg:Region.wanted o (yielded ops a.tmps)=false)(h:K (a.put o.dst undef) w):wpOp P ops Q i K a w:=by
 unfold wpOp;rw[ho];simp only;rw[if_neg (by rw[hg];exact Bool.false_ne_true)];exact h
theorem Az{P:Program}{id:Nat}{Q:Exit->Act->World->Prop}{a:Act}{w:World}{l:List Oper}(m:Nat)(late:Nat->Bool)(hm:P.follows .mixedOrders=true)(hB:headB l (m+1)=true)(Ss:KF l m late=true)(Cl:Nat->Value->Prop)(Fin:World->Prop)(mk:(Nat->Value)->Act)(Y0:Nat->Value)(ha:a=mk Y0)
  (hstep:∀i o Y W,i<m->late i=false->l[i]? =some o->Below w.heap.size w W->(∀e∈o.after,Region.binds .any e=true->Cl e.on (Y e.on))->∀K:Act->World->Prop,(∀v W',Below W.heap.size W W'->Cl i v->K (mk (upd Y i v)) W')->wpOp P l.toArray Q i K (mk Y) W)
  (PJ:∀i o Y W,i<m->late i=true->l[i]? =some o->(∀e∈o.after,Region.binds .any e=true->Cl e.on (Y e.on))->∀K:Act->World->Prop,(∀v,Cl i v->K (mk (upd Y i v)) W)->wpOp P l.toArray Q i K (mk Y) W)
  (rS:∀o Y W,l[m]? =some o->Below w.heap.size w W->(∀e∈o.after,Region.binds .any e=true->Cl e.on (Y e.on))->∀K:Act->World->Prop,(∀v W',Fin W'->K (mk (upd Y m v)) W')->wpOp P l.toArray Q m K (mk Y) W)
  (hend:∀Y W,Fin W->(∀i,i<m->Cl i (Y i))->wpList P l.toArray Q (l.drop (m+1)) (mk Y) W):(Code.region id l.toArray true).wp P Q a w:=by
 have hn:m+1<l.length:=by
  unfold headB at hB;simp only[Bool.and_eq_true,decide_eq_true_eq]at hB;exact hB.1.1.1.1
 have hback:DU l=true:=by
  unfold headB at hB;simp only[Bool.and_eq_true,decide_eq_true_eq]at hB;exact hB.1.2
 refine wp_region_any hm ?_;have hun:iI (m+1) (Array.replicate l.toArray.size false)<=m+1:=by unfold iI;exact Nat.le_trans (List.length_filter_le _ _) (by simp)
 have O9:HeadInv .any l.toArray (m+1) (Array.replicate l.toArray.size false):=
  ⟨by simp,λj oj _ hl=>(by rw[getD_replicate_false]at hl;cases hl),λt _ ht=>getD_in (by simpa using ht) (getD_replicate_false _ _)⟩
 have H:=pz (P:=P) (Q:=Q) (m+1) hB (λL act W=>∃Y,act=mk Y/\(L.getD m false=false->Below w.heap.size w W)/\(L.getD m false=true->Fin W)/\∀i,i<m->L.getD i false=true->Cl i (Y i)) ?_ ?_ (m+1) _ a w.drew O9 hun ?_
 ·have e:l.length-(m+1)+(m+1)=l.toArray.size:=by simp;omega
  rw[e]at H;exact H
 ·rintro L act W i inv hin hi ⟨Y,rfl,h1,h2,h3⟩;obtain⟨hnn,o,ho,hall⟩:=mem_ready.1 hi;have ho':l[i]? =some o:=by simpa using ho
  have Y5:=getD_both hnn;have hsz:L.size=l.length:=by rw[inv.size];simp
  have Ve:∀e∈o.after,Region.binds .any e=true->Cl e.on (Y e.on):=λe he gX=>h3 _ (by have:=wS hback ho' he gX;omega) (hall e he gX);by_cases him:i=m
  ·subst him;refine rS o Y W ho' (h1 Y5) Ve _ (λv W' hv=>⟨upd Y i v,rfl,λhx=>?_,λ_=>hv,λj hj hx=>?_⟩)
   ·simp[Array.getD,hsz]at hx;omega
   ·rw[upd_ne Y v (by omega)];exact h3 j hj ((bO hx).resolve_left (by omega))
  ·have GN:i<m:=by omega
   have DG:∀(v:Value),Cl i v->∀j,j<m->(L.setIfInBounds i true).getD j false=true->Cl j (upd Y i v j):=λv hv j hj hx=>by
    by_cases oN:j=i
    ·subst oN;rw[fE];exact hv
    ·rw[upd_ne Y v oN];exact h3 j hj ((bO hx).resolve_left oN)
   cases hl:late i with
   |true=>exact PJ i o Y W GN hl ho' Ve _ (λv hv=>⟨upd Y i v,rfl,λhx=>h1 (by rw[getD_set_ne false him]at hx;exact hx),λhx=>h2 (by rw[getD_set_ne false him]at hx;exact hx),DG v hv⟩)
   |false=>
    have XG:L.getD m false=false:=by
     cases hx:L.getD m false with
     |false=>rfl
     |true=>
      have:=xW Ss inv hx (m-i) i rfl GN hl;rw[Y5]at this;cases this
    have hb:=h1 XG;exact hstep i o Y W GN hl ho' hb Ve _ (λv W' hb' hv=>⟨upd Y i v,rfl,λ_=>hb.trans (hb'.mono hb.size),λhx=>(by rw[getD_set_ne false him,XG]at hx;cases hx),DG v hv⟩)
 ·rintro L act W hall ⟨Y,rfl,h1,h2,h3⟩;exact hend Y W (h2 (hall m (by omega))) (λi hi=>h3 i hi (hall i (by omega)))
 ·exact⟨Y0,ha,λ_=>(aV _ _).drew,λh=>(by rw[getD_replicate_false]at h;cases h),λj _ h=>by rw[getD_replicate_false]at h;cases h⟩
theorem F8(l:List kH)(A:Option Addr)(n aA:Nat)(most:Int)(B:Nat)(w:World)(hB:B<=w.heap.size)(hl:SliceAt w B 3 (sG w B) l (.slice A n aA)):
  Calls prog 19 #[.slice A n aA,.int .i64 most] w λe w'=>e= .returned (.bool (fR l most))/\Below w.heap.size w w':=by
 obtain⟨yF,hn⟩:=hl.len;have HL:=ae hl;have x9:=ae yF;clear hl yF;go_enter func19,ntmps19;go_wp2_with fail;go_loopw [5] (λi wr=>∃k:Nat,k<=n/\i= .int .i64 k/\pY (l.drop k)=pY l/\Below w.heap.size w wr) (λi _=>n-(intOf i).toNat)
 case atStart=>exact⟨0,by omega,rfl,rfl,aV _ _⟩
 case round=>
  obtain⟨k,hk,rfl,hcs,aJ⟩:=hrel;have Fp:=ae hcs;clear hcs;have pS:=aJ.size;by_cases hlt:k<n
  ·obtain⟨b,off,o,rfl,hb,hk1,c0,c1,⟨v,c2,hv⟩,_,_⟩:=(HL.below (aJ.mono hB) (aY _) (λ_ _ h=>h.below (aJ.mono hB) (aY _))).get hlt;simp only[Nat.add_zero]at c0 c1 c2;obtain⟨IA,icap,Q0⟩:∃IA icap,v= .slice IA o.init.length icap:=(by obtain⟨A',c',h,_⟩:=hv;exact⟨_,_,h⟩)
   subst Q0;have hil:=hv.len.2;have HD:=ae (show pY (l.drop k)=(Lq o && pY (l.drop (k+1)))from by rw[wO hk1];rfl);have qP:(k:Int)<(n:Int):=by omega
   have hbl:b<wr.heap.size:=by omega
   have HS:=ae (λW=>FK o.size W);have HT:=ae (λW=>tG o.count 1 64 W);obtain⟨q1,hq1⟩:∃q,q=j3 o.size:=⟨_,rfl⟩
   obtain⟨q2,hq2⟩:∃q,q=oO o.count 1 64:=⟨_,rfl⟩
   rw[<-hq1]at HS;rw[<-hq2]at HT;have HO:=ae (show Lq o=(q1 && q2 && !decide ((o.init.length:Int)>o.count))from by rw[hq1,hq2];rfl);clear hk1 hv hq1 hq2;have hbad:Lq o=false->pY l=false:=λh=>by rw[<-Fp.out,HD.out,h];rfl
   have Bg:Lq o=true->pY (l.drop (k+1))=pY l:=λh=>by rw[<-Fp.out,HD.out,h];rfl
   have sV:=ae hbad;have QL:=ae Bg;clear hbad Bg;cases q1 with
   |false=>
    go_wp2_with fail;go_quiet ((go_at_call 35;exact Calls.quiet_of_same ((HS _).mono λ_ _ h=>⟨h.1,h.2.symm⟩)));go_wp2_with fail;go_ret;have he:fR l most=false:=by unfold fR;rw[sV (by rw[HO.out];rfl)];rfl
    exact⟨by rw[he];rfl,below_drewN aJ _⟩
   |true=>
    cases q2 with
    |false=>
     go_wp2_with fail;go_quiet ((first|(go_at_call 35;exact Calls.quiet_of_same ((HS _).mono λ_ _ h=>⟨h.1,h.2.symm⟩))|(go_at_call 20;exact Calls.quiet_of_same ((HT _).mono λ_ _ h=>⟨h.1,h.2.symm⟩))));go_wp2_with fail;go_ret;have he:fR l most=false:=by unfold fR;rw[sV (by rw[HO.out];rfl)];rfl
     exact⟨by rw[he];rfl,below_drewN aJ _⟩
    |true=>
     by_cases hx:(o.init.length:Int)>o.count
     ·have hd:decide (o.count<(o.init.length:Int))=true:=by simpa using hx
      have he:fR l most=false:=by unfold fR;rw[sV (by rw[HO.out];simpa using hx)];rfl
      have HE:=ae he;clear hx he;go_wp2_with fail;go_quiet ((first|(go_at_call 35;exact Calls.quiet_of_same ((HS _).mono λ_ _ h=>⟨h.1,h.2.symm⟩))|(go_at_call 20;exact Calls.quiet_of_same ((HT _).mono λ_ _ h=>⟨h.1,h.2.symm⟩))));go_wp2_with fail;go_ret;exact⟨by rw[HE.out];rfl,below_drewN aJ _⟩
     ·have hd:decide (o.count<(o.init.length:Int))=false:=by simpa using hx
      have HE:=ae (QL (by rw[HO.out];simpa using hx));clear hx;go_wp2_with fail;go_quiet ((first|(go_at_call 35;exact Calls.quiet_of_same ((HS _).mono λ_ _ h=>⟨h.1,h.2.symm⟩))|(go_at_call 20;exact Calls.quiet_of_same ((HT _).mono λ_ _ h=>⟨h.1,h.2.symm⟩))));go_wp2_with fail;go_roundw
      case rel=>exact⟨k+1,by omega,by go_num,HE.out,below_drewN aJ _⟩
      case measure=>simp[intOf];omega
  ·obtain rfl:k=n:=by omega
   have he:pY l=true:=by rw[<-Fp.out,ou (by rw[x9.out];exact aY _)];rfl
   have hl2:fR l most=decide ((k:Int)<=most):=by unfold fR;rw[he,x9.out];rfl
   have HE:=ae hl2;clear he hl2;go_wp2_with fail;go_ret;exact⟨by rw[HE.out];rfl,aJ⟩
end Go.Proofs.YtinmgbodgecoeaaGreat
namespace Go.Proofs.YtinmgbodgecoeaaGreat
open Go.RowKit Go.Deep
theorem RV{α:Type}(n:Nat)(p:Nat->α->Prop)(h:∀i,i<n->∃x,p i x):∃l:List α,l.length=n/\∀i x,l[i]? =some x->p i x:=by
 induction n with
 |zero=>exact⟨[],rfl,λi x h=>by simp at h⟩
 |succ n ih=>
  obtain⟨l,hl,hp⟩:=ih (λi hi=>h i (by omega));obtain⟨x,hx⟩:=h n (by omega);refine⟨l++[x],by simp[hl],λi y hy=>?_⟩;rcases Nat.lt_or_ge i l.length with hlt|hge
  ·rw[List.getElem?_append_left hlt]at hy;exact hp i y hy
  ·rw[List.getElem?_append_right hge]at hy;have:i-l.length=0:=by
    rcases Nat.eq_zero_or_pos (i-l.length)with h0|h0
    ·exact h0
    ·rw[List.getElem?_eq_none (by simp;omega)]at hy;cases hy
   rw[this]at hy;simp at hy;subst hy;rw[show i=n by omega];exact hx
theorem XO{cs:List Value}{v0 v1 v2:Value}(hl:cs.length=3)(h0:(cs.drop 0).take 1=[v0])(h1:(cs.drop 1).take 1=[v1])(h2:(cs.drop 2).take 1=[v2]):cs=[v0,v1,v2]:=by
 match cs,hl with
 |[a,b,c],_=>simp at h0 h1 h2;rw[h0,h1,h2]
section
variable {H:Type} {enc:TypeId×Value->H} {w:World} {ai:Nat} {spare:Nat->Bool} {held:Bool}
end
theorem r8{H:Type}{P:Program}{e:TypeId}{d:DataW H}{n:Nat}:∀{l:List (DataW H)},d∈l->n∈d.weights P e->n∈DataW.weightsAll P e l
 |[],h,_=>by simp at h
 |x::l,h,hn=>by
  simp only[DataW.weightsAll,List.mem_append];rcases List.mem_cons.1 h with rfl|h
  ·exact aK hn
  ·exact bu (r8 h hn)
end Go.Proofs.YtinmgbodgecoeaaGreat
