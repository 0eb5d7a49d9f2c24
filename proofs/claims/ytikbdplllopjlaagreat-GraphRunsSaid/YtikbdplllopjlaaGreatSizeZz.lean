/- size, May: whether a tree may be, as the program asks. Conditions: as stated. -/
import Derived.Test.YtikbdplllopjlaaGreatCntZz
set_option linter.unusedVariables false
set_option linter.unusedSimpArgs false
set_option maxHeartbeats 8000000
set_option maxRecDepth 100000
open Go.Proofs.Tryz
namespace Go.Proofs.YtikbdplllopjlaaGreat
open Go.RowKit
mutual
def qj:T->Int->Int
 | .node op x ks,most=>if j9 op x ks.length=true\/most<1 then-1 else i7 ks most 1
def i7:List T->Int->Int->Int
 |[],_,n=>n
 |k::ks,most,n=>if qj k (most-n)<0 then-1 else i7 ks most (n+qj k (most-n))
end
mutual
theorem yj:∀(t:T)(most:Int),qj t most= -1\/1<=qj t most/\qj t most<=most
 | .node op x ks,most=>by
  unfold qj;split
  ·exact aH rfl
  ·rename_i h;have h1:1<=most:=by
    rcases Int.lt_or_le most 1 with h'|h'
    ·exact absurd (aT h') h
    ·exact h'
   exact JQ ks most 1 (by omega) h1
theorem JQ:∀(ks:List T)(most n:Int),1<=n->n<=most->i7 ks most n= -1\/1<=i7 ks most n/\i7 ks most n<=most
 |[],most,n,h0,h1=>by unfold i7;exact aT ⟨h0,h1⟩
 |k::ks,most,n,h0,h1=>by
  unfold i7;have hk:=yj k (most-n);split
  ·exact aH rfl
  ·rename_i h;rcases hk with hk|hk
   ·omega
   ·exact JQ ks most _ (by omega) (by omega)
end
def VI(m:Nat):Prop:=∀(t:T)(most:Int)(B:Nat)(w:World)(v0 v1 v2:Value),t.size<=m->B<=w.heap.size->aX w (dP B) t v0 v1 v2->-1000<=most->most<=1000->
  Calls prog 114 #[.agg #[v0,v1,v2],.int .i64 most] w λe w'=>e= .returned (.int .i64 (qj t most))/\Below w.heap.size w w'
theorem T7(m:Nat):VI m:=by
 induction m with
 |zero=>intro t _ _ _ _ _ _ hm;have:=t.size_pos;omega
 |succ m ih=>
  rintro⟨op,x,ks⟩ most B w v0 v1 v2 hm hB hv BO jw;obtain⟨A,aA,len,rfl,rfl,_,_,rfl,hk⟩:=bC.gI hv;simp only[T.size]at hm;have hlen:=hk.1;have Lm:=hk.2.1;have HI:=ae (λW=>Us op W);have HA:=ae (λW=>MA op W);have HL:=ae (λW=>Fc op W);unfold JZ at HL;by_cases h1:1<=op/\op<=36
  ·rw[decide_eq_true h1]at HI;have hka:rC op=vD op:=by
    unfold rC vD
    (repeat' split)<;>omega
   by_cases h2:(len:Int)=vD op
   ·have e2:((len:Int) !=vD op)=false:=by simp[h2]
    by_cases h3:1<=op/\op<=4
    ·rw[decide_eq_true h3]at HL;by_cases h4:op=1
     ·have e4:(op !=1)=false:=by simpa using h4
      have HB:=ae (show j9 op x ks.length=false by simp[j9,hlen,hka,h2];omega);clear h1 h2 h3 h4 hka;by_cases mr:most<1
      ·have hr:qj (.node op x ks) most= -1:=by unfold qj;rw[if_pos (aT mr)]
       rw[hr];have dm:decide (most<1)=true:=by simpa using mr
       clear hv hk ih hm hr mr;go_enter func114,ntmps114;go_wp2_with fail;go_quiet ((first|(go_at_call 124;exact Calls.quiet_of_same ((HI _).mono λ_ _ h=>⟨h.1,h.2.symm⟩))|(go_at_call 125;exact Calls.quiet_of_same ((HA _).mono λ_ _ h=>⟨h.1,h.2.symm⟩))|(go_at_call 126;exact Calls.quiet_of_same ((HL _).mono λ_ _ h=>⟨h.1,h.2.symm⟩))));go_wp2_with fail;go_ret;exact⟨rfl,below_drewN (aj _ _) _⟩
      ·have hr:qj (.node op x ks) most=i7 ks most 1:=by unfold qj;rw[if_neg (by simp[HB.out];omega)]
       rw[hr];have dm:decide (most<1)=false:=by simpa using mr
       have Iz:1<=most:=by omega
       have HK:=ae hk;have IH:=ae ih;clear hv hk ih hr mr;go_enter func114,ntmps114;go_wp2_with fail;go_quiet ((first|(go_at_call 124;exact Calls.quiet_of_same ((HI _).mono λ_ _ h=>⟨h.1,h.2.symm⟩))|(go_at_call 125;exact Calls.quiet_of_same ((HA _).mono λ_ _ h=>⟨h.1,h.2.symm⟩))|(go_at_call 126;exact Calls.quiet_of_same ((HL _).mono λ_ _ h=>⟨h.1,h.2.symm⟩))));go_wp2_with fail;go_loopw [5,55] (λa i wr=>∃(k:Nat)(n:Int),k<=len/\i= .int .i64 k/\a= .int .i64 n/\1<=n/\n<=most/\i7 (ks.drop k) most n=i7 ks most 1/\Below w.heap.size w wr) (λ_ i _=>len-(intOf i).toNat)
       case atStart=>exact⟨0,1,by omega,rfl,rfl,by omega,by omega,rfl,below_drewN (aj _ _) _⟩
       case round=>
        obtain⟨k,n,hk2,rfl,rfl,mX,X5,hcs,aG⟩:=hrel;have gV:=ae hcs;clear hcs;have fV:=aG.size;by_cases hlt:k<len
        ·obtain⟨b,off,t,v0,v1,v2,rfl,hb,bA,c0,c1,c2,ht⟩:=(HK.below (aG.mono hB) (aN _)).get hlt;have hsz:t.size<=m:=Nat.le_trans (T.dC bA) (by omega);have dO:=yj t (most-n);have HC:=ae (λW(hb:Below wr.heap.size wr W)=>IH.out t (most-n) B W v0 v1 v2 hsz (by have:=hb.size;omega) (ht.below (hb.mono (by omega)) (aN _)) (by omega) (by omega));have HD:=ae (show i7 (ks.drop k) most n=if qj t (most-n)<0 then-1 else i7 (ks.drop (k+1)) most (n+qj t (most-n))from by rw[b8 bA];rfl);have eY:(k:Int)<(len:Int):=by omega
         have hbl:b<wr.heap.size:=by omega
         obtain⟨a0,b0,A0,n0,Qg,rfl,rfl,rfl⟩:=ht.eH;obtain⟨q,hq⟩:∃q,q=qj t (most-n):=⟨_,rfl⟩
         rw[<-hq]at HC HD dO;clear bA ht hq hsz;by_cases zP:q<0
         ·have HE:=ae (show i7 ks most 1= -1 by rw[<-gV.out,HD.out,if_pos zP]);go_wp2_with fail;refine(HC _ (aj _ _)).mono ?_;rintro e w1 ⟨rfl,hb1⟩;have bn:=ae ((aj wr (.cells #[.int .i64 a0,.int .i64 b0,.slice A0 n0 Qg] 90)).trans (hb1.mono (by simp)));clear hb1;go_wp2_with fail;go_ret;exact⟨by rw[HE.out];rfl,aG.trans (bn.mono fV)⟩
         ·have jZ:1<=q/\q<=most-n:=by rcases dO with h|h<;>omega
          obtain⟨jZ,Dx⟩:=jZ;have PH:=ae (HD.trans (if_neg zP));go_wp2_with fail;refine(HC _ (aj _ _)).mono ?_;rintro e w1 ⟨rfl,hb1⟩;have bn:=ae ((aj wr (.cells #[.int .i64 a0,.int .i64 b0,.slice A0 n0 Qg] 90)).trans (hb1.mono (by simp)));clear hb1;go_wp2_with fail;go_roundw
          case rel=>exact⟨k+1,n+q,by omega,by go_num,rfl,by omega,by omega,by rw[<-gV.out,PH.out],aG.trans (bn.mono fV)⟩
          case measure=>simp[intOf];omega
        ·obtain rfl:k=len:=by omega
         have HE:=ae (show i7 ks most 1=n by rw[<-gV.out,bD (by omega)];rfl);go_wp2_with fail;go_ret;exact⟨by rw[HE.out];rfl,aG⟩
     ·have e4:(op !=1)=true:=by simpa using h4
      by_cases h5:x<0
      ·have e5:decide (x<0)=true:=by simpa using h5
       have hb:j9 op x ks.length=true:=by simp[j9];omega
       have hr:qj (.node op x ks) most= -1:=by unfold qj;rw[if_pos (aH hb)]
       rw[hr];clear hv hk ih hm hr hb;go_enter func114,ntmps114;go_wp2_with fail;go_quiet ((first|(go_at_call 124;exact Calls.quiet_of_same ((HI _).mono λ_ _ h=>⟨h.1,h.2.symm⟩))|(go_at_call 125;exact Calls.quiet_of_same ((HA _).mono λ_ _ h=>⟨h.1,h.2.symm⟩))|(go_at_call 126;exact Calls.quiet_of_same ((HL _).mono λ_ _ h=>⟨h.1,h.2.symm⟩))));go_wp2_with fail;go_ret;exact⟨rfl,below_drewN (aj _ _) _⟩
      ·have e5:decide (x<0)=false:=by simpa using h5
       have HB:=ae (show j9 op x ks.length=false by simp[j9,hlen,hka,h2];omega);clear h1 h2 h3 h4 h5 hka;by_cases mr:most<1
       ·have hr:qj (.node op x ks) most= -1:=by unfold qj;rw[if_pos (aT mr)]
        rw[hr];have dm:decide (most<1)=true:=by simpa using mr
        clear hv hk ih hm hr mr;go_enter func114,ntmps114;go_wp2_with fail;go_quiet ((first|(go_at_call 124;exact Calls.quiet_of_same ((HI _).mono λ_ _ h=>⟨h.1,h.2.symm⟩))|(go_at_call 125;exact Calls.quiet_of_same ((HA _).mono λ_ _ h=>⟨h.1,h.2.symm⟩))|(go_at_call 126;exact Calls.quiet_of_same ((HL _).mono λ_ _ h=>⟨h.1,h.2.symm⟩))));go_wp2_with fail;go_ret;exact⟨rfl,below_drewN (aj _ _) _⟩
       ·have hr:qj (.node op x ks) most=i7 ks most 1:=by unfold qj;rw[if_neg (by simp[HB.out];omega)]
        rw[hr];have dm:decide (most<1)=false:=by simpa using mr
        have Iz:1<=most:=by omega
        have HK:=ae hk;have IH:=ae ih;clear hv hk ih hr mr;go_enter func114,ntmps114;go_wp2_with fail;go_quiet ((first|(go_at_call 124;exact Calls.quiet_of_same ((HI _).mono λ_ _ h=>⟨h.1,h.2.symm⟩))|(go_at_call 125;exact Calls.quiet_of_same ((HA _).mono λ_ _ h=>⟨h.1,h.2.symm⟩))|(go_at_call 126;exact Calls.quiet_of_same ((HL _).mono λ_ _ h=>⟨h.1,h.2.symm⟩))));go_wp2_with fail;go_loopw [5,55] (λa i wr=>∃(k:Nat)(n:Int),k<=len/\i= .int .i64 k/\a= .int .i64 n/\1<=n/\n<=most/\i7 (ks.drop k) most n=i7 ks most 1/\Below w.heap.size w wr) (λ_ i _=>len-(intOf i).toNat)
        case atStart=>exact⟨0,1,by omega,rfl,rfl,by omega,by omega,rfl,below_drewN (aj _ _) _⟩
        case round=>
         obtain⟨k,n,hk2,rfl,rfl,mX,X5,hcs,aG⟩:=hrel;have gV:=ae hcs;clear hcs;have fV:=aG.size;by_cases hlt:k<len
         ·obtain⟨b,off,t,v0,v1,v2,rfl,hb,bA,c0,c1,c2,ht⟩:=(HK.below (aG.mono hB) (aN _)).get hlt;have hsz:t.size<=m:=Nat.le_trans (T.dC bA) (by omega);have dO:=yj t (most-n);have HC:=ae (λW(hb:Below wr.heap.size wr W)=>IH.out t (most-n) B W v0 v1 v2 hsz (by have:=hb.size;omega) (ht.below (hb.mono (by omega)) (aN _)) (by omega) (by omega));have HD:=ae (show i7 (ks.drop k) most n=if qj t (most-n)<0 then-1 else i7 (ks.drop (k+1)) most (n+qj t (most-n))from by rw[b8 bA];rfl);have eY:(k:Int)<(len:Int):=by omega
          have hbl:b<wr.heap.size:=by omega
          obtain⟨a0,b0,A0,n0,Qg,rfl,rfl,rfl⟩:=ht.eH;obtain⟨q,hq⟩:∃q,q=qj t (most-n):=⟨_,rfl⟩
          rw[<-hq]at HC HD dO;clear bA ht hq hsz;by_cases zP:q<0
          ·have HE:=ae (show i7 ks most 1= -1 by rw[<-gV.out,HD.out,if_pos zP]);go_wp2_with fail;refine(HC _ (aj _ _)).mono ?_;rintro e w1 ⟨rfl,hb1⟩;have bn:=ae ((aj wr (.cells #[.int .i64 a0,.int .i64 b0,.slice A0 n0 Qg] 90)).trans (hb1.mono (by simp)));clear hb1;go_wp2_with fail;go_ret;exact⟨by rw[HE.out];rfl,aG.trans (bn.mono fV)⟩
          ·have jZ:1<=q/\q<=most-n:=by rcases dO with h|h<;>omega
           obtain⟨jZ,Dx⟩:=jZ;have PH:=ae (HD.trans (if_neg zP));go_wp2_with fail;refine(HC _ (aj _ _)).mono ?_;rintro e w1 ⟨rfl,hb1⟩;have bn:=ae ((aj wr (.cells #[.int .i64 a0,.int .i64 b0,.slice A0 n0 Qg] 90)).trans (hb1.mono (by simp)));clear hb1;go_wp2_with fail;go_roundw
           case rel=>exact⟨k+1,n+q,by omega,by go_num,rfl,by omega,by omega,by rw[<-gV.out,PH.out],aG.trans (bn.mono fV)⟩
           case measure=>simp[intOf];omega
         ·obtain rfl:k=len:=by omega
          have HE:=ae (show i7 ks most 1=n by rw[<-gV.out,bD (by omega)];rfl);go_wp2_with fail;go_ret;exact⟨by rw[HE.out];rfl,aG⟩
    ·rw[decide_eq_false h3]at HL;by_cases h5:x=0
     ·subst h5;have HB:=ae (show j9 op 0 ks.length=false by simp[j9,hlen,hka,h2]);clear h1 h2 h3 hka;by_cases mr:most<1
      ·have hr:qj (.node op 0 ks) most= -1:=by unfold qj;rw[if_pos (aT mr)]
       rw[hr];have dm:decide (most<1)=true:=by simpa using mr
       clear hv hk ih hm hr mr;go_enter func114,ntmps114;go_wp2_with fail;go_quiet ((first|(go_at_call 124;exact Calls.quiet_of_same ((HI _).mono λ_ _ h=>⟨h.1,h.2.symm⟩))|(go_at_call 125;exact Calls.quiet_of_same ((HA _).mono λ_ _ h=>⟨h.1,h.2.symm⟩))|(go_at_call 126;exact Calls.quiet_of_same ((HL _).mono λ_ _ h=>⟨h.1,h.2.symm⟩))));go_wp2_with fail;go_ret;exact⟨rfl,below_drewN (aj _ _) _⟩
      ·have hr:qj (.node op 0 ks) most=i7 ks most 1:=by unfold qj;rw[if_neg (by simp[HB.out];omega)]
       rw[hr];have dm:decide (most<1)=false:=by simpa using mr
       have Iz:1<=most:=by omega
       have HK:=ae hk;have IH:=ae ih;clear hv hk ih hr mr;go_enter func114,ntmps114;go_wp2_with fail;go_quiet ((first|(go_at_call 124;exact Calls.quiet_of_same ((HI _).mono λ_ _ h=>⟨h.1,h.2.symm⟩))|(go_at_call 125;exact Calls.quiet_of_same ((HA _).mono λ_ _ h=>⟨h.1,h.2.symm⟩))|(go_at_call 126;exact Calls.quiet_of_same ((HL _).mono λ_ _ h=>⟨h.1,h.2.symm⟩))));go_wp2_with fail;go_loopw [5,55] (λa i wr=>∃(k:Nat)(n:Int),k<=len/\i= .int .i64 k/\a= .int .i64 n/\1<=n/\n<=most/\i7 (ks.drop k) most n=i7 ks most 1/\Below w.heap.size w wr) (λ_ i _=>len-(intOf i).toNat)
       case atStart=>exact⟨0,1,by omega,rfl,rfl,by omega,by omega,rfl,below_drewN (aj _ _) _⟩
       case round=>
        obtain⟨k,n,hk2,rfl,rfl,mX,X5,hcs,aG⟩:=hrel;have gV:=ae hcs;clear hcs;have fV:=aG.size;by_cases hlt:k<len
        ·obtain⟨b,off,t,v0,v1,v2,rfl,hb,bA,c0,c1,c2,ht⟩:=(HK.below (aG.mono hB) (aN _)).get hlt;have hsz:t.size<=m:=Nat.le_trans (T.dC bA) (by omega);have dO:=yj t (most-n);have HC:=ae (λW(hb:Below wr.heap.size wr W)=>IH.out t (most-n) B W v0 v1 v2 hsz (by have:=hb.size;omega) (ht.below (hb.mono (by omega)) (aN _)) (by omega) (by omega));have HD:=ae (show i7 (ks.drop k) most n=if qj t (most-n)<0 then-1 else i7 (ks.drop (k+1)) most (n+qj t (most-n))from by rw[b8 bA];rfl);have eY:(k:Int)<(len:Int):=by omega
         have hbl:b<wr.heap.size:=by omega
         obtain⟨a0,b0,A0,n0,Qg,rfl,rfl,rfl⟩:=ht.eH;obtain⟨q,hq⟩:∃q,q=qj t (most-n):=⟨_,rfl⟩
         rw[<-hq]at HC HD dO;clear bA ht hq hsz;by_cases zP:q<0
         ·have HE:=ae (show i7 ks most 1= -1 by rw[<-gV.out,HD.out,if_pos zP]);go_wp2_with fail;refine(HC _ (aj _ _)).mono ?_;rintro e w1 ⟨rfl,hb1⟩;have bn:=ae ((aj wr (.cells #[.int .i64 a0,.int .i64 b0,.slice A0 n0 Qg] 90)).trans (hb1.mono (by simp)));clear hb1;go_wp2_with fail;go_ret;exact⟨by rw[HE.out];rfl,aG.trans (bn.mono fV)⟩
         ·have jZ:1<=q/\q<=most-n:=by rcases dO with h|h<;>omega
          obtain⟨jZ,Dx⟩:=jZ;have PH:=ae (HD.trans (if_neg zP));go_wp2_with fail;refine(HC _ (aj _ _)).mono ?_;rintro e w1 ⟨rfl,hb1⟩;have bn:=ae ((aj wr (.cells #[.int .i64 a0,.int .i64 b0,.slice A0 n0 Qg] 90)).trans (hb1.mono (by simp)));clear hb1;go_wp2_with fail;go_roundw
          case rel=>exact⟨k+1,n+q,by omega,by go_num,rfl,by omega,by omega,by rw[<-gV.out,PH.out],aG.trans (bn.mono fV)⟩
          case measure=>simp[intOf];omega
        ·obtain rfl:k=len:=by omega
         have HE:=ae (show i7 ks most 1=n by rw[<-gV.out,bD (by omega)];rfl);go_wp2_with fail;go_ret;exact⟨by rw[HE.out];rfl,aG⟩
     ·have e5:(x !=0)=true:=by simpa using h5
      have hb:j9 op x ks.length=true:=by simp[j9];omega
      have hr:qj (.node op x ks) most= -1:=by unfold qj;rw[if_pos (aH hb)]
      rw[hr];clear hv hk ih hm hr hb;go_enter func114,ntmps114;go_wp2_with fail;go_quiet ((first|(go_at_call 124;exact Calls.quiet_of_same ((HI _).mono λ_ _ h=>⟨h.1,h.2.symm⟩))|(go_at_call 125;exact Calls.quiet_of_same ((HA _).mono λ_ _ h=>⟨h.1,h.2.symm⟩))|(go_at_call 126;exact Calls.quiet_of_same ((HL _).mono λ_ _ h=>⟨h.1,h.2.symm⟩))));go_wp2_with fail;go_ret;exact⟨rfl,below_drewN (aj _ _) _⟩
   ·have e2:((len:Int) !=vD op)=true:=by simpa using h2
    have hb:j9 op x ks.length=true:=by simp[j9,hlen,hka];exact aH h2
    have hr:qj (.node op x ks) most= -1:=by unfold qj;rw[if_pos (aH hb)]
    rw[hr];clear hv hk ih hm hr hb;go_enter func114,ntmps114;go_wp2_with fail;go_quiet ((first|(go_at_call 124;exact Calls.quiet_of_same ((HI _).mono λ_ _ h=>⟨h.1,h.2.symm⟩))|(go_at_call 125;exact Calls.quiet_of_same ((HA _).mono λ_ _ h=>⟨h.1,h.2.symm⟩))|(go_at_call 126;exact Calls.quiet_of_same ((HL _).mono λ_ _ h=>⟨h.1,h.2.symm⟩))));go_wp2_with fail;go_ret;exact⟨rfl,below_drewN (aj _ _) _⟩
  ·rw[decide_eq_false h1]at HI;have hb:j9 op x ks.length=true:=by simp[j9,rC];rw[if_pos (by omega)];omega
   have hr:qj (.node op x ks) most= -1:=by unfold qj;rw[if_pos (aH hb)]
   rw[hr];clear hv hk ih hm hr hb;go_enter func114,ntmps114;go_wp2_with fail;go_quiet ((first|(go_at_call 124;exact Calls.quiet_of_same ((HI _).mono λ_ _ h=>⟨h.1,h.2.symm⟩))|(go_at_call 125;exact Calls.quiet_of_same ((HA _).mono λ_ _ h=>⟨h.1,h.2.symm⟩))|(go_at_call 126;exact Calls.quiet_of_same ((HL _).mono λ_ _ h=>⟨h.1,h.2.symm⟩))));go_wp2_with fail;go_ret;exact⟨rfl,below_drewN (aj _ _) _⟩
def sS(t:T):Bool:=decide (0<qj t 200)
theorem QN(t:T)(B:Nat)(w:World)(v0 v1 v2:Value)(hB:B<=w.heap.size)(hv:aX w (dP B) t v0 v1 v2):
  Calls prog 94 #[.agg #[v0,v1,v2]] w λe w'=>e= .returned (.bool (sS t))/\Below w.heap.size w w':=by
 obtain⟨a,b,A,n,c,rfl,rfl,rfl⟩:=hv.eH;have HC:=ae (T7 t.size t 200 B (w.alloc (.cells #[.int .i64 a,.int .i64 b,.slice A n c] 90)) _ _ _ (aN _) (by simp;omega) (hv.below (aj w _|>.mono hB) (aN _)) (by omega) (by omega));unfold sS;clear hv;go_enter func94,ntmps94;go_wp2_with fail;refine HC.mono ?_;rintro e w1 ⟨rfl,hb1⟩;go_wp2_with fail;go_ret;exact⟨rfl,(aj _ _).trans (hb1.mono (by simp))⟩
end Go.Proofs.YtikbdplllopjlaaGreat
