/- count, Tree: how many nodes a tree has, and whether it may be. Conditions: as stated. -/
import Derived.Test.YtikbdplllopjlaaGreatQ02Zz
set_option linter.unusedVariables false
set_option linter.unusedSimpArgs false
set_option maxHeartbeats 8000000
set_option maxRecDepth 100000
open Go.Proofs.Tryz
namespace Go.Proofs.YtikbdplllopjlaaGreat
open Go.RowKit
def j9(op x:Int)(ks:Nat):Bool:=decide ((ks:Int)≠rC op\/(op>4/\x≠0)\/(op≠1/\x<0))
mutual
def cnt:T->Int->Int×Bool
 | .node op x ks,n=>if n+1>200\/j9 op x ks.length=true then(n+1,false)else iX ks (n+1)
def iX:List T->Int->Int×Bool
 |[],n=>(n,true)
 |k::ks,n=>if(cnt k n).2=false then((cnt k n).1,false)else iX ks (cnt k n).1
end
mutual
theorem yN:∀(t:T)(n:Int),0<=n->n<=200->n<=(cnt t n).1/\(cnt t n).1<=201/\((cnt t n).2=true->(cnt t n).1<=200)
 | .node op x ks,n,h0,h1=>by
  unfold cnt;split
  ·exact⟨by simp only;omega,by simp only;omega,λh=>by cases h⟩
  ·rename_i h;have h2:¬n+1>200:=λh'=>h (aH h');have:=Kd ks (n+1) (by omega) (by omega);exact⟨by omega,this.2⟩
theorem Kd:∀(ks:List T)(n:Int),0<=n->n<=200->n<=(iX ks n).1/\(iX ks n).1<=201/\((iX ks n).2=true->(iX ks n).1<=200)
 |[],n,h0,h1=>by unfold iX;exact⟨by simp only;omega,by simp only;omega,λ_=>by simp only;omega⟩
 |k::ks,n,h0,h1=>by
  unfold iX;have hk:=yN k n h0 h1;split
  ·exact⟨hk.1,hk.2.1,λh=>by cases h⟩
  ·rename_i h;have h2:(cnt k n).2=true:=by simpa using h
   have:=Kd ks (cnt k n).1 (by omega) (hk.2.2 h2);exact⟨by omega,this.2⟩
end
def S9(m:Nat):Prop:=∀(t:T)(n:Int)(B:Nat)(w:World)(v0 v1 v2:Value),t.size<=m->B<=w.heap.size->aX w (dP B) t v0 v1 v2->0<=n->n<=200->
  Calls prog 93 #[.agg #[v0,v1,v2],.int .i64 n] w λe w'=>e= .returned (.tuple #[.int .i64 (cnt t n).1,.bool (cnt t n).2])/\Below w.heap.size w w'
theorem b8{α:Type}{l:List α}{j:Nat}{x:α}(h:l[j]? =some x):l.drop j=x::l.drop (j+1):=by
 have hlt:j<l.length:=by
  rcases Nat.lt_or_ge j l.length with h'|h'
  ·exact h'
  ·rw[List.getElem?_eq_none h']at h;cases h
 rw[List.drop_eq_getElem_cons hlt];rw[List.getElem?_eq_getElem hlt]at h;injection h with h;rw[h]
theorem aX.eH{w:World}{C:Nat->Nat->Prop}{t:T}{v0 v1 v2:Value}(h:aX w C t v0 v1 v2):∃a b A n c,v0= .int .i64 a/\v1= .int .i64 b/\v2= .slice A n c:=by
 obtain⟨op,n,ks⟩:=t;simp only[aX]at h;obtain⟨h0,h1,_,_,_,A,aA,h5,_⟩:=h;exact⟨_,_,_,_,_,h0,h1,h5⟩
theorem bD{α:Type}{l:List α}{n:Nat}(h:l.length<=n):l.drop n=[]:=List.drop_eq_nil_of_le h
theorem RL(m:Nat):S9 m:=by
 induction m with
 |zero=>intro t _ _ _ _ _ _ hm;have:=t.size_pos;omega
 |succ m ih=>
  rintro⟨op,x,ks⟩ n B w v0 v1 v2 hm hB hv BO jw;obtain⟨A,aA,len,rfl,rfl,_,_,rfl,hk⟩:=bC.gI hv;simp only[T.size]at hm;have hlen:=hk.1;have Lm:=hk.2.1;by_cases h1:n+1>200
  ·have hr:cnt (.node op x ks) n=(n+1,false):=by unfold cnt;rw[if_pos (aH h1)]
   rw[hr];have hd:decide (200<n+1)=true:=by simpa using h1
   clear hv hk ih hm hr h1;go_enter func93,ntmps93;go_wp2_with fail;go_quiet (fail);go_wp2_with fail;go_ret2;exact⟨rfl,below_drewN (aj _ _) _⟩
  ·have hd:decide (200<n+1)=false:=by simpa using h1
   have iD:n+1<=200:=by omega
   clear h1;by_cases h2:(len:Int)=rC op
   ·have e2:((len:Int) !=rC op)=false:=by simp[h2]
    by_cases h3:op>4
    ·have d3:decide (4<op)=true:=by simpa using h3
     have d1:(op !=1)=true:=by simp;omega
     by_cases h4:x=0
     ·have hr:cnt (.node op x ks) n=iX ks (n+1):=by unfold cnt;rw[if_neg (by simp[j9,hlen,h2,h4];omega)]
      rw[hr];subst h4;have HK:=ae hk;have IH:=ae ih;have H2:=ae h2;clear hv hk ih hr h2 h3;go_enter func93,ntmps93;go_wp2_with fail;go_quiet ((go_at_call 113;exact Calls.quiet_of_same ((qD _ _).mono λ_ _ h=>⟨h.1,h.2.symm⟩)));go_wp2_with fail;go_loopw [1,6] (λa i wr=>∃(k:Nat)(m:Int),k<=len/\i= .int .i64 k/\a= .int .i64 m/\0<=m/\m<=200/\iX (ks.drop k) m=iX ks (n+1)/\Below w.heap.size w wr/\wr.cell? ⟨w.heap.size,2,none⟩=some (.slice A len aA)/\w.heap.size<wr.heap.size) (λ_ i _=>len-(intOf i).toNat)
      case atStart=>exact⟨0,n+1,by omega,rfl,rfl,by omega,by omega,rfl,below_drewN (aj _ _) _,by simp[go_sem],by simp[go_sem]⟩
      case round=>
       obtain⟨k,m',hk2,rfl,rfl,mX,mr,hcs,aG,hc2,hzl⟩:=hrel;have gV:=ae hcs;clear hcs;have fV:=aG.size;by_cases hlt:k<len
       ·obtain⟨b,off,t,v0,v1,v2,rfl,hb,bA,c0,c1,c2,ht⟩:=(HK.below (aG.mono hB) (aN _)).get hlt;have hsz:t.size<=m:=Nat.le_trans (T.dC bA) (by omega);have dO:=yN t m' mX mr;have HC:=ae (IH.out t m' B wr v0 v1 v2 hsz (by omega) ht mX mr);have HD:=ae (show iX (ks.drop k) m'=if(cnt t m').2=false then((cnt t m').1,false)else iX (ks.drop (k+1)) (cnt t m').1 from by rw[b8 bA];rfl);have eY:(k:Int)<(len:Int):=by omega
        have hbl:b<wr.heap.size:=by omega
        obtain⟨⟨q,ok⟩,hq⟩:∃q,q=cnt t m':=⟨_,rfl⟩
        rw[<-hq]at HC HD dO;simp only at dO;obtain⟨OC,OB,Bg⟩:=dO;clear bA ht hq hsz;cases ok with
        |false=>
         clear Bg;go_wp2_with fail;refine HC.mono ?_;rintro e w1 ⟨rfl,hb1⟩;go_wp2_with fail;go_ret2;have he:iX ks (n+1)=(q,false):=by rw[<-gV.out,HD.out];simp
         exact⟨by rw[he];rfl,aG.trans (hb1.mono fV)⟩
        |true=>
         have Oz:=Bg rfl;clear Bg;go_wp2_with fail;refine HC.mono ?_;rintro e w1 ⟨rfl,hb1⟩;have vg:w1.cell? ⟨w.heap.size,2,none⟩=some (.slice (some ⟨b,off,none⟩) len aA):=ag hc2 hb1 (by omega);go_wp2_with fail;go_roundw
         case rel=>
          refine⟨k+1,q,by omega,by go_num,rfl,by omega,Oz,?_,aG.trans (hb1.mono fV),vg,by have:=hb1.size;omega⟩;rw[<-gV.out,HD.out];simp
         case measure=>simp[intOf];omega
       ·obtain rfl:k=len:=by omega
        go_wp2_with fail;go_ret2;have he:iX ks (n+1)=(m',true):=by rw[<-gV.out,bD (by omega)];rfl
        exact⟨by rw[he];rfl,aG⟩
     ·have hr:cnt (.node op x ks) n=(n+1,false):=by unfold cnt;rw[if_pos (aT (by simp[j9];exact aT (aH ⟨h3,h4⟩)))]
      rw[hr];have d4:(x !=0)=true:=by simpa using h4
      clear hv hk ih hm hr h2 h3 h4;go_enter func93,ntmps93;go_wp2_with fail;go_quiet ((go_at_call 113;exact Calls.quiet_of_same ((qD _ _).mono λ_ _ h=>⟨h.1,h.2.symm⟩)));go_wp2_with fail;go_ret2;exact⟨rfl,below_drewN (aj _ _) _⟩
    ·have d3:decide (4<op)=false:=by simpa using h3
     by_cases h5:op=1
     ·have hr:cnt (.node op x ks) n=iX ks (n+1):=by unfold cnt;rw[if_neg (by simp[j9,hlen,h2,h5];omega)]
      rw[hr];have d5:(op !=1)=false:=by simp[h5]
      have HK:=ae hk;have IH:=ae ih;clear hv hk ih hr h2 h3 h5;go_enter func93,ntmps93;go_wp2_with fail;go_quiet ((go_at_call 113;exact Calls.quiet_of_same ((qD _ _).mono λ_ _ h=>⟨h.1,h.2.symm⟩)));go_wp2_with fail;go_loopw [1,6] (λa i wr=>∃(k:Nat)(m:Int),k<=len/\i= .int .i64 k/\a= .int .i64 m/\0<=m/\m<=200/\iX (ks.drop k) m=iX ks (n+1)/\Below w.heap.size w wr/\wr.cell? ⟨w.heap.size,2,none⟩=some (.slice A len aA)/\w.heap.size<wr.heap.size) (λ_ i _=>len-(intOf i).toNat)
      case atStart=>exact⟨0,n+1,by omega,rfl,rfl,by omega,by omega,rfl,below_drewN (aj _ _) _,by simp[go_sem],by simp[go_sem]⟩
      case round=>
       obtain⟨k,m',hk2,rfl,rfl,mX,mr,hcs,aG,hc2,hzl⟩:=hrel;have gV:=ae hcs;clear hcs;have fV:=aG.size;by_cases hlt:k<len
       ·obtain⟨b,off,t,v0,v1,v2,rfl,hb,bA,c0,c1,c2,ht⟩:=(HK.below (aG.mono hB) (aN _)).get hlt;have hsz:t.size<=m:=Nat.le_trans (T.dC bA) (by omega);have dO:=yN t m' mX mr;have HC:=ae (IH.out t m' B wr v0 v1 v2 hsz (by omega) ht mX mr);have HD:=ae (show iX (ks.drop k) m'=if(cnt t m').2=false then((cnt t m').1,false)else iX (ks.drop (k+1)) (cnt t m').1 from by rw[b8 bA];rfl);have eY:(k:Int)<(len:Int):=by omega
        have hbl:b<wr.heap.size:=by omega
        obtain⟨⟨q,ok⟩,hq⟩:∃q,q=cnt t m':=⟨_,rfl⟩
        rw[<-hq]at HC HD dO;simp only at dO;obtain⟨OC,OB,Bg⟩:=dO;clear bA ht hq hsz;cases ok with
        |false=>
         clear Bg;go_wp2_with fail;refine HC.mono ?_;rintro e w1 ⟨rfl,hb1⟩;go_wp2_with fail;go_ret2;have he:iX ks (n+1)=(q,false):=by rw[<-gV.out,HD.out];simp
         exact⟨by rw[he];rfl,aG.trans (hb1.mono fV)⟩
        |true=>
         have Oz:=Bg rfl;clear Bg;go_wp2_with fail;refine HC.mono ?_;rintro e w1 ⟨rfl,hb1⟩;have vg:w1.cell? ⟨w.heap.size,2,none⟩=some (.slice (some ⟨b,off,none⟩) len aA):=ag hc2 hb1 (by omega);go_wp2_with fail;go_roundw
         case rel=>
          refine⟨k+1,q,by omega,by go_num,rfl,by omega,Oz,?_,aG.trans (hb1.mono fV),vg,by have:=hb1.size;omega⟩;rw[<-gV.out,HD.out];simp
         case measure=>simp[intOf];omega
       ·obtain rfl:k=len:=by omega
        go_wp2_with fail;go_ret2;have he:iX ks (n+1)=(m',true):=by rw[<-gV.out,bD (by omega)];rfl
        exact⟨by rw[he];rfl,aG⟩
     ·have d5:(op !=1)=true:=by simpa using h5
      by_cases h6:x<0
      ·have hr:cnt (.node op x ks) n=(n+1,false):=by unfold cnt;rw[if_pos (aT (by simp[j9];exact aT (aT ⟨h5,h6⟩)))]
       rw[hr];have d6:decide (x<0)=true:=by simpa using h6
       clear hv hk ih hm hr h2 h3 h5 h6;go_enter func93,ntmps93;go_wp2_with fail;go_quiet ((go_at_call 113;exact Calls.quiet_of_same ((qD _ _).mono λ_ _ h=>⟨h.1,h.2.symm⟩)));go_wp2_with fail;go_ret2;exact⟨rfl,below_drewN (aj _ _) _⟩
      ·have hr:cnt (.node op x ks) n=iX ks (n+1):=by unfold cnt;rw[if_neg (by simp[j9,hlen,h2];omega)]
       rw[hr];have d6:decide (x<0)=false:=by simpa using h6
       have HK:=ae hk;have IH:=ae ih;clear hv hk ih hr h2 h3 h5 h6;go_enter func93,ntmps93;go_wp2_with fail;go_quiet ((go_at_call 113;exact Calls.quiet_of_same ((qD _ _).mono λ_ _ h=>⟨h.1,h.2.symm⟩)));go_wp2_with fail;go_loopw [1,6] (λa i wr=>∃(k:Nat)(m:Int),k<=len/\i= .int .i64 k/\a= .int .i64 m/\0<=m/\m<=200/\iX (ks.drop k) m=iX ks (n+1)/\Below w.heap.size w wr/\wr.cell? ⟨w.heap.size,2,none⟩=some (.slice A len aA)/\w.heap.size<wr.heap.size) (λ_ i _=>len-(intOf i).toNat)
       case atStart=>exact⟨0,n+1,by omega,rfl,rfl,by omega,by omega,rfl,below_drewN (aj _ _) _,by simp[go_sem],by simp[go_sem]⟩
       case round=>
        obtain⟨k,m',hk2,rfl,rfl,mX,mr,hcs,aG,hc2,hzl⟩:=hrel;have gV:=ae hcs;clear hcs;have fV:=aG.size;by_cases hlt:k<len
        ·obtain⟨b,off,t,v0,v1,v2,rfl,hb,bA,c0,c1,c2,ht⟩:=(HK.below (aG.mono hB) (aN _)).get hlt;have hsz:t.size<=m:=Nat.le_trans (T.dC bA) (by omega);have dO:=yN t m' mX mr;have HC:=ae (IH.out t m' B wr v0 v1 v2 hsz (by omega) ht mX mr);have HD:=ae (show iX (ks.drop k) m'=if(cnt t m').2=false then((cnt t m').1,false)else iX (ks.drop (k+1)) (cnt t m').1 from by rw[b8 bA];rfl);have eY:(k:Int)<(len:Int):=by omega
         have hbl:b<wr.heap.size:=by omega
         obtain⟨⟨q,ok⟩,hq⟩:∃q,q=cnt t m':=⟨_,rfl⟩
         rw[<-hq]at HC HD dO;simp only at dO;obtain⟨OC,OB,Bg⟩:=dO;clear bA ht hq hsz;cases ok with
         |false=>
          clear Bg;go_wp2_with fail;refine HC.mono ?_;rintro e w1 ⟨rfl,hb1⟩;go_wp2_with fail;go_ret2;have he:iX ks (n+1)=(q,false):=by rw[<-gV.out,HD.out];simp
          exact⟨by rw[he];rfl,aG.trans (hb1.mono fV)⟩
         |true=>
          have Oz:=Bg rfl;clear Bg;go_wp2_with fail;refine HC.mono ?_;rintro e w1 ⟨rfl,hb1⟩;have vg:w1.cell? ⟨w.heap.size,2,none⟩=some (.slice (some ⟨b,off,none⟩) len aA):=ag hc2 hb1 (by omega);go_wp2_with fail;go_roundw
          case rel=>
           refine⟨k+1,q,by omega,by go_num,rfl,by omega,Oz,?_,aG.trans (hb1.mono fV),vg,by have:=hb1.size;omega⟩;rw[<-gV.out,HD.out];simp
          case measure=>simp[intOf];omega
        ·obtain rfl:k=len:=by omega
         go_wp2_with fail;go_ret2;have he:iX ks (n+1)=(m',true):=by rw[<-gV.out,bD (by omega)];rfl
         exact⟨by rw[he];rfl,aG⟩
   ·have hr:cnt (.node op x ks) n=(n+1,false):=by unfold cnt;rw[if_pos (aT (by simp[j9,hlen];exact aH h2))]
    rw[hr];have e2:((len:Int) !=rC op)=true:=by simpa using h2
    clear hv hk ih hm hr h2;go_enter func93,ntmps93;go_wp2_with fail;go_quiet ((go_at_call 113;exact Calls.quiet_of_same ((qD _ _).mono λ_ _ h=>⟨h.1,h.2.symm⟩)));go_wp2_with fail;go_ret2;exact⟨rfl,below_drewN (aj _ _) _⟩
def wU(t:T):Int×Bool:=cnt t 0
theorem Nf(t:T)(B:Nat)(w:World)(v0 v1 v2:Value)(hB:B<=w.heap.size)(hv:aX w (dP B) t v0 v1 v2):
  Calls prog 70 #[.agg #[v0,v1,v2]] w λe w'=>e= .returned (.tuple #[.int .i64 (wU t).1,.bool (wU t).2])/\Below w.heap.size w w':=by
 obtain⟨a,b,A,n,c,rfl,rfl,rfl⟩:=hv.eH;have HC:=ae (RL t.size t 0 B (w.alloc (.cells #[.int .i64 a,.int .i64 b,.slice A n c] 90)) _ _ _ (aN _) (by simp;omega) (hv.below (aj w _|>.mono hB) (aN _)) (by omega) (by omega));clear hv;go_enter func70,ntmps70;go_wp2_with fail;refine HC.mono ?_;rintro e w1 ⟨rfl,hb1⟩;go_wp2_with fail;go_ret2;exact⟨rfl,(aj _ _).trans (hb1.mono (by simp))⟩
end Go.Proofs.YtikbdplllopjlaaGreat
