/- Trees that may be (plain). No program in sight but its name. No condition. Nodes: how many nodes a tree has. Conditions: as stated. The graph's asker: names; how it lies. Conditions: as stated. The graph's asker: a tree; none. Conditions: as stated. The graph's asker: a step's shape. Conditions: as stated. -/
import Derived.Test.YtikbdplllopjlaaGreatSizeZz
import Derived.IntWalk
set_option linter.unusedVariables false
set_option linter.unusedSimpArgs false
set_option maxHeartbeats 8000000
set_option maxRecDepth 100000
open Go.Proofs.Tryz
namespace Go.Proofs.YtikbdplllopjlaaGreat
open Go.RowKit
mutual
def PX:T->Prop
 | .node op x ks=>j9 op x ks.length=false/\rO ks
def rO:List T->Prop
 |[]=>True
 |k::ks=>PX k/\rO ks
end
theorem Gn{op x:Int}{n:Nat}:j9 op x n=false↔(n:Int)=rC op/\(op>4->x=0)/\(op≠1->0<=x):=by
 unfold j9;simp
theorem AQ{op:Int}{n:Nat}(h:(n:Int)=rC op):(1<=op/\op<=4/\n=0)\/(12<=op/\op<=30/\n=2)\/(5<=op/\op<=11/\n=1)\/(31<=op/\op<=36/\n=1):=by
 unfold rC at h;split at h
 ·omega
 ·split at h
  ·omega
  ·split at h
   ·omega
   ·omega
theorem qw{op x:Int}{ks:List T}:PX (.node op x ks)↔j9 op x ks.length=false/\rO ks:=by rw[PX]
mutual
theorem G9:∀(t:T)(most:Int),PX t->(t.size:Int)<=most->qj t most=t.size
 | .node op x ks,most,h,hm=>by
  obtain⟨h1,h2⟩:=qw.1 h;simp only[T.size]at hm ⊢;rw[qj,if_neg (by rw[h1];simp;omega),JP ks most 1 h2 (by omega)];omega
theorem JP:∀(ks:List T)(most n:Int),rO ks->n+T.sizes ks<=most->i7 ks most n=n+T.sizes ks
 |[],most,n,h,hm=>by simp[i7,T.sizes]
 |k::ks,most,n,h,hm=>by
  simp only[rO]at h;simp only[T.sizes]at hm ⊢;have hk:=G9 k (most-n) h.1 (by omega);have hp:=k.size_pos;rw[i7,if_neg (by omega),hk,JP ks most _ h.2 (by omega)];omega
end
mutual
theorem JR:∀(t:T)(most:Int),qj t most≠ -1->PX t/\(t.size:Int)<=most
 | .node op x ks,most,h=>by
  rw[qj]at h;split at h
  ·exact absurd rfl h
  ·rename_i hn;have h1:j9 op x ks.length=false:=by
    cases hb:j9 op x ks.length
    ·rfl
    ·exact absurd (aH hb) hn
   have h2:¬most<1:=λh'=>hn (aT h');obtain⟨h3,h4⟩:=EJ ks most 1 (by omega) (by omega) h;exact⟨qw.2 ⟨h1,h3⟩,by simp only[T.size];omega⟩
theorem EJ:∀(ks:List T)(most n:Int),1<=n->n<=most->i7 ks most n≠ -1->rO ks/\n+T.sizes ks<=most
 |[],most,n,h0,h1,h=>by simp[rO,T.sizes];omega
 |k::ks,most,n,h0,h1,h=>by
  rw[i7]at h;have hb:=yj k (most-n);split at h
  ·exact absurd rfl h
  ·rename_i hn;have hk:=JR k (most-n) (by omega);have hsz:=G9 k (most-n) hk.1 hk.2;rw[hsz]at h hb;obtain⟨h3,h4⟩:=EJ ks most (n+k.size) (by omega) (by omega) h;simp only[rO,T.sizes];exact⟨⟨hk.1,h3⟩,by omega⟩
end
theorem oA{t:T}:sS t=true↔PX t/\t.size<=200:=by
 unfold sS;rw[decide_eq_true_eq];have hb:=yj t 200;constructor
 ·intro h;have:=JR t 200 (by omega);exact⟨this.1,by omega⟩
 ·rintro⟨h1,h2⟩;have:=G9 t 200 h1 (by omega);have hp:=t.size_pos;omega
mutual
theorem D1:∀(t:T)(n:Int),PX t->n+t.size<=200->cnt t n=(n+t.size,true)
 | .node op x ks,n,h,hm=>by
  obtain⟨h1,h2⟩:=qw.1 h;simp only[T.size]at hm ⊢;rw[cnt,if_neg (by rw[h1];simp;omega),Kc ks (n+1) h2 (by omega)]
  congr 1
  omega
theorem Kc:∀(ks:List T)(n:Int),rO ks->n+T.sizes ks<=200->iX ks n=(n+T.sizes ks,true)
 |[],n,h,hm=>by simp[iX,T.sizes]
 |k::ks,n,h,hm=>by
  simp only[rO]at h;simp only[T.sizes]at hm ⊢;have hk:=D1 k n h.1 (by omega);rw[iX,hk];simp only[Bool.true_eq_false,if_false];rw[Kc ks _ h.2 (by omega)]
  congr 1
  omega
end
mutual
theorem Ke:∀(t:T)(n:Int),(cnt t n).2=true->PX t/\(0<=n->n+t.size<=200)
 | .node op x ks,n,h=>by
  rw[cnt]at h;split at h
  ·cases h
  ·rename_i hn;have h1:j9 op x ks.length=false:=by
    cases hb:j9 op x ks.length
    ·rfl
    ·exact absurd (aT hb) hn
   have h2:¬n+1>200:=λh'=>hn (aH h');obtain⟨h3,h4⟩:=F2 ks (n+1) h;exact⟨qw.2 ⟨h1,h3⟩,λh0=>by have:=h4 (by omega) (by omega);simp only[T.size];omega⟩
theorem F2:∀(ks:List T)(n:Int),(iX ks n).2=true->rO ks/\(0<=n->n<=200->n+T.sizes ks<=200)
 |[],n,h=>by simp[rO,T.sizes]
 |k::ks,n,h=>by
  rw[iX]at h;split at h
  ·cases h
  ·rename_i hn;have hk2:(cnt k n).2=true:=by simpa using hn
   have hk:=Ke k n hk2;obtain⟨h3,h4⟩:=F2 ks (cnt k n).1 h;simp only[rO,T.sizes];refine⟨⟨hk.1,h3⟩,λh0 h1=>?_⟩;have GN:=hk.2 h0;have hc:=D1 k n hk.1 GN;rw[hc]at h4;have:=h4 (by simp only;omega) (by simp only;omega);simp only at this;omega
end
theorem KG{t:T}:(wU t).2=sS t:=by
 rw[Bool.eq_iff_iff,oA];unfold wU;constructor
 ·intro h;have:=Ke t 0 h;exact⟨this.1,by have:=this.2 (by omega);omega⟩
 ·rintro⟨h1,h2⟩;rw[D1 t 0 h1 (by omega)]
theorem G7{t:T}(h:sS t=true):wU t=((t.size:Int),true):=by
 obtain⟨h1,h2⟩:=oA.1 h;unfold wU;rw[D1 t 0 h1 (by omega)]
 congr 1
 omega
theorem pM:∀(ks:List T)(j:Nat),T.sizes (ks.take j)<=T.sizes ks
 |[],j=>by simp[T.sizes]
 |k::ks,0=>by simp[T.sizes]
 |k::ks,j+1=>by have:=pM ks j;simp only[List.take_succ_cons,T.sizes];omega
theorem uQ:∀{ks:List T}{j:Nat}{k:T},ks[j]? =some k->T.sizes (ks.take (j+1))=T.sizes (ks.take j)+k.size
 |[],j,k,h=>by simp at h
 |x::ks,0,k,h=>by simp at h;subst h;simp[T.sizes]
 |x::ks,j+1,k,h=>by
  simp only[List.getElem?_cons_succ]at h;have:=uQ (ks:=ks) h;simp only[List.take_succ_cons,T.sizes]at this ⊢;omega
def MD(m:Nat):Prop:=∀(t:T)(B:Nat)(w:World)(v0 v1 v2:Value),t.size<=m->B<=w.heap.size->aX w (dP B) t v0 v1 v2->t.size<=1000000->
  Calls prog 96 #[.agg #[v0,v1,v2]] w λe w'=>e= .returned (.int .i64 (t.size:Nat))/\Below w.heap.size w w'
theorem KY(m:Nat):MD m:=by
 induction m with
 |zero=>intro t _ _ _ _ _ hm;have:=t.size_pos;omega
 |succ m ih=>
  rintro⟨op,x,ks⟩ B w v0 v1 v2 hm hB hv gX;obtain⟨A,aA,len,rfl,rfl,_,_,rfl,hk⟩:=bC.gI hv;simp only[T.size]at hm gX ⊢;have hlen:=hk.1;have Lm:=hk.2.1;have HK:=ae hk;have HIH:=ae ih;have HL:=ae hlen;clear hv hk ih;go_enter func96,ntmps96;refine ak λQ HQ=>?_;go_wp2_with fail;go_loopw [3,9] (λn i wr=>∃j:Nat,j<=len/\i= .int .i64 j/\n= .int .i64 ((1+T.sizes (ks.take j):Nat):Int)/\Below w.heap.size w wr) (λ_ i _=>len-(intOf i).toNat)
  case atStart=>exact⟨0,by omega,rfl,by simp[T.sizes],aj _ _⟩
  case round=>
   obtain⟨j,hj,rfl,rfl,aG⟩:=hrel;have fV:=aG.size;have cV:=ae aG;by_cases hlt:j<len
   ·obtain⟨b,off,k,u0,u1,u2,rfl,hb,bA,k0,k1,k2,ht⟩:=(HK.below (aG.mono hB) (aN _)).get hlt;obtain⟨a0,b0,A1,n1,c1,rfl,rfl,rfl⟩:=ht.eH;have GN:=uQ bA;have UM:=pM ks (j+1);have J2:=k.size_pos;have HC:=ae (HIH.out k B (wr.alloc (.cells #[.int .i64 a0,.int .i64 b0,.slice A1 n1 c1] 90)) _ _ _ (by omega) (by simp;omega) (ht.below ((aj wr _).mono (by omega)) (aN _)) (by omega));have HKS:=ae GN;have EA:(j:Int)<(len:Int):=by omega
    have hbl:b<wr.heap.size:=by omega
    clear bA ht aG;go_wp2_with fail;refine HC.mono ?_;rintro e w1 ⟨rfl,hb1⟩;have bn:=ae (cV.trans (((aj wr (.cells #[.int .i64 a0,.int .i64 b0,.slice A1 n1 c1] 90)).trans (hb1.mono (aj wr _).size)).mono fV));have bT:IntKind.i64.wrap (1+(T.sizes (ks.take j):Int)+(k.size:Int))=1+(T.sizes (ks.take j):Int)+(k.size:Int):=IntWalk.i64_in _ (by omega);clear hb1;go_wp2_with fail;go_roundw
    case rel=>exact⟨j+1,by omega,by go_num,by rw[HKS.out];push_cast;simp only[Value.int.injEq,true_and];omega,bn.out⟩
    case measure=>simp[intOf];omega
   ·obtain rfl:j=len:=by omega
    rw[<-HL.out,List.take_length];clear aG;go_wp2_with fail;refine HQ _ _ _ ?_;exact aR (v:= .int .i64 ((1+T.sizes ks:Nat):Int)) (by simp[results,results96,go_sem]) rfl ⟨rfl,cV.out⟩
theorem KX(t:T)(B:Nat)(w:World)(v0 v1 v2:Value)(hB:B<=w.heap.size)(hv:aX w (dP B) t v0 v1 v2)(hm:t.size<=1000000):
  Calls prog 96 #[.agg #[v0,v1,v2]] w λe w'=>e= .returned (.int .i64 (t.size:Nat))/\Below w.heap.size w w':=KY t.size t B w v0 v1 v2 (aN _) hB hv hm
mutual
def dB(a b c:Int):T->Bool
 | .node op x ks=>if op=2 then decide (x<a)else if op=3 then decide (x<b)else if op=4 then decide (x<c)else gy a b c ks
def gy(a b c:Int):List T->Bool
 |[]=>true
 |k::ks=>dB a b c k && gy a b c ks
end
structure oM where
 ga:Option Addr
 ng:Nat
 gc:Nat
 fa:Option Addr
 nf:Nat
 fc:Nat
 main:Int
 params:Int
 ay:Int
 la:Option Addr
 nl:Nat
 lc:Nat
 ba:Option Addr
 nb:Nat
 bc:Nat
def oM.cells(a:oM)(n:Int):Array Value:=#[.slice a.ga a.ng a.gc,.slice a.fa a.nf a.fc,.int .i64 a.main,.int .i64 a.params,.int .i64 a.ay,.slice a.la a.nl a.lc,.slice a.ba a.nb a.bc,.int .i64 n]
def ry(w:World)(ab:Nat)(a:oM)(n:Int):Prop:=Row w ab (a.cells n) 103
def Wd(a:oM)(ab:Nat)(n:Int)(m:Nat):Prop:=∀(t:T)(B:Nat)(w:World)(v0 v1 v2:Value),t.size<=m->B<=w.heap.size->aX w (dP B) t v0 v1 v2->ry w ab a n->
  Calls prog 95 #[.pointer (some ⟨ab,0,none⟩),.agg #[v0,v1,v2]] w λe w'=>e= .returned (.bool (dB a.ay a.nl a.ng t))/\Below w.heap.size w w'
theorem IY(a:oM)(ab:Nat)(n:Int)(m:Nat):Wd a ab n m:=by
 induction m with
 |zero=>intro t _ _ _ _ _ hm;have:=t.size_pos;omega
 |succ m ih=>
  rintro⟨op,x,ks⟩ B w v0 v1 v2 hm hB hv hr;obtain⟨A,aA,len,rfl,rfl,_,_,rfl,hk⟩:=bC.gI hv;simp only[T.size]at hm;have hlen:=hk.1;have Lm:=hk.2.1;have HK:=ae hk;have HIH:=ae ih;have HL:=ae hlen;have HR:=ae hr;have r0:w.cell? ⟨ab,0,none⟩=some (.slice a.ga a.ng a.gc):=hr.cell rfl;have r4:w.cell? ⟨ab,4,none⟩=some (.int .i64 a.ay):=hr.cell rfl;have r5:w.cell? ⟨ab,5,none⟩=some (.slice a.la a.nl a.lc):=hr.cell rfl;have N2:=hr.lt;have Q7:ab<w.heap.size+1:=by omega
  clear hv hk ih hr;by_cases h2:op=2
  ·subst h2;rw[show dB a.ay a.nl a.ng (.node 2 x ks)=decide (x<a.ay)from by simp[dB]];go_enter func95,ntmps95;refine ak λQ HQ=>?_;go_wp2_with fail;go_region;go_wp2_with fail;refine HQ _ _ _ ?_;exact aR (v:= .bool (decide (x<a.ay))) (by simp[results,results95,go_sem]) rfl ⟨rfl,(aj _ _).drew⟩
  ·by_cases h3:op=3
   ·subst h3;rw[show dB a.ay a.nl a.ng (.node 3 x ks)=decide (x<a.nl)from by simp[dB]];go_enter func95,ntmps95;refine ak λQ HQ=>?_;go_wp2_with fail;go_region;go_wp2_with fail;refine HQ _ _ _ ?_;exact aR (v:= .bool (decide (x<a.nl))) (by simp[results,results95,go_sem]) rfl ⟨rfl,(aj _ _).drew⟩
   ·by_cases h4:op=4
    ·subst h4;rw[show dB a.ay a.nl a.ng (.node 4 x ks)=decide (x<a.ng)from by simp[dB]];go_enter func95,ntmps95;refine ak λQ HQ=>?_;go_wp2_with fail;go_region;go_wp2_with fail;refine HQ _ _ _ ?_;exact aR (v:= .bool (decide (x<a.ng))) (by simp[results,results95,go_sem]) rfl ⟨rfl,(aj _ _).drew⟩
    ·rw[show dB a.ay a.nl a.ng (.node op x ks)=gy a.ay a.nl a.ng ks from by rw[dB,if_neg h2,if_neg h3,if_neg h4]];have e2:(op==2)=false:=by simpa using h2
     have e3:(op==3)=false:=by simpa using h3
     have e4:(op==4)=false:=by simpa using h4
     clear r0 r4 r5;go_enter func95,ntmps95;refine ak λQ HQ=>?_;go_wp2_with fail;go_loopw [44] (λi wr=>∃j:Nat,j<=len/\i= .int .i64 j/\gy a.ay a.nl a.ng (ks.drop j)=gy a.ay a.nl a.ng ks/\Below w.heap.size w wr) (λi _=>len-(intOf i).toNat)
     case atStart=>exact⟨0,by omega,rfl,rfl,aj _ _⟩
     case round=>
      obtain⟨j,hj,rfl,heq,aG⟩:=hrel;have fV:=aG.size;have cV:=ae aG;have jC:=ae heq;by_cases hlt:j<len
      ·obtain⟨b,off,k,u0,u1,u2,rfl,hb,bA,k0,k1,k2,ht⟩:=(HK.below (aG.mono hB) (aN _)).get hlt;obtain⟨a0,b0,A1,n1,c1,rfl,rfl,rfl⟩:=ht.eH;have GN:=uQ bA;have UM:=pM ks (j+1);have J2:=k.size_pos;have HC:=ae (HIH.out k B (wr.alloc (.cells #[.int .i64 a0,.int .i64 b0,.slice A1 n1 c1] 90)) _ _ _ (by omega) (by simp;omega) (ht.below ((aj wr _).mono (by omega)) (aN _)) ((HR.below aG N2).alloc _));have iw:=ae (show gy a.ay a.nl a.ng (ks.drop j)=(dB a.ay a.nl a.ng k && gy a.ay a.nl a.ng (ks.drop (j+1))) by rw[b8 bA,gy]);have EA:(j:Int)<(len:Int):=by omega
       have hbl:b<wr.heap.size:=by omega
       clear bA ht aG heq GN;cases hn:dB a.ay a.nl a.ng k with
       |true=>
        have HN:=ae hn;rw[hn]at HC;clear hn;go_wp2_with fail;refine HC.mono ?_;rintro e w1 ⟨rfl,hb1⟩;have bn:=ae (cV.trans (((aj wr (.cells #[.int .i64 a0,.int .i64 b0,.slice A1 n1 c1] 90)).trans (hb1.mono (aj wr _).size)).mono fV));clear hb1;go_wp2_with fail;go_roundw
        case rel=>exact⟨j+1,by omega,by go_num,by have h1:=jC.out;rw[iw.out,HN.out,Bool.true_and]at h1;exact h1,bn.out⟩
        case measure=>simp[intOf];omega
       |false=>
        have HN:=ae hn;rw[hn]at HC;clear hn;go_wp2_with fail;refine HC.mono ?_;rintro e w1 ⟨rfl,hb1⟩;have bn:=ae (cV.trans (((aj wr (.cells #[.int .i64 a0,.int .i64 b0,.slice A1 n1 c1] 90)).trans (hb1.mono (aj wr _).size)).mono fV));clear hb1;go_wp2_with fail;refine HQ _ _ _ ?_;refine aR (v:= .bool false) (by simp[results,results95,go_sem]) rfl ⟨?_,bn.out⟩;rw[<-jC.out,iw.out,HN.out,Bool.false_and]
      ·obtain rfl:j=len:=by omega
       rw[bD (by have:=HL.out;omega)]at jC;clear aG heq;go_wp2_with fail;refine HQ _ _ _ ?_;refine aR (v:= .bool true) (by simp[results,results95,go_sem]) rfl ⟨?_,cV.out⟩;rw[<-jC.out,gy]
def bS(na nb nc:Int)(n:Int)(t:T):Bool×Int:=if sS t=true/\dB na nb nc t=true then(decide (n+t.size<=8000),n+t.size)else(false,n)
def fE(a:oM)(ab:Nat)(r:Bool×Int)(w:World)(e:Ending)(w':World):Prop:=e= .returned (.bool r.1)/\ry w' ab a r.2/\Wr (λk=>k=ab) w w'
theorem ry.below{w w':World}{ab:Nat}{a:oM}{n:Int}(h:ry w ab a n)(hb:Below w.heap.size w w'):ry w' ab a n:=Row.below h hb (Row.lt h)
theorem G8{K:Act->World->Prop}{X Y:Exit->Act->World->Prop}{e:Exit}{a:Act}{w:World}(h:∀e a w,X e a w->Y e a w)(hx:Exit.then K X e a w):Exit.then K Y e a w:=by
 cases e<;>first|exact hx|exact h _ _ _ hx
theorem lM(a:oM)(ab:Nat)(n:Int)(t:T)(B:Nat)(w:World)(v0 v1 v2:Value)(hB:B<=w.heap.size)(hv:aX w (dP B) t v0 v1 v2)(hr:ry w ab a n)(BO:0<=n)(jw:n<=1000000):
  Calls prog 74 #[.pointer (some ⟨ab,0,none⟩),.agg #[v0,v1,v2]] w λe w'=>fE a ab (bS a.ay a.nl a.ng n t) w e w':=by
 obtain⟨a0,b0,A1,n1,c1,rfl,rfl,rfl⟩:=hv.eH;have HM:=ae (λW(hW:Below w.heap.size w W)=>QN t B W _ _ _ (by have:=hW.size;omega) (hv.below (hW.mono hB) (aN _)));have HN:=ae (λW(hW:Below w.heap.size w W)=>IY a ab n t.size t B W _ _ _ (aN _) (by have:=hW.size;omega) (hv.below (hW.mono hB) (aN _)) (hr.below hW));have Kk:=ae (λ(hm:t.size<=1000000)W(hW:Below w.heap.size w W)=>KX t B W _ _ _ (by have:=hW.size;omega) (hv.below (hW.mono hB) (aN _)) hm);have HR:=ae hr;have ed:=ae (Row.new w #[.int .i64 a0,.int .i64 b0,.slice A1 n1 c1] 90);have IK:=Row.lt hr;clear hv hr;by_cases hm:sS t=true
 ·have hsz:=(oA.1 hm).2;have HNO2:=ae (Kk (by omega));clear Kk;by_cases hn:dB a.ay a.nl a.ng t=true
  ·rw[show bS a.ay a.nl a.ng n t=(decide (n+t.size<=8000),n+t.size)from by unfold bS;rw[if_pos ⟨hm,hn⟩]];rw[hm]at HM;rw[hn]at HN;have hwr:IntKind.i64.wrap (n+(t.size:Int))=n+(t.size:Int):=IntWalk.i64_in _ (by omega);clear hm hn;go_enter func74,ntmps74;refine ak λQ HQ=>?_;go_wp2_with fail;refine(HM _ (aj _ _)).mono ?_;rintro e w1 ⟨rfl,hb1⟩;have bn:=ae ((aj w (.cells #[.int .i64 a0,.int .i64 b0,.slice A1 n1 c1] 90)).trans (hb1.mono (aj w (.cells #[.int .i64 a0,.int .i64 b0,.slice A1 n1 c1] 90)).size));have aV:=ed.below hb1 ed.lt;have m8:=ae aV;have x0:=aV.cell (j:=0) rfl;have x1:=aV.cell (j:=1) rfl;have x2:=aV.cell (j:=2) rfl;have xl:=aV.lt;clear hb1 aV;go_wp2_with fail;refine(HN _ bn.out).mono ?_
   rintro e w2 ⟨rfl,hb2⟩;have bL:=ae (bn.trans (hb2.mono bn.size));have i9:=m8.below hb2 m8.lt;have xX:=ae i9;have y0:=i9.cell (j:=0) rfl;have y1:=i9.cell (j:=1) rfl;have y2:=i9.cell (j:=2) rfl;have yl:=i9.lt;have hr2:=HR.below bL.out;have jX:=ae hr2;have n7:w2.cell? ⟨ab,7,none⟩=some (.int .i64 n):=Row.cell hr2 rfl;have f7:w2.frozen? ⟨ab,7,none⟩=false:=Row.free hr2 7;have l7:=Row.lt hr2;clear hb2 i9 hr2 x0 x1 x2 xl;go_wp2_with fail;have HNA:=ae (HNO2.out w2.drew bL.drew);refine Code.wp_mono (λe a w h=>G8 HQ.out h) ?_
   go_region_with (go_at_call 96;refine HNA.mono ?_;rintro e w3 ⟨rfl,hb3⟩;have hr3:=jX.below ((bI _ _).drew.trans hb3);have n7:w3.cell? ⟨ab,7,none⟩=some (.int .i64 n):=Row.cell hr3 rfl;have f7:w3.frozen? ⟨ab,7,none⟩=false:=Row.free hr3 7;have l7:=Row.lt hr3)
   all_goals(have lZ:=ae ((Wr.of_below (F:=λk=>k=ab) (bL.trans (((bI _ _).drew.trans hb3).mono bL.size))).trans (Wr.setCell (F:=λk=>k=ab) w3 ⟨ab,7,none⟩ (.int .i64 (n+(t.size:Int))) rfl) (λ_ h=>aH h)))
   all_goals(have SR:=ae (show ry (w3.setCell ⟨ab,7,none⟩ (.int .i64 (n+(t.size:Int)))) ab a (n+t.size)from Row.set hr3 7 _))
   all_goals(clear hb3 hr3)
   all_goals(go_wp2_with fail)
   all_goals(refine HQ _ _ _ ?_)
   all_goals(exact aR (v:= .bool (decide (n+(t.size:Int)<=8000))) (by simp[results,results74,go_sem]) rfl ⟨rfl,SR.out,lZ.out⟩)
  ·have GM:dB a.ay a.nl a.ng t=false:=by simpa using hn
   rw[show bS a.ay a.nl a.ng n t=(false,n)from by unfold bS;rw[if_neg (λh=>hn h.2)]];rw[hm]at HM;rw[GM]at HN;clear hm hn GM;go_enter func74,ntmps74;refine ak λQ HQ=>?_;go_wp2_with fail;refine(HM _ (aj _ _)).mono ?_;rintro e w1 ⟨rfl,hb1⟩;have bn:=ae ((aj w (.cells #[.int .i64 a0,.int .i64 b0,.slice A1 n1 c1] 90)).trans (hb1.mono (aj w (.cells #[.int .i64 a0,.int .i64 b0,.slice A1 n1 c1] 90)).size));have aV:=ed.below hb1 ed.lt;have m8:=ae aV;have x0:=aV.cell (j:=0) rfl;have x1:=aV.cell (j:=1) rfl;have x2:=aV.cell (j:=2) rfl;have xl:=aV.lt;clear hb1 aV;go_wp2_with fail;refine(HN _ bn.out).mono ?_;rintro e w2 ⟨rfl,hb2⟩;have bL:=ae (bn.trans (hb2.mono bn.size));have i9:=m8.below hb2 m8.lt
   have xX:=ae i9;have y0:=i9.cell (j:=0) rfl;have y1:=i9.cell (j:=1) rfl;have y2:=i9.cell (j:=2) rfl;have yl:=i9.lt;have hr2:=HR.below bL.out;have jX:=ae hr2;have n7:w2.cell? ⟨ab,7,none⟩=some (.int .i64 n):=Row.cell hr2 rfl;have f7:w2.frozen? ⟨ab,7,none⟩=false:=Row.free hr2 7;have l7:=Row.lt hr2;clear hb2 i9 hr2 x0 x1 x2 xl;go_wp2_with fail;refine HQ _ _ _ ?_;exact aR (v:= .bool false) (by simp[results,results74,go_sem]) rfl ⟨rfl,HR.below bL.out,Wr.of_below bL.out⟩
 ·have P9:sS t=false:=by simpa using hm
  rw[show bS a.ay a.nl a.ng n t=(false,n)from by unfold bS;rw[if_neg (λh=>hm h.1)]];rw[P9]at HM;clear hm P9;go_enter func74,ntmps74;refine ak λQ HQ=>?_;go_wp2_with fail;refine(HM _ (aj _ _)).mono ?_;rintro e w1 ⟨rfl,hb1⟩;have bn:=ae ((aj w (.cells #[.int .i64 a0,.int .i64 b0,.slice A1 n1 c1] 90)).trans (hb1.mono (aj w (.cells #[.int .i64 a0,.int .i64 b0,.slice A1 n1 c1] 90)).size));have aV:=ed.below hb1 ed.lt;have m8:=ae aV;have x0:=aV.cell (j:=0) rfl;have x1:=aV.cell (j:=1) rfl;have x2:=aV.cell (j:=2) rfl;have xl:=aV.lt;clear hb1 aV;go_wp2_with fail;refine HQ _ _ _ ?_;exact aR (v:= .bool false) (by simp[results,results74,go_sem]) rfl ⟨rfl,HR.below bn.out,Wr.of_below bn.out⟩
def rW:T->Bool
 | .node op x ks=>decide (op=0/\x=0/\ks.length=0)
theorem LG(t:T)(B:Nat)(w:World)(v0 v1 v2:Value)(hv:aX w (dP B) t v0 v1 v2):
  Calls prog 75 #[.agg #[v0,v1,v2]] w λe w'=>e= .returned (.bool (rW t))/\Below w.heap.size w w':=by
 obtain⟨op,x,ks⟩:=t;obtain⟨A,aA,len,rfl,rfl,_,_,rfl,hk⟩:=bC.gI hv;have hl:=hk.1;have Lm:=hk.2.1;rw[show rW (.node op x ks)=decide (op=0/\x=0/\len=0)from by simp[rW,hl]];clear hv hk hl;by_cases h0:op=0
 ·subst h0;by_cases h1:x=0
  ·subst h1;by_cases h2:len=0
   ·subst h2;go_enter func75,ntmps75;go_wp2;go_ret;exact⟨eO (by simp),aj _ _⟩
   ·have e:((len:Int)==0)=false:=by simp;omega
    go_enter func75,ntmps75;go_wp2;go_ret;exact⟨eO (by simp[h2]),aj _ _⟩
  ·have e:(x==0)=false:=by simpa using h1
   go_enter func75,ntmps75;go_wp2;go_ret;exact⟨eO (by simp[h1]),aj _ _⟩
 ·have e:(op==0)=false:=by simpa using h0
  go_enter func75,ntmps75;go_wp2;go_ret;exact⟨eO (by simp[h0]),aj _ _⟩
def eM(p:aM)(x:cM):Int×Bool×Bool:=
 if x.op=1 then(1,true,true)else if x.op=2 then(2,false,nG x.size)
 else if x.op=3 then(if 0<=x.fn/\x.fn<p.funcs.length then((p.funcs.getD x.fn.toNat jv).params,x.to != -1,true)else(0,false,false))
 else if x.op=4\/x.op=6 then(1,false,true)else if x.op=5 then(0,true,true)else(0,false,false)
structure BK (w:World) (B:Nat) (a:oM) (p:aM) (g:aP):Prop where
 ng:a.ng=p.ax.length
 fns:aL w B 4 (dV w B) p.funcs (.slice a.fa a.nf a.fc)
 ay:a.ay=g.ay
 nl:a.nl=g.az.length
 nb:a.nb=g.blocks.length
theorem BK.below{w w':World}{B:Nat}{a:oM}{p:aM}{g:aP}(h:BK w B a p g)(hb:Below B w w'):BK w' B a p g:=
 ⟨h.ng,h.fns.below hb (aN _) (λ_ _ h=>h.below hb (aN _)),h.ay,h.nl,h.nb⟩
def Da(r:Int×Bool×Bool)(w:World)(e:Ending)(w':World):Prop:=e= .returned (.tuple #[.int .i64 r.1,.bool r.2.1,.bool r.2.2])/\Below w.heap.size w w'
theorem IV(a:oM)(ab:Nat)(n:Int)(p:aM)(g:aP)(x:cM)(A:Option Addr)(kn kc:Nat)(B:Nat)(w:World)(hB:B<=w.heap.size)(ha:BK w B a p g)(hr:ry w ab a n)(hfn:bz x.fn):
  Calls prog 73 #[.pointer (some ⟨ab,0,none⟩),.agg #[.int .i64 x.op,.int .i64 x.to,.int .i64 x.size,.int .i64 x.fn,.slice A kn kc]] w λe w'=>Da (eM p x) w e w':=by
 obtain⟨op,to,size,fn,ks⟩:=x;simp only at hfn ⊢;have xg:=ha.fns.len;have r1:w.cell? ⟨ab,1,none⟩=some (.slice a.fa a.nf a.fc):=Row.cell hr rfl;have N2:=Row.lt hr;have Q7:ab<w.heap.size+1:=by omega
 have HS:=ae (λW=>CY size W);have zX:=ae (λW=>cQ fn (a.nf:Nat) W);have HA:=ae ha;clear ha hr;have h:op=1\/op=2\/op=3\/op=4\/op=6\/op=5\/(op≠1/\op≠2/\op≠3/\op≠4/\op≠6/\op≠5):=by omega
 rcases h with rfl|rfl|rfl|rfl|rfl|rfl|⟨h1,h2,h3,h4,h6,h5⟩
 ·rw[show eM p ⟨1,to,size,fn,ks⟩=(1,true,true)from by simp[eM]];go_enter func73,ntmps73;go_wp2_with fail;exact aR (v:= .tuple #[.int .i64 1,.bool true,.bool true]) (by simp[results,results73,go_sem]) rfl ⟨rfl,aj _ _⟩
 ·rw[show eM p ⟨2,to,size,fn,ks⟩=(2,false,nG size)from by simp[eM]];go_enter func73,ntmps73;go_wp2_with fail;refine(HS _).mono ?_;rintro e w' ⟨rfl,rfl⟩;go_wp2_with fail;exact aR (v:= .tuple #[.int .i64 2,.bool false,.bool (nG size)]) (by simp[results,results73,go_sem]) rfl ⟨rfl,aj _ _⟩
 ·by_cases gZ:0<=fn/\fn<(a.nf:Int)
  ·obtain⟨f,rfl⟩:=Int.eq_ofNat_of_zero_le gZ.1;have tq:f<a.nf:=by omega
   obtain⟨b,off,g',hA,hb,iU,g0,_⟩:=HA.fns.get tq;simp only[Nat.add_zero]at g0;rw[show eM p ⟨3,to,size,(f:Int),ks⟩=(g'.params,to != -1,true)from by
    unfold eM;rw[if_neg (show¬(3:Int)=1 by decide),if_neg (show¬(3:Int)=2 by decide),if_pos rfl,if_pos (show 0<=(f:Int)/\(f:Int)<(p.funcs.length:Int)from⟨by omega,by omega⟩),Int.toNat_natCast,List.getD_eq_getElem?_getD,iU,Option.getD_some]]
   have gU:=ae (show∀W,Calls prog 38 #[.int .i64 (f:Int),.int .i64 (a.nf:Nat)] W λe w'=>e= .returned (.bool true)/\W=w' from λW=>by have:=zX.out W;rwa [decide_eq_true gZ]at this);rw[hA]at r1;have hbl:b<w.heap.size:=by omega
   have hfi:(f:Int)<(a.nf:Int):=by omega
   clear gZ iU hA;go_enter func73,ntmps73;go_wp2_with fail;go_quiet ((go_at_call 38;exact Calls.quiet_of_same ((gU _).mono λ_ _ h=>⟨h.1,h.2.symm⟩)));go_wp2_with fail;go_region;go_wp2_with fail;exact aR (v:= .tuple #[.int .i64 g'.params,.bool (to != -1),.bool true]) (by simp[results,results73,go_sem]) rfl ⟨rfl,below_drewN (aj _ _) _⟩
  ·rw[show eM p ⟨3,to,size,fn,ks⟩=(0,false,false)from by
    unfold eM;rw[if_neg (show¬(3:Int)=1 by decide),if_neg (show¬(3:Int)=2 by decide),if_pos rfl,if_neg (show¬(0<=fn/\fn<(p.funcs.length:Int)) by omega)]]
   have gU:=ae (show∀W,Calls prog 38 #[.int .i64 fn,.int .i64 (a.nf:Nat)] W λe w'=>e= .returned (.bool false)/\W=w' from λW=>by have:=zX.out W;rwa [decide_eq_false gZ]at this);clear gZ;go_enter func73,ntmps73;go_wp2_with fail;go_quiet ((go_at_call 38;exact Calls.quiet_of_same ((gU _).mono λ_ _ h=>⟨h.1,h.2.symm⟩)));go_wp2_with fail;exact aR (v:= .tuple #[.int .i64 0,.bool false,.bool false]) (by simp[results,results73,go_sem]) rfl ⟨rfl,below_drewN (aj _ _) _⟩
 ·rw[show eM p ⟨4,to,size,fn,ks⟩=(1,false,true)from by simp[eM]];go_enter func73,ntmps73;go_wp2_with fail;exact aR (v:= .tuple #[.int .i64 1,.bool false,.bool true]) (by simp[results,results73,go_sem]) rfl ⟨rfl,aj _ _⟩
 ·rw[show eM p ⟨6,to,size,fn,ks⟩=(1,false,true)from by simp[eM]];go_enter func73,ntmps73;go_wp2_with fail;exact aR (v:= .tuple #[.int .i64 1,.bool false,.bool true]) (by simp[results,results73,go_sem]) rfl ⟨rfl,aj _ _⟩
 ·rw[show eM p ⟨5,to,size,fn,ks⟩=(0,true,true)from by simp[eM]];go_enter func73,ntmps73;go_wp2_with fail;exact aR (v:= .tuple #[.int .i64 0,.bool true,.bool true]) (by simp[results,results73,go_sem]) rfl ⟨rfl,aj _ _⟩
 ·rw[show eM p ⟨op,to,size,fn,ks⟩=(0,false,false)from by
   unfold eM;rw[if_neg h1,if_neg h2,if_neg h3,if_neg (show¬(op=4\/op=6) by omega),if_neg h5]]
  have e1:(op==1)=false:=by simpa using h1
  have e2:(op==2)=false:=by simpa using h2
  have e3:(op==3)=false:=by simpa using h3
  have e4:(op==4)=false:=by simpa using h4
  have e5:(op==5)=false:=by simpa using h5
  have e6:(op==6)=false:=by simpa using h6
  clear h1 h2 h3 h4 h5 h6;go_enter func73,ntmps73;go_wp2_with fail;exact aR (v:= .tuple #[.int .i64 0,.bool false,.bool false]) (by simp[results,results73,go_sem]) rfl ⟨rfl,aj _ _⟩
end Go.Proofs.YtikbdplllopjlaaGreat
