/- The page's asks of an instruction: small, op, EqIns. Conditions: as stated. -/
import Derived.Test.YtinmgbodgecoeaaGreatQ12Zz
set_option linter.unusedSimpArgs false
set_option linter.unusedVariables false
set_option maxHeartbeats 8000000
set_option maxRecDepth 100000
open Go.Proofs.Tryz
namespace Go.Proofs.YtinmgbodgecoeaaGreat
open Go.RowKit
theorem uG(n:Int)(w:World):Calls prog 57 #[.int .i64 n] w λe w'=>e= .returned (.bool (sK n))/\w=w':=by
 unfold sK;go_enter func57,ntmps57;go_wp2
 all_goals go_ret
 all_goals exact⟨iB (by rw[Bool.eq_iff_iff];simp;omega),rfl⟩
def pR(x:bg):Bool:=
 if x.op=5\/x.op=6 then decide (12<=x.n/\x.n<=30)else if x.op=7 then decide (31<=x.n/\x.n<=36)else if x.op=8 then decide (5<=x.n/\x.n<=11)
 else if x.op=9 then j3 x.n else if x.op=14\/x.op=15\/x.op=16 then decide (0<=x.n/\x.n<8000)else true
theorem fN(x:bg)(A:Option Addr)(c:Nat)(w:World):Calls prog 59 #[cH x A c] w λe w'=>e= .returned (.bool (pR x))/\Below w.heap.size w w':=by
 obtain⟨op,dst,a,b,n,arg⟩:=x;unfold cH;simp only;have HB:=ae (λW=>MQ n W);have HU:=ae (λW=>vS n W);have HL:=ae (λW=>rR n W);have HS:=ae (λW=>FK n W);have hn:decide (0<=n)=false\/(decide (0<=n)=true/\decide (n<100)=false)\/(decide (0<=n)=true/\decide (n<100)=true):=by cases decide (0<=n)<;>cases decide (n<100)<;>simp
 have hop:op=5\/op=6\/op=7\/op=8\/op=9\/op=14\/op=15\/op=16\/(op≠5/\op≠6/\op≠7/\op≠8/\op≠9/\op≠14/\op≠15/\op≠16):=by omega
 rcases hop with rfl|rfl|rfl|rfl|rfl|rfl|rfl|rfl|⟨h5,h6,h7,h8,h9,Bk,iC,mL⟩
 iterate 5 (
  ·rcases hn with h0|⟨h0,h1⟩|⟨h0,h1⟩
   iterate 2 (
    ·go_enter func59,ntmps59;go_wp2_with fail;go_ret;exact⟨iB (by simp at h0;(try simp at h1);simp[pR,j3];omega),ax _ _⟩)
   ·go_enter func59,ntmps59;go_wp2_with fail
    first|refine(HB _).mono ?_|refine(HU _).mono ?_|refine(HL _).mono ?_|refine(HS _).mono ?_
    rintro e w1 ⟨rfl,rfl⟩;go_wp2_with fail;go_ret;exact⟨iB (by simp[pR]),ax _ _⟩)
 iterate 3 (
  ·have hm:decide (0<=n)=false\/(decide (0<=n)=true/\decide (n<8000)=false)\/(decide (0<=n)=true/\decide (n<8000)=true):=by cases decide (0<=n)<;>cases decide (n<8000)<;>simp
   clear hn;rcases hm with h0|⟨h0,h1⟩|⟨h0,h1⟩
   all_goals
    go_enter func59,ntmps59;go_wp2_with fail;go_ret;exact⟨iB (by simp at h0;(try simp at h1);simp[pR];omega),ax _ _⟩)
 ·have HV:=ae (show pR ⟨op,dst,a,b,n,arg⟩=true from by simp[pR,h5,h6,h7,h8,h9,Bk,iC,mL]);rw[HV.out];have e5:(op==5)=false:=by simpa using h5
  have e6:(op==6)=false:=by simpa using h6
  have e7:(op==7)=false:=by simpa using h7
  have e8:(op==8)=false:=by simpa using h8
  have e9:(op==9)=false:=by simpa using h9
  have SK:(op==14)=false:=by simpa using Bk
  have Z8:(op==15)=false:=by simpa using iC
  have e16:(op==16)=false:=by simpa using mL
  clear h5 h6 h7 h8 h9 Bk iC mL hn;go_enter func59,ntmps59;go_wp2_with fail;go_ret;exact⟨rfl,ax _ _⟩
def p9(x y:bg):Bool:=decide (x.op=y.op)&& (decide (x.dst=y.dst)&& (decide (x.a=y.a)&& (decide (x.b=y.b)&& decide (x.n=y.n))))
theorem cD(x y:bg)(hxy:y.arg=x.arg)(A:Option Addr)(c B:Nat)(w:World)(hB:B<=w.heap.size)(hx:aD w B x.arg (.slice A x.arg.length c)):
  Calls prog 58 #[cH x A c,cH y A c] w λe w'=>e= .returned (.bool (p9 x y))/\Below w.heap.size w w':=by
 obtain⟨o1,d1,a1,b1,n1,arg⟩:=x;obtain⟨o2,d2,a2,b2,n2,WE⟩:=y;simp only at hxy hx;subst hxy;unfold cH;simp only;have hb2:=aB w (.cells #[.int .i64 o1,.int .i64 d1,.int .i64 a1,.int .i64 b1,.int .i64 n1,.slice A WE.length c] 94) (.cells #[.int .i64 o2,.int .i64 d2,.int .i64 a2,.int .i64 b2,.int .i64 n2,.slice A WE.length c] 94);have HE:=ae (wN WE A A c c B _ (by simp;omega) (hx.below (hb2.mono hB) (aY _)) (hx.below (hb2.mono hB) (aY _)));have bC:=ae hb2;have no:∀{p q:Int},¬p=q->(p==q)=false:=λh=>by simpa using h
 have fin:∀{u v:Bool},u=v->Ending.returned (.bool u)= .returned (.bool v):=λh=>by rw[h]
 clear hx hb2;by_cases h1:o1=o2
 ·subst h1;by_cases h2:d1=d2
  ·subst h2;by_cases h3:a1=a2
   ·subst h3;by_cases h4:b1=b2
    ·subst h4;by_cases h5:n1=n2
     ·subst h5;go_enter func58,ntmps58;go_wp2_with fail;refine HE.mono ?_;rintro e w1 ⟨rfl,hb1⟩;have HB:=ae (bC.trans (hb1.mono bC.size));clear hb1;go_wp2_with fail;go_ret;exact⟨fin (by simp[p9]),HB.out⟩
     ·have e:=no h5;have HH:=ae h5;clear h5;go_enter func58,ntmps58;go_wp2_with fail;go_ret;exact⟨fin (by simp[p9,HH.out]),bC.out⟩
    ·have e:=no h4;have HH:=ae h4;clear h4;go_enter func58,ntmps58;go_wp2_with fail;go_ret;exact⟨fin (by simp[p9,HH.out]),bC.out⟩
   ·have e:=no h3;have HH:=ae h3;clear h3;go_enter func58,ntmps58;go_wp2_with fail;go_ret;exact⟨fin (by simp[p9,HH.out]),bC.out⟩
  ·have e:=no h2;have HH:=ae h2;clear h2;go_enter func58,ntmps58;go_wp2_with fail;go_ret;exact⟨fin (by simp[p9,HH.out]),bC.out⟩
 ·have e:=no h1;have HH:=ae h1;clear h1;go_enter func58,ntmps58;go_wp2_with fail;go_ret;exact⟨fin (by simp[p9,HH.out]),bC.out⟩
end Go.Proofs.YtinmgbodgecoeaaGreat
