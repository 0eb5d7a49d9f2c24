/- The page's asks of an instruction: small, op, EqIns. Conditions: as stated. -/
import Derived.Test.YtlenilbkifofjaaGreatDoorQ05Zz
import Derived.Test.YtlenilbkifofjaaGreatDoorQ02Zz
import Derived.Test.YtlenilbkifofjaaGreatDoorMemLdZz
import Derived.Test.YtlenilbkifofjaaGreatDoorQ06Zz
set_option linter.unusedVariables false
set_option linter.unusedSimpArgs false
set_option maxHeartbeats 8000000
set_option maxRecDepth 100000
namespace Go.Proofs.YtlenilbkifofjaaGreatDoor
open Go.RowKit
theorem rsmall_any(n:Int)(w:World):Calls Tryz.prog 40 #[.int .i64 n] w fun e w'=>e= .returned (.bool (immB n))∧w=w':=by
 unfold immB;go_enter Tryz.func40,Tryz.ntmps40;go_wp2
 all_goals go_ret
 all_goals exact⟨ret_b (by rw[Bool.eq_iff_iff];simp;omega),rfl⟩
def opR(x:InsS):Bool:=
 if x.op=5∨x.op=6 then decide (12≤x.n∧x.n≤30)else if x.op=7 then decide (31≤x.n∧x.n≤36)else if x.op=8 then decide (5≤x.n∧x.n≤11)
 else if x.op=9 then sizeB x.n else if x.op=14∨x.op=15∨x.op=16 then decide (0≤x.n∧x.n<8000)else true
theorem rop_any(x:InsS)(A:Option Addr)(c:Nat)(w:World):Calls Tryz.prog 42 #[insV x A c] w fun e w'=>e= .returned (.bool (opR x))∧Below w.heap.size w w':=by
 obtain⟨op,dst,a,b,n,arg⟩:=x;unfold insV;simp only;have HB:=Lib.hid (fun W=>isBin_any n W);have HU:=Lib.hid (fun W=>isUn_any n W);have HL:=Lib.hid (fun W=>isLoad_any n W);have HS:=Lib.hid (fun W=>size_any n W);have hn:decide (0≤n)=false∨(decide (0≤n)=true∧decide (n<100)=false)∨(decide (0≤n)=true∧decide (n<100)=true):=by cases decide (0≤n)<;>cases decide (n<100)<;>simp
 have hop:op=5∨op=6∨op=7∨op=8∨op=9∨op=14∨op=15∨op=16∨(op≠5∧op≠6∧op≠7∧op≠8∧op≠9∧op≠14∧op≠15∧op≠16):=by omega
 rcases hop with rfl|rfl|rfl|rfl|rfl|rfl|rfl|rfl|⟨h5,h6,h7,h8,h9,h14,h15,h16⟩
 iterate 5 (
  ·rcases hn with h0|⟨h0,h1⟩|⟨h0,h1⟩
   iterate 2 (
    ·go_enter Tryz.func42,Tryz.ntmps42;go_wp2_with fail;go_ret;exact⟨ret_b (by simp at h0;(try simp at h1);simp[opR,sizeB];omega),below1 _ _⟩)
   ·go_enter Tryz.func42,Tryz.ntmps42;go_wp2_with fail
    first|refine(HB.out _).mono ?_|refine(HU.out _).mono ?_|refine(HL.out _).mono ?_|refine(HS.out _).mono ?_
    rintro e w1 ⟨rfl,rfl⟩;go_wp2_with fail;go_ret;exact⟨ret_b (by simp[opR]),below1 _ _⟩)
 iterate 3 (
  ·have hm:decide (0≤n)=false∨(decide (0≤n)=true∧decide (n<8000)=false)∨(decide (0≤n)=true∧decide (n<8000)=true):=by cases decide (0≤n)<;>cases decide (n<8000)<;>simp
   clear hn;rcases hm with h0|⟨h0,h1⟩|⟨h0,h1⟩
   all_goals
    go_enter Tryz.func42,Tryz.ntmps42;go_wp2_with fail;go_ret;exact⟨ret_b (by simp at h0;(try simp at h1);simp[opR];omega),below1 _ _⟩)
 ·have HV:=Lib.hid (show opR ⟨op,dst,a,b,n,arg⟩=true from by simp[opR,h5,h6,h7,h8,h9,h14,h15,h16]);rw[HV.out];have e5:(op==5)=false:=by simpa using h5
  have e6:(op==6)=false:=by simpa using h6
  have e7:(op==7)=false:=by simpa using h7
  have e8:(op==8)=false:=by simpa using h8
  have e9:(op==9)=false:=by simpa using h9
  have e14:(op==14)=false:=by simpa using h14
  have e15:(op==15)=false:=by simpa using h15
  have e16:(op==16)=false:=by simpa using h16
  clear h5 h6 h7 h8 h9 h14 h15 h16 hn;go_enter Tryz.func42,Tryz.ntmps42;go_wp2_with fail;go_ret;exact⟨rfl,below1 _ _⟩
def eqI(x y:InsS):Bool:=decide (x.op=y.op)&& (decide (x.dst=y.dst)&& (decide (x.a=y.a)&& (decide (x.b=y.b)&& decide (x.n=y.n))))
theorem reqins_any(x y:InsS)(hxy:y.arg=x.arg)(A:Option Addr)(c B:Nat)(w:World)(hB:B≤w.heap.size)(hx:LongsAt w B x.arg (.slice A x.arg.length c)):
  Calls Tryz.prog 41 #[insV x A c,insV y A c] w fun e w'=>e= .returned (.bool (eqI x y))∧Below w.heap.size w w':=by
 obtain⟨o1,d1,a1,b1,n1,arg⟩:=x;obtain⟨o2,d2,a2,b2,n2,arg2⟩:=y;simp only at hxy hx;subst hxy;unfold insV;simp only;have hb2:=below2 w (.cells #[.int .i64 o1,.int .i64 d1,.int .i64 a1,.int .i64 b1,.int .i64 n1,.slice A arg2.length c] 43) (.cells #[.int .i64 o2,.int .i64 d2,.int .i64 a2,.int .i64 b2,.int .i64 n2,.slice A arg2.length c] 43);have HE:=Lib.hid (eqNumbers_at arg2 A A c c B _ (by simp;omega) (hx.below (hb2.mono hB) (Nat.le_refl _)) (hx.below (hb2.mono hB) (Nat.le_refl _)));have HB2:=Lib.hid hb2;have no:∀{p q:Int},¬p=q→(p==q)=false:=fun h=>by simpa using h
 have fin:∀{u v:Bool},u=v→Ending.returned (.bool u)= .returned (.bool v):=fun h=>by rw[h]
 clear hx hb2;by_cases h1:o1=o2
 ·subst h1;by_cases h2:d1=d2
  ·subst h2;by_cases h3:a1=a2
   ·subst h3;by_cases h4:b1=b2
    ·subst h4;by_cases h5:n1=n2
     ·subst h5;go_enter Tryz.func41,Tryz.ntmps41;go_wp2_with fail;refine HE.out.mono ?_;rintro e w1 ⟨rfl,hb1⟩;have HB:=Lib.hid (HB2.out.trans (hb1.mono HB2.out.size));clear hb1;go_wp2_with fail;go_ret;exact⟨fin (by simp[eqI]),HB.out⟩
     ·have e:=no h5;have HH:=Lib.hid h5;clear h5;go_enter Tryz.func41,Tryz.ntmps41;go_wp2_with fail;go_ret;exact⟨fin (by simp[eqI,HH.out]),HB2.out⟩
    ·have e:=no h4;have HH:=Lib.hid h4;clear h4;go_enter Tryz.func41,Tryz.ntmps41;go_wp2_with fail;go_ret;exact⟨fin (by simp[eqI,HH.out]),HB2.out⟩
   ·have e:=no h3;have HH:=Lib.hid h3;clear h3;go_enter Tryz.func41,Tryz.ntmps41;go_wp2_with fail;go_ret;exact⟨fin (by simp[eqI,HH.out]),HB2.out⟩
  ·have e:=no h2;have HH:=Lib.hid h2;clear h2;go_enter Tryz.func41,Tryz.ntmps41;go_wp2_with fail;go_ret;exact⟨fin (by simp[eqI,HH.out]),HB2.out⟩
 ·have e:=no h1;have HH:=Lib.hid h1;clear h1;go_enter Tryz.func41,Tryz.ntmps41;go_wp2_with fail;go_ret;exact⟨fin (by simp[eqI,HH.out]),HB2.out⟩
end Go.Proofs.YtlenilbkifofjaaGreatDoor
