/- The walks of the page's ops of one and of two numbers. No condition but those stated. -/
import Derived.Test.YtlenilbkifofjaaGreatDoorQ01Zz
import Derived.Lib.Hide
set_option linter.unusedVariables false
set_option linter.unusedSimpArgs false
set_option maxHeartbeats 8000000
set_option maxRecDepth 100000
namespace Go.Proofs.YtlenilbkifofjaaGreatDoor
open Go.RowKit
theorem truth_any(t:Bool)(w:World):
  Calls Tryz.prog 88 #[.bool t] w fun e w'=>e= .returned (.int .i64 (tru t))∧w=w':=by
 cases t
 all_goals
  go_enter Tryz.func88,Tryz.ntmps88;go_wp2;go_ret;exact⟨rfl,rfl⟩
theorem isBin_any(op:Int)(w:World):
  Calls Tryz.prog 60 #[.int .i64 op] w fun e w'=>e= .returned (.bool (decide (12≤op∧op≤30)))∧w=w':=by
 go_enter Tryz.func60,Tryz.ntmps60;go_wp2
 all_goals go_ret
 ·exact⟨ret_b (by simp[*]),rfl⟩
 ·exact⟨ret_b (by simp;omega),rfl⟩
theorem u64_zero(b:Int)(h0:-9223372036854775808≤b)(h1:b≤9223372036854775807)(h:b≠0):¬IntKind.u64.wrap b=0:=by
 rw[IntKind.wrap_u64];omega
theorem tmod_m1(a:Int):a.tmod (-1)=0:=by
 rw[Int.tmod_neg];simp
theorem refBin_plain(op a b:Int)(w:World)(h:op=12∨op=13∨op=14∨op=19∨op=20∨op=21∨op=22∨op=23∨op=24∨op=25∨op=26∨op=27∨op=28∨op=29∨op=30):
  Calls Tryz.prog 71 #[.int .i64 op,.int .i64 a,.int .i64 b] w fun e w'=>e= .returned (.int .i64 (twoR op a b))∧w=w':=by
 rcases h with rfl|rfl|rfl|rfl|rfl|rfl|rfl|rfl|rfl|rfl|rfl|rfl|rfl|rfl|rfl
 all_goals
  have hb:=by_bd b;go_enter Tryz.func71,Tryz.ntmps71;go_wp2_with(first
   |(go_at_call 88;refine(truth_any _ _).mono ?_;rintro e w' ⟨rfl,rfl⟩))
  go_ret;exact⟨ret_i (by simp[twoR,byR,isDiv,cmpR]),rfl⟩
theorem wrap_u64_back(a:Int)(h0:-9223372036854775808≤a)(h1:a≤9223372036854775807):wrap64 (IntKind.u64.wrap a)=a:=by
 rw[IntKind.wrap_u64];unfold wrap64;omega
theorem u64_of_zero:IntKind.u64.wrap 0=0:=by decide
theorem two15z(a:Int):twoR 15 a 0= -1:=by simp[twoR,isDiv,divR,partsQ]
theorem two16z(a:Int):twoR 16 a 0= -1:=by simp[twoR,isDiv,divR,wholeQ,u64_of_zero]
theorem two17z(a:Int):twoR 17 a 0=a:=by simp[twoR,isDiv,divR,partsR]
theorem two18z(a:Int)(h0:-9223372036854775808≤a)(h1:a≤9223372036854775807):twoR 18 a 0=a:=by simp[twoR,isDiv,divR,wholeR,u64_of_zero,wrap_u64_back a h0 h1]
theorem two15m(a:Int)(h:a= -9223372036854775808):twoR 15 a (-1)=a:=by simp[twoR,isDiv,divR,partsQ,h]
theorem two15n(a:Int)(h:¬a= -9223372036854775808):twoR 15 a (-1)=wrap64 (-a):=by simp[twoR,isDiv,divR,partsQ,h]
theorem two17m(a:Int):twoR 17 a (-1)=0:=by
 have h:=tmod_m1 a;simp[twoR,isDiv,divR,partsR,h]
theorem refBin_zero(op a:Int)(w:World)(h0:-9223372036854775808≤a)(h1:a≤9223372036854775807)(h:op=15∨op=16∨op=17∨op=18):
  Calls Tryz.prog 71 #[.int .i64 op,.int .i64 a,.int .i64 0] w fun e w'=>e= .returned (.int .i64 (twoR op a 0))∧w=w':=by
 rcases h with rfl|rfl|rfl|rfl
 all_goals
  go_enter Tryz.func71,Tryz.ntmps71;go_wp2;go_ret
 ·exact⟨ret_i (two15z a).symm,rfl⟩
 ·exact⟨ret_i (two16z a).symm,rfl⟩
 ·exact⟨ret_i (two17z a).symm,rfl⟩
 ·exact⟨ret_i (two18z a h0 h1).symm,rfl⟩
theorem refBin_m1(op a:Int)(w:World)(h:op=15∨op=17):
  Calls Tryz.prog 71 #[.int .i64 op,.int .i64 a,.int .i64 (-1)] w fun e w'=>e= .returned (.int .i64 (twoR op a (-1)))∧w=w':=by
 rcases h with rfl|rfl
 ·by_cases ha:a= -9223372036854775808
  ·have ha':(a== -9223372036854775808)=true:=by simpa using ha
   have H:=Lib.hid (two15m a ha);clear ha;go_enter Tryz.func71,Tryz.ntmps71;go_wp2;go_ret;exact⟨ret_i H.out.symm,rfl⟩
  ·have ha':(a== -9223372036854775808)=false:=by simpa using ha
   have H:=Lib.hid (two15n a ha);clear ha;go_enter Tryz.func71,Tryz.ntmps71;go_wp2;go_ret;exact⟨ret_i H.out.symm,rfl⟩
 ·go_enter Tryz.func71,Tryz.ntmps71;go_wp2;go_ret;exact⟨ret_i (two17m a).symm,rfl⟩
theorem refBin_div(op a b:Int)(w:World)(h:op=15∨op=17)(hz:¬b=0)(hm:¬b= -1):
  Calls Tryz.prog 71 #[.int .i64 op,.int .i64 a,.int .i64 b] w fun e w'=>e= .returned (.int .i64 (twoR op a b))∧w=w':=by
 have hz':(b==0)=false:=by simpa using hz
 have hm':(b== -1)=false:=by simpa using hm
 rcases h with rfl|rfl
 all_goals
  go_enter Tryz.func71,Tryz.ntmps71;go_wp2;go_ret;exact⟨ret_i (by simp[twoR,isDiv,divR,partsQ,partsR,hz,hm]),rfl⟩
theorem refBin_divU(op a b:Int)(w:World)(h:op=16∨op=18)(hz:¬b=0)(hu:¬IntKind.u64.wrap b=0):
  Calls Tryz.prog 71 #[.int .i64 op,.int .i64 a,.int .i64 b] w fun e w'=>e= .returned (.int .i64 (twoR op a b))∧w=w':=by
 have hz':(b==0)=false:=by simpa using hz
 have hp:=u64_pos a;rcases h with rfl|rfl
 all_goals
  go_enter Tryz.func71,Tryz.ntmps71;go_wp2;go_ret;exact⟨ret_i (by simp[twoR,isDiv,divR,wholeQ,wholeR,hu]),rfl⟩
theorem refBin_any(op a b:Int)(w:World)(h0:12≤op)(h1:op≤30)(ha0:-9223372036854775808≤a)(ha1:a≤9223372036854775807)(hb0:-9223372036854775808≤b)(hb1:b≤9223372036854775807):
  Calls Tryz.prog 71 #[.int .i64 op,.int .i64 a,.int .i64 b] w fun e w'=>e= .returned (.int .i64 (twoR op a b))∧w=w':=by
 by_cases hp:op=15∨op=16∨op=17∨op=18
 ·by_cases hz:b=0
  ·subst hz;exact refBin_zero op a w ha0 ha1 hp
  ·by_cases ho:op=15∨op=17
   ·by_cases hm:b= -1
    ·subst hm;exact refBin_m1 op a w ho
    ·exact refBin_div op a b w ho hz hm
   ·exact refBin_divU op a b w (by omega) hz (u64_zero b hb0 hb1 hz)
 ·exact refBin_plain op a b w (by omega)
theorem refcut_any(n bits:Int)(s:Bool)(w:World)(hb:bits=8∨bits=16∨bits=32):
  Calls Tryz.prog 55 #[.int .i64 n,.int .i64 bits,.bool s] w fun e w'=>e= .returned (.int .i64 (cutN bits s n))∧w=w':=by
 have h8:=and_8 n;have h16:=and_16 n;have h32:=and_32 n;rcases hb with rfl|rfl|rfl<;>cases s
 all_goals
  go_enter Tryz.func55,Tryz.ntmps55;go_wp2
  all_goals go_ret
  all_goals refine⟨ret_i ?_,rfl⟩
 ·exact(cutN_8f n).symm
 ·rw[cutN_8];exact sx8_yes n (by simp_all)
 ·rw[cutN_8,←sx8_no n (by simp_all),zx8]
 ·exact(cutN_16f n).symm
 ·rw[cutN_16];exact sx16_yes n (by simp_all)
 ·rw[cutN_16,←sx16_no n (by simp_all),zx16]
 ·exact(cutN_32f n).symm
 ·rw[cutN_32];exact sx32_yes n (by simp_all)
 ·rw[cutN_32,←sx32_no n (by simp_all),zx32]
theorem isUn_any(op:Int)(w:World):
  Calls Tryz.prog 61 #[.int .i64 op] w fun e w'=>e= .returned (.bool (decide (31≤op∧op≤36)))∧w=w':=by
 go_enter Tryz.func61,Tryz.ntmps61;go_wp2
 all_goals go_ret
 ·exact⟨ret_b (by simp[*]),rfl⟩
 ·exact⟨ret_b (by simp;omega),rfl⟩
theorem refUn_any(op n:Int)(w:World)(h0:31≤op)(h1:op≤36):
  Calls Tryz.prog 75 #[.int .i64 op,.int .i64 n] w fun e w'=>e= .returned (.int .i64 (unR op n))∧w=w':=by
 have h:op=31∨op=32∨op=33∨op=34∨op=35∨op=36:=by omega
 rcases h with rfl|rfl|rfl|rfl|rfl|rfl
 all_goals
  go_enter Tryz.func75,Tryz.ntmps75;go_wp2_with(go_at_call 55;refine(refcut_any _ _ _ _ (by decide)).mono ?_;rintro e w' ⟨rfl,rfl⟩);go_ret;exact⟨ret_i (by simp[unR]),rfl⟩
end Go.Proofs.YtlenilbkifofjaaGreatDoor
