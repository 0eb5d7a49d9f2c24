/- virt's checks: an instruction's number. Conditions: as stated. -/
import Derived.Test.YtinmgbodgecoeaaGreatVAskCZz
set_option linter.unusedSimpArgs false
set_option linter.unusedVariables false
set_option maxHeartbeats 8000000
set_option maxRecDepth 100000
open Go.Proofs.Tryz
namespace Go.Proofs.YtinmgbodgecoeaaGreat
open Go.RowKit
def cG:Int->Int->Bool:=λ_ _=>false
def bA(PQ:Bool->World->Prop)(c:aR)(ng nf:Int)(x:bg)(w:World)(e:Ending)(w':World):Prop:=
 ∃b,e= .returned (.bool b)/\(x.op=10/\sB c nf x=true/\PQ b w'\/¬(x.op=10/\sB c nf x=true)/\b=aH c ng nf cG x/\Below w.heap.size w w')
theorem bA.plain{PQ:Bool->World->Prop}{c:aR}{ng nf:Int}{x:bg}{w w':World}{b:Bool}(h10:x.op≠10)(hb:aH c ng nf cG x=b)(hw:Below w.heap.size w w'):bA PQ c ng nf x w (.returned (.bool b)) w':=
 ⟨b,rfl,bu ⟨λh=>h10 h.1,hb.symm,hw⟩⟩
theorem size_le{n:Int}(h:j3 n=true):n<=8:=by simp[j3]at h;omega
theorem xK(c:aR)(ng nf dst a b n:Int)(arg:List Int):aH c ng nf cG ⟨3,dst,a,b,n,arg⟩=(decide (0<=n/\n<c.az.length)):=by simp[aH]
theorem xJ(c:aR)(ng nf dst a b n:Int)(arg:List Int):aH c ng nf cG ⟨4,dst,a,b,n,arg⟩=(decide (0<=n/\n<ng)):=by simp[aH]
theorem xI(c:aR)(ng nf dst a b n:Int)(arg:List Int):aH c ng nf cG ⟨5,dst,a,b,n,arg⟩=(decide (12<=n/\n<=30)):=by simp[aH]
theorem ry(c:aR)(ng nf dst a b n:Int)(arg:List Int):aH c ng nf cG ⟨6,dst,a,b,n,arg⟩=(decide (12<=n/\n<=30)&& (decide (arg.length=1)&& sK (arg.getD 0 0))):=by simp[aH]
theorem xH(c:aR)(ng nf dst a b n:Int)(arg:List Int):aH c ng nf cG ⟨7,dst,a,b,n,arg⟩=(decide (31<=n/\n<=36)):=by simp[aH]
theorem tR(c:aR)(ng nf dst a b n:Int)(arg:List Int):aH c ng nf cG ⟨8,dst,a,b,n,arg⟩=(decide (5<=n/\n<=11)&& sK b):=by simp[aH]
theorem tQ(c:aR)(ng nf dst a b n:Int)(arg:List Int):aH c ng nf cG ⟨9,dst,a,b,n,arg⟩=(j3 n && sK b):=by simp[aH]
theorem AU(c:aR)(ng nf dst a b n:Int)(arg:List Int):aH c ng nf cG ⟨15,dst,a,b,n,arg⟩=(dh c.ins n):=by simp[aH]
theorem AR(c:aR)(ng nf dst a b n:Int)(arg:List Int):aH c ng nf cG ⟨16,dst,a,b,n,arg⟩=(dh c.ins n):=by simp[aH]
theorem JP(c:aR)(ng nf dst a b n:Int)(arg:List Int):aH c ng nf cG ⟨10,dst,a,b,n,arg⟩=false:=by simp[aH,cG]
theorem Uh(PQ:Bool->World->Prop)(ab:Nat)(c:aR)(LA:Option Addr)(lc:Nat)(BA:Option Addr)(bc:Nat)(nf ng:Int)(pv mv:Value)(dst a b n:Int)(arg:List Int)(A:Option Addr)(aA B:Nat)(w:World)
  (h:tL w ab c LA lc BA bc nf ng pv mv):
  Calls prog 78 #[.pointer (some ⟨ab,0,.none⟩),cH ⟨3,dst,a,b,n,arg⟩ A aA] w λe w'=>bA PQ c ng nf ⟨3,dst,a,b,n,arg⟩ w e w':=by
 unfold cH;simp only;have r2:w.cell? ⟨ab,2,.none⟩=some (.slice LA c.az.length lc):=Row.cell h rfl;have rl:=Row.lt h;clear h;by_cases h0:0<=n
 ·have e0:decide (0<=n)=true:=by simpa using h0
  by_cases h1:n<(c.az.length:Int)
  ·have e1:decide (n<(c.az.length:Int))=true:=by simpa using h1
   have HV:=ae (show aH c ng nf cG ⟨3,dst,a,b,n,arg⟩=true from by rw[xK,decide_eq_true ⟨h0,h1⟩]);clear h0 h1;go_enter func78,ntmps78;refine aj λQ HQ=>?_;go_wp2_with fail;go_quiet (fail);go_wp2_with fail;refine HQ _ _ _ ?_;exact aS (v:= .bool true) (by simp[results,results78,go_sem]) rfl (bA.plain (show¬(3:Int)=10 by decide) HV (below_drewN (ax _ _) _))
  ·have e1:decide (n<(c.az.length:Int))=false:=by simpa using h1
   have HV:=ae (show aH c ng nf cG ⟨3,dst,a,b,n,arg⟩=false from by rw[xK,decide_eq_false (λh=>h1 h.2)]);clear h0 h1;go_enter func78,ntmps78;refine aj λQ HQ=>?_;go_wp2_with fail;go_quiet (fail);go_wp2_with fail;refine HQ _ _ _ ?_;exact aS (v:= .bool false) (by simp[results,results78,go_sem]) rfl (bA.plain (show¬(3:Int)=10 by decide) HV (below_drewN (ax _ _) _))
 ·have e0:decide (0<=n)=false:=by simpa using h0
  have HV:=ae (show aH c ng nf cG ⟨3,dst,a,b,n,arg⟩=false from by rw[xK,decide_eq_false (λh=>h0 h.1)]);clear h0;go_enter func78,ntmps78;refine aj λQ HQ=>?_;go_wp2_with fail;go_quiet (fail);go_wp2_with fail;refine HQ _ _ _ ?_;exact aS (v:= .bool false) (by simp[results,results78,go_sem]) rfl (bA.plain (show¬(3:Int)=10 by decide) HV (below_drewN (ax _ _) _))
theorem Ug(PQ:Bool->World->Prop)(ab:Nat)(c:aR)(LA:Option Addr)(lc:Nat)(BA:Option Addr)(bc:Nat)(nf ng:Int)(pv mv:Value)(dst a b n:Int)(arg:List Int)(A:Option Addr)(aA B:Nat)(w:World)
  (h:tL w ab c LA lc BA bc nf ng pv mv):
  Calls prog 78 #[.pointer (some ⟨ab,0,.none⟩),cH ⟨4,dst,a,b,n,arg⟩ A aA] w λe w'=>bA PQ c ng nf ⟨4,dst,a,b,n,arg⟩ w e w':=by
 unfold cH;simp only;have r5:w.cell? ⟨ab,5,.none⟩=some (.int .i64 ng):=Row.cell h rfl;have rl:=Row.lt h;clear h;by_cases h0:0<=n
 ·have e0:decide (0<=n)=true:=by simpa using h0
  by_cases h1:n<ng
  ·have e1:decide (n<ng)=true:=by simpa using h1
   have HV:=ae (show aH c ng nf cG ⟨4,dst,a,b,n,arg⟩=true from by rw[xJ,decide_eq_true ⟨h0,h1⟩]);clear h0 h1;go_enter func78,ntmps78;refine aj λQ HQ=>?_;go_wp2_with fail;go_quiet (fail);go_wp2_with fail;refine HQ _ _ _ ?_;exact aS (v:= .bool true) (by simp[results,results78,go_sem]) rfl (bA.plain (show¬(4:Int)=10 by decide) HV (below_drewN (ax _ _) _))
  ·have e1:decide (n<ng)=false:=by simpa using h1
   have HV:=ae (show aH c ng nf cG ⟨4,dst,a,b,n,arg⟩=false from by rw[xJ,decide_eq_false (λh=>h1 h.2)]);clear h0 h1;go_enter func78,ntmps78;refine aj λQ HQ=>?_;go_wp2_with fail;go_quiet (fail);go_wp2_with fail;refine HQ _ _ _ ?_;exact aS (v:= .bool false) (by simp[results,results78,go_sem]) rfl (bA.plain (show¬(4:Int)=10 by decide) HV (below_drewN (ax _ _) _))
 ·have e0:decide (0<=n)=false:=by simpa using h0
  have HV:=ae (show aH c ng nf cG ⟨4,dst,a,b,n,arg⟩=false from by rw[xJ,decide_eq_false (λh=>h0 h.1)]);clear h0;go_enter func78,ntmps78;refine aj λQ HQ=>?_;go_wp2_with fail;go_quiet (fail);go_wp2_with fail;refine HQ _ _ _ ?_;exact aS (v:= .bool false) (by simp[results,results78,go_sem]) rfl (bA.plain (show¬(4:Int)=10 by decide) HV (below_drewN (ax _ _) _))
theorem Uf(PQ:Bool->World->Prop)(ab:Nat)(c:aR)(LA:Option Addr)(lc:Nat)(BA:Option Addr)(bc:Nat)(nf ng:Int)(pv mv:Value)(dst a b n:Int)(arg:List Int)(A:Option Addr)(aA B:Nat)(w:World)
  (h:tL w ab c LA lc BA bc nf ng pv mv):
  Calls prog 78 #[.pointer (some ⟨ab,0,.none⟩),cH ⟨5,dst,a,b,n,arg⟩ A aA] w λe w'=>bA PQ c ng nf ⟨5,dst,a,b,n,arg⟩ w e w':=by
 unfold cH;simp only;clear h;have HG:=ae (yt n (w.alloc (.cells #[.int .i64 5,.int .i64 dst,.int .i64 a,.int .i64 b,.int .i64 n,.slice A arg.length aA] 94)));by_cases h0:n<=30
 ·have e0:decide (n<=30)=true:=by simpa using h0
  by_cases h1:12<=n/\n<=30
  ·rw[decide_eq_true h1]at HG;have HV:=ae (show aH c ng nf cG ⟨5,dst,a,b,n,arg⟩=true from by rw[xI,decide_eq_true h1]);clear h0 h1;go_enter func78,ntmps78;refine aj λQ HQ=>?_;go_wp2_with fail;refine HG.mono ?_;rintro e w1 ⟨rfl,rfl⟩;go_wp2_with fail;refine HQ _ _ _ ?_;exact aS (v:= .bool true) (by simp[results,results78,go_sem]) rfl (bA.plain (show¬(5:Int)=10 by decide) HV (ax _ _))
  ·rw[decide_eq_false h1]at HG;have HV:=ae (show aH c ng nf cG ⟨5,dst,a,b,n,arg⟩=false from by rw[xI,decide_eq_false h1]);clear h0 h1;go_enter func78,ntmps78;refine aj λQ HQ=>?_;go_wp2_with fail;refine HG.mono ?_;rintro e w1 ⟨rfl,rfl⟩;go_wp2_with fail;refine HQ _ _ _ ?_;exact aS (v:= .bool false) (by simp[results,results78,go_sem]) rfl (bA.plain (show¬(5:Int)=10 by decide) HV (ax _ _))
 ·have e0:decide (n<=30)=false:=by simpa using h0
  have HV:=ae (show aH c ng nf cG ⟨5,dst,a,b,n,arg⟩=false from by rw[xI,decide_eq_false (λh=>h0 h.2)]);clear h0 HG;go_enter func78,ntmps78;refine aj λQ HQ=>?_;go_wp2_with fail;refine HQ _ _ _ ?_;exact aS (v:= .bool false) (by simp[results,results78,go_sem]) rfl (bA.plain (show¬(5:Int)=10 by decide) HV (ax _ _))
theorem Ud(PQ:Bool->World->Prop)(ab:Nat)(c:aR)(LA:Option Addr)(lc:Nat)(BA:Option Addr)(bc:Nat)(nf ng:Int)(pv mv:Value)(dst a b n:Int)(arg:List Int)(A:Option Addr)(aA B:Nat)(w:World)
  (h:tL w ab c LA lc BA bc nf ng pv mv):
  Calls prog 78 #[.pointer (some ⟨ab,0,.none⟩),cH ⟨7,dst,a,b,n,arg⟩ A aA] w λe w'=>bA PQ c ng nf ⟨7,dst,a,b,n,arg⟩ w e w':=by
 unfold cH;simp only;clear h;have HG:=ae (IY n (w.alloc (.cells #[.int .i64 7,.int .i64 dst,.int .i64 a,.int .i64 b,.int .i64 n,.slice A arg.length aA] 94)));by_cases h0:n<=36
 ·have e0:decide (n<=36)=true:=by simpa using h0
  by_cases h1:31<=n/\n<=36
  ·rw[decide_eq_true h1]at HG;have HV:=ae (show aH c ng nf cG ⟨7,dst,a,b,n,arg⟩=true from by rw[xH,decide_eq_true h1]);clear h0 h1;go_enter func78,ntmps78;refine aj λQ HQ=>?_;go_wp2_with fail;refine HG.mono ?_;rintro e w1 ⟨rfl,rfl⟩;go_wp2_with fail;refine HQ _ _ _ ?_;exact aS (v:= .bool true) (by simp[results,results78,go_sem]) rfl (bA.plain (show¬(7:Int)=10 by decide) HV (ax _ _))
  ·rw[decide_eq_false h1]at HG;have HV:=ae (show aH c ng nf cG ⟨7,dst,a,b,n,arg⟩=false from by rw[xH,decide_eq_false h1]);clear h0 h1;go_enter func78,ntmps78;refine aj λQ HQ=>?_;go_wp2_with fail;refine HG.mono ?_;rintro e w1 ⟨rfl,rfl⟩;go_wp2_with fail;refine HQ _ _ _ ?_;exact aS (v:= .bool false) (by simp[results,results78,go_sem]) rfl (bA.plain (show¬(7:Int)=10 by decide) HV (ax _ _))
 ·have e0:decide (n<=36)=false:=by simpa using h0
  have HV:=ae (show aH c ng nf cG ⟨7,dst,a,b,n,arg⟩=false from by rw[xH,decide_eq_false (λh=>h0 h.2)]);clear h0 HG;go_enter func78,ntmps78;refine aj λQ HQ=>?_;go_wp2_with fail;refine HQ _ _ _ ?_;exact aS (v:= .bool false) (by simp[results,results78,go_sem]) rfl (bA.plain (show¬(7:Int)=10 by decide) HV (ax _ _))
theorem Uc(PQ:Bool->World->Prop)(ab:Nat)(c:aR)(LA:Option Addr)(lc:Nat)(BA:Option Addr)(bc:Nat)(nf ng:Int)(pv mv:Value)(dst a b n:Int)(arg:List Int)(A:Option Addr)(aA B:Nat)(w:World)
  (h:tL w ab c LA lc BA bc nf ng pv mv):
  Calls prog 78 #[.pointer (some ⟨ab,0,.none⟩),cH ⟨8,dst,a,b,n,arg⟩ A aA] w λe w'=>bA PQ c ng nf ⟨8,dst,a,b,n,arg⟩ w e w':=by
 unfold cH;simp only;clear h;have HG:=ae (LU n (w.alloc (.cells #[.int .i64 8,.int .i64 dst,.int .i64 a,.int .i64 b,.int .i64 n,.slice A arg.length aA] 94)));have HI:=ae (Af b (w.alloc (.cells #[.int .i64 8,.int .i64 dst,.int .i64 a,.int .i64 b,.int .i64 n,.slice A arg.length aA] 94)));by_cases h0:n<=11
 ·have e0:decide (n<=11)=true:=by simpa using h0
  by_cases h1:5<=n/\n<=11
  ·rw[decide_eq_true h1]at HG;cases hi:sK b with
   |true=>
    rw[hi]at HI;have HV:=ae (show aH c ng nf cG ⟨8,dst,a,b,n,arg⟩=true from by rw[tR,decide_eq_true h1,hi];rfl);clear h0 h1 hi;go_enter func78,ntmps78;refine aj λQ HQ=>?_;go_wp2_with fail;refine HG.mono ?_;rintro e w1 ⟨rfl,rfl⟩;go_wp2_with fail;refine HI.mono ?_;rintro e w1 ⟨rfl,rfl⟩;go_wp2_with fail;refine HQ _ _ _ ?_;exact aS (v:= .bool true) (by simp[results,results78,go_sem]) rfl (bA.plain (show¬(8:Int)=10 by decide) HV (ax _ _))
   |false=>
    rw[hi]at HI;have HV:=ae (show aH c ng nf cG ⟨8,dst,a,b,n,arg⟩=false from by rw[tR,decide_eq_true h1,hi];rfl);clear h0 h1 hi;go_enter func78,ntmps78;refine aj λQ HQ=>?_;go_wp2_with fail;refine HG.mono ?_;rintro e w1 ⟨rfl,rfl⟩;go_wp2_with fail;refine HI.mono ?_;rintro e w1 ⟨rfl,rfl⟩;go_wp2_with fail;refine HQ _ _ _ ?_;exact aS (v:= .bool false) (by simp[results,results78,go_sem]) rfl (bA.plain (show¬(8:Int)=10 by decide) HV (ax _ _))
  ·rw[decide_eq_false h1]at HG;have HV:=ae (show aH c ng nf cG ⟨8,dst,a,b,n,arg⟩=false from by rw[tR,decide_eq_false h1];rfl);clear h0 h1 HI;go_enter func78,ntmps78;refine aj λQ HQ=>?_;go_wp2_with fail;refine HG.mono ?_;rintro e w1 ⟨rfl,rfl⟩;go_wp2_with fail;refine HQ _ _ _ ?_;exact aS (v:= .bool false) (by simp[results,results78,go_sem]) rfl (bA.plain (show¬(8:Int)=10 by decide) HV (ax _ _))
 ·have e0:decide (n<=11)=false:=by simpa using h0
  have HV:=ae (show aH c ng nf cG ⟨8,dst,a,b,n,arg⟩=false from by rw[tR,decide_eq_false (λh=>h0 h.2)];rfl);clear h0 HG HI;go_enter func78,ntmps78;refine aj λQ HQ=>?_;go_wp2_with fail;refine HQ _ _ _ ?_;exact aS (v:= .bool false) (by simp[results,results78,go_sem]) rfl (bA.plain (show¬(8:Int)=10 by decide) HV (ax _ _))
theorem Ub(PQ:Bool->World->Prop)(ab:Nat)(c:aR)(LA:Option Addr)(lc:Nat)(BA:Option Addr)(bc:Nat)(nf ng:Int)(pv mv:Value)(dst a b n:Int)(arg:List Int)(A:Option Addr)(aA B:Nat)(w:World)
  (h:tL w ab c LA lc BA bc nf ng pv mv):
  Calls prog 78 #[.pointer (some ⟨ab,0,.none⟩),cH ⟨9,dst,a,b,n,arg⟩ A aA] w λe w'=>bA PQ c ng nf ⟨9,dst,a,b,n,arg⟩ w e w':=by
 unfold cH;simp only;clear h;have HG:=ae (DM n (w.alloc (.cells #[.int .i64 9,.int .i64 dst,.int .i64 a,.int .i64 b,.int .i64 n,.slice A arg.length aA] 94)));have HI:=ae (Af b (w.alloc (.cells #[.int .i64 9,.int .i64 dst,.int .i64 a,.int .i64 b,.int .i64 n,.slice A arg.length aA] 94)));by_cases h0:n<=8
 ·have e0:decide (n<=8)=true:=by simpa using h0
  cases hs:j3 n with
  |true=>
   rw[hs]at HG;cases hi:sK b with
   |true=>
    rw[hi]at HI;have HV:=ae (show aH c ng nf cG ⟨9,dst,a,b,n,arg⟩=true from by rw[tQ,hs,hi];rfl);clear h0 hs hi;go_enter func78,ntmps78;refine aj λQ HQ=>?_;go_wp2_with fail;refine HG.mono ?_;rintro e w1 ⟨rfl,rfl⟩;go_wp2_with fail;refine HI.mono ?_;rintro e w1 ⟨rfl,rfl⟩;go_wp2_with fail;refine HQ _ _ _ ?_;exact aS (v:= .bool true) (by simp[results,results78,go_sem]) rfl (bA.plain (show¬(9:Int)=10 by decide) HV (ax _ _))
   |false=>
    rw[hi]at HI;have HV:=ae (show aH c ng nf cG ⟨9,dst,a,b,n,arg⟩=false from by rw[tQ,hs,hi];rfl);clear h0 hs hi;go_enter func78,ntmps78;refine aj λQ HQ=>?_;go_wp2_with fail;refine HG.mono ?_;rintro e w1 ⟨rfl,rfl⟩;go_wp2_with fail;refine HI.mono ?_;rintro e w1 ⟨rfl,rfl⟩;go_wp2_with fail;refine HQ _ _ _ ?_;exact aS (v:= .bool false) (by simp[results,results78,go_sem]) rfl (bA.plain (show¬(9:Int)=10 by decide) HV (ax _ _))
  |false=>
   rw[hs]at HG;have HV:=ae (show aH c ng nf cG ⟨9,dst,a,b,n,arg⟩=false from by rw[tQ,hs];rfl);clear h0 hs HI;go_enter func78,ntmps78;refine aj λQ HQ=>?_;go_wp2_with fail;refine HG.mono ?_;rintro e w1 ⟨rfl,rfl⟩;go_wp2_with fail;refine HQ _ _ _ ?_;exact aS (v:= .bool false) (by simp[results,results78,go_sem]) rfl (bA.plain (show¬(9:Int)=10 by decide) HV (ax _ _))
 ·have e0:decide (n<=8)=false:=by simpa using h0
  have HV:=ae (show aH c ng nf cG ⟨9,dst,a,b,n,arg⟩=false from by rw[tQ,show j3 n=false from by cases hs:j3 n with|false=>rfl|true=>exact absurd (size_le hs) h0];rfl);clear h0 HG HI;go_enter func78,ntmps78;refine aj λQ HQ=>?_;go_wp2_with fail;refine HQ _ _ _ ?_;exact aS (v:= .bool false) (by simp[results,results78,go_sem]) rfl (bA.plain (show¬(9:Int)=10 by decide) HV (ax _ _))
theorem Ue(PQ:Bool->World->Prop)(ab:Nat)(c:aR)(LA:Option Addr)(lc:Nat)(BA:Option Addr)(bc:Nat)(nf ng:Int)(pv mv:Value)(dst a b n:Int)(arg:List Int)(A:Option Addr)(aA B:Nat)(w:World)
  (h:tL w ab c LA lc BA bc nf ng pv mv)(hB:B<=w.heap.size)(hx:aD w B arg (.slice A arg.length aA)):
  Calls prog 78 #[.pointer (some ⟨ab,0,.none⟩),cH ⟨6,dst,a,b,n,arg⟩ A aA] w λe w'=>bA PQ c ng nf ⟨6,dst,a,b,n,arg⟩ w e w':=by
 unfold cH;simp only;clear h;have HG:=ae (yt n (w.alloc (.cells #[.int .i64 6,.int .i64 dst,.int .i64 a,.int .i64 b,.int .i64 n,.slice A arg.length aA] 94)));have hl:=(SliceAt.len hx).2;by_cases h0:n<=30
 ·have e0:decide (n<=30)=true:=by simpa using h0
  by_cases h1:12<=n/\n<=30
  ·rw[decide_eq_true h1]at HG;by_cases h2:arg.length=1
   ·obtain⟨sb,so,rfl,Ey,g0,MX⟩:=hx.at (show 0<arg.length by omega);have hg:arg.getD 0 0=arg[0]:=by rw[List.getD_eq_getElem?_getD,List.getElem?_eq_getElem (by omega)];rfl
    obtain⟨v,hv⟩:∃v,v=arg[0]:=⟨_,rfl⟩
    rw[<-hv]at g0 hg;clear hv MX;simp only[Nat.add_zero]at g0;have hsl:sb<w.heap.size:=by omega
    have UQ:sb<w.heap.size+1:=by omega
    have e2:((arg.length:Int)==1)=true:=by simp;omega
    have HI:=ae (Af v (w.alloc (.cells #[.int .i64 6,.int .i64 dst,.int .i64 a,.int .i64 b,.int .i64 n,.slice (some ⟨sb,so,.none⟩) arg.length aA] 94)));have hone:(0:Int)<(arg.length:Int):=by omega
    cases hi:sK v with
    |true=>
     rw[hi]at HI;have HV:=ae (show aH c ng nf cG ⟨6,dst,a,b,n,arg⟩=true from by rw[ry,decide_eq_true h1,decide_eq_true h2,hg,hi];rfl);clear h0 h1 h2 hi hx hg;go_enter func78,ntmps78;refine aj λQ HQ=>?_;go_wp2_with fail;refine HG.mono ?_;rintro e w1 ⟨rfl,rfl⟩;go_wp2_with fail;refine HI.mono ?_;rintro e w1 ⟨rfl,rfl⟩;go_wp2_with fail;refine HQ _ _ _ ?_;exact aS (v:= .bool true) (by simp[results,results78,go_sem]) rfl (bA.plain (show¬(6:Int)=10 by decide) HV (ax _ _))
    |false=>
     rw[hi]at HI;have HV:=ae (show aH c ng nf cG ⟨6,dst,a,b,n,arg⟩=false from by rw[ry,decide_eq_true h1,decide_eq_true h2,hg,hi];rfl);clear h0 h1 h2 hi hx hg;go_enter func78,ntmps78;refine aj λQ HQ=>?_;go_wp2_with fail;refine HG.mono ?_;rintro e w1 ⟨rfl,rfl⟩;go_wp2_with fail;refine HI.mono ?_;rintro e w1 ⟨rfl,rfl⟩;go_wp2_with fail;refine HQ _ _ _ ?_;exact aS (v:= .bool false) (by simp[results,results78,go_sem]) rfl (bA.plain (show¬(6:Int)=10 by decide) HV (ax _ _))
   ·have e2:((arg.length:Int)==1)=false:=by simp;omega
    have HV:=ae (show aH c ng nf cG ⟨6,dst,a,b,n,arg⟩=false from by rw[ry,decide_eq_true h1,decide_eq_false h2];rfl);clear h0 h1 h2 hx;go_enter func78,ntmps78;refine aj λQ HQ=>?_;go_wp2_with fail;refine HG.mono ?_;rintro e w1 ⟨rfl,rfl⟩;go_wp2_with fail;refine HQ _ _ _ ?_;exact aS (v:= .bool false) (by simp[results,results78,go_sem]) rfl (bA.plain (show¬(6:Int)=10 by decide) HV (ax _ _))
  ·rw[decide_eq_false h1]at HG;have HV:=ae (show aH c ng nf cG ⟨6,dst,a,b,n,arg⟩=false from by rw[ry,decide_eq_false h1];rfl);clear h0 h1 hx;go_enter func78,ntmps78;refine aj λQ HQ=>?_;go_wp2_with fail;refine HG.mono ?_;rintro e w1 ⟨rfl,rfl⟩;go_wp2_with fail;refine HQ _ _ _ ?_;exact aS (v:= .bool false) (by simp[results,results78,go_sem]) rfl (bA.plain (show¬(6:Int)=10 by decide) HV (ax _ _))
 ·have e0:decide (n<=30)=false:=by simpa using h0
  have HV:=ae (show aH c ng nf cG ⟨6,dst,a,b,n,arg⟩=false from by rw[ry,decide_eq_false (λh=>h0 h.2)];rfl);clear h0 HG hx;go_enter func78,ntmps78;refine aj λQ HQ=>?_;go_wp2_with fail;refine HQ _ _ _ ?_;exact aS (v:= .bool false) (by simp[results,results78,go_sem]) rfl (bA.plain (show¬(6:Int)=10 by decide) HV (ax _ _))
theorem Rj(PQ:Bool->World->Prop)(ab:Nat)(c:aR)(LA:Option Addr)(lc:Nat)(BA:Option Addr)(bc:Nat)(nf ng:Int)(pv mv:Value)(dst a b n:Int)(arg:List Int)(A:Option Addr)(aA B:Nat)(w:World)
  (h:tL w ab c LA lc BA bc nf ng pv mv)(mb Fh:Nat)(hmv:mv= .map (some mb))(hL:fL w mb Fh (gS c.ins))(hn:In64 n):
  Calls prog 78 #[.pointer (some ⟨ab,0,.none⟩),cH ⟨15,dst,a,b,n,arg⟩ A aA] w λe w'=>bA PQ c ng nf ⟨15,dst,a,b,n,arg⟩ w e w':=by
 unfold cH;simp only;subst hmv;have r7:w.cell? ⟨ab,7,.none⟩=some (.map (some mb)):=Row.cell h rfl;have rl:=Row.lt h;have hlk:=((hL.below (ax w (.cells #[.int .i64 15,.int .i64 dst,.int .i64 a,.int .i64 b,.int .i64 n,.slice A arg.length aA] 94))).below (aV _ _).drew).Dy hn;rw[o9]at hlk;clear h hL;cases hv:dh c.ins n with
 |true=>
  rw[hv]at hlk;have HV:=ae (show aH c ng nf cG ⟨15,dst,a,b,n,arg⟩=true from by rw[AU,hv]);clear hv;go_enter func78,ntmps78;refine aj λQ HQ=>?_;go_wp2_with fail;refine iK (by kernel_rfl) (by kernel_rfl) ?_
  repeat(go_big_quiet_step (fail))
  refine wpQuiet_nil ?_;go_wp2_with fail;refine HQ _ _ _ ?_;exact aS (v:= .bool true) (by simp[results,results78,go_sem]) rfl (bA.plain (show¬(15:Int)=10 by decide) HV (ax _ _).drew)
 |false=>
  rw[hv]at hlk;have HV:=ae (show aH c ng nf cG ⟨15,dst,a,b,n,arg⟩=false from by rw[AU,hv]);clear hv;go_enter func78,ntmps78;refine aj λQ HQ=>?_;go_wp2_with fail;refine iK (by kernel_rfl) (by kernel_rfl) ?_
  repeat(go_big_quiet_step (fail))
  refine wpQuiet_nil ?_;go_wp2_with fail;refine HQ _ _ _ ?_;exact aS (v:= .bool false) (by simp[results,results78,go_sem]) rfl (bA.plain (show¬(15:Int)=10 by decide) HV (ax _ _).drew)
theorem Ri(PQ:Bool->World->Prop)(ab:Nat)(c:aR)(LA:Option Addr)(lc:Nat)(BA:Option Addr)(bc:Nat)(nf ng:Int)(pv mv:Value)(dst a b n:Int)(arg:List Int)(A:Option Addr)(aA B:Nat)(w:World)
  (h:tL w ab c LA lc BA bc nf ng pv mv)(mb Fh:Nat)(hmv:mv= .map (some mb))(hL:fL w mb Fh (gS c.ins))(hn:In64 n):
  Calls prog 78 #[.pointer (some ⟨ab,0,.none⟩),cH ⟨16,dst,a,b,n,arg⟩ A aA] w λe w'=>bA PQ c ng nf ⟨16,dst,a,b,n,arg⟩ w e w':=by
 unfold cH;simp only;subst hmv;have r7:w.cell? ⟨ab,7,.none⟩=some (.map (some mb)):=Row.cell h rfl;have rl:=Row.lt h;have hlk:=((hL.below (ax w (.cells #[.int .i64 16,.int .i64 dst,.int .i64 a,.int .i64 b,.int .i64 n,.slice A arg.length aA] 94))).below (aV _ _).drew).Dy hn;rw[o9]at hlk;clear h hL;cases hv:dh c.ins n with
 |true=>
  rw[hv]at hlk;have HV:=ae (show aH c ng nf cG ⟨16,dst,a,b,n,arg⟩=true from by rw[AR,hv]);clear hv;go_enter func78,ntmps78;refine aj λQ HQ=>?_;go_wp2_with fail;refine iK (by kernel_rfl) (by kernel_rfl) ?_
  repeat(go_big_quiet_step (fail))
  refine wpQuiet_nil ?_;go_wp2_with fail;refine HQ _ _ _ ?_;exact aS (v:= .bool true) (by simp[results,results78,go_sem]) rfl (bA.plain (show¬(16:Int)=10 by decide) HV (ax _ _).drew)
 |false=>
  rw[hv]at hlk;have HV:=ae (show aH c ng nf cG ⟨16,dst,a,b,n,arg⟩=false from by rw[AR,hv]);clear hv;go_enter func78,ntmps78;refine aj λQ HQ=>?_;go_wp2_with fail;refine iK (by kernel_rfl) (by kernel_rfl) ?_
  repeat(go_big_quiet_step (fail))
  refine wpQuiet_nil ?_;go_wp2_with fail;refine HQ _ _ _ ?_;exact aS (v:= .bool false) (by simp[results,results78,go_sem]) rfl (bA.plain (show¬(16:Int)=10 by decide) HV (ax _ _).drew)
theorem Rk(PQ:Bool->World->Prop)(ab:Nat)(c:aR)(LA:Option Addr)(lc:Nat)(BA:Option Addr)(bc:Nat)(nf ng:Int)(pv mv:Value)(dst a b n:Int)(arg:List Int)(A:Option Addr)(aA B:Nat)(w:World)
  (h:tL w ab c LA lc BA bc nf ng pv mv)(cv:Value)(hpv:pv= .func (.func 39) #[] #[cv])(hB:B<=w.heap.size)(hx:aD w B arg (.slice A arg.length aA))
  (gH:(0<=n/\n<nf)->∀W,Below w.heap.size w W->Calls prog 39 #[.int .i64 n,.int .i64 arg.length,cv] W λe w'=>∃b,e= .returned (.bool b)/\PQ b w'):
  Calls prog 78 #[.pointer (some ⟨ab,0,.none⟩),cH ⟨10,dst,a,b,n,arg⟩ A aA] w λe w'=>bA PQ c ng nf ⟨10,dst,a,b,n,arg⟩ w e w':=by
 unfold cH;simp only;subst hpv;have hb:=ax w (.cells #[.int .i64 10,.int .i64 dst,.int .i64 a,.int .i64 b,.int .i64 n,.slice A arg.length aA] 94);have HC:=ae (Ee PQ ab c LA lc BA bc nf ng cv mv ⟨10,dst,a,b,n,arg⟩ A aA B (w.alloc (.cells #[.int .i64 10,.int .i64 dst,.int .i64 a,.int .i64 b,.int .i64 n,.slice A arg.length aA] 94)) (Row.alloc h _) (by simp;omega) (hx.below (hb.mono hB) (aY _)) (λh W hW=>gH h W (hb.trans (hW.mono hb.size))));have HB:=ae hb;clear h hx gH hb;unfold cH at HC;simp only at HC;go_enter func78,ntmps78;refine aj λQ HQ=>?_;go_wp2_with fail;refine HC.mono ?_;rintro e w1 ⟨b1,rfl,hs⟩;have HS:=ae hs;clear hs;go_wp2_with fail;refine HQ _ _ _ ?_
 refine aS (v:= .bool b1) (by simp[results,results78,go_sem]) rfl ⟨b1,rfl,?_⟩;rcases HS.out with⟨h1,h2⟩|⟨h1,h2,h3⟩
 ·exact aK ⟨rfl,h1,h2⟩
 ·exact bu ⟨λh=>(by rw[h.2]at h1;cases h1),by rw[h2,JP],HB.trans (h3.mono HB.size)⟩
theorem Ac(PQ:Bool->World->Prop)(ab:Nat)(c:aR)(LA:Option Addr)(lc:Nat)(BA:Option Addr)(bc:Nat)(nf ng:Int)(pv mv:Value)(op dst a b n:Int)(arg:List Int)(A:Option Addr)(aA B:Nat)(w:World)
  (h:tL w ab c LA lc BA bc nf ng pv mv)(e3:(op==3)=false)(e4:(op==4)=false)(e5:(op==5)=false)(e6:(op==6)=false)(e7:(op==7)=false)(e8:(op==8)=false)(e9:(op==9)=false)(e10:(op==10)=false)(Z8:(op==15)=false)(e16:(op==16)=false):
  Calls prog 78 #[.pointer (some ⟨ab,0,.none⟩),cH ⟨op,dst,a,b,n,arg⟩ A aA] w λe w'=>bA PQ c ng nf ⟨op,dst,a,b,n,arg⟩ w e w':=by
 unfold cH;simp only;have HV:=ae (show aH c ng nf cG ⟨op,dst,a,b,n,arg⟩=true from by simp at e3 e4 e5 e6 e7 e8 e9 e10 Z8 e16;simp[aH, *]);have h10:op≠10:=by simpa using e10
 have H10:=ae h10;clear h h10;go_enter func78,ntmps78;refine aj λQ HQ=>?_;go_wp2_with fail;refine HQ _ _ _ ?_;exact aS (v:= .bool true) (by simp[results,results78,go_sem]) rfl (bA.plain H10.out HV (ax _ _))
theorem Fv(PQ:Bool->World->Prop)(ab:Nat)(c:aR)(LA:Option Addr)(lc:Nat)(BA:Option Addr)(bc:Nat)(nf ng:Int)(cv:Value)(mb Fh:Nat)(x:bg)(A:Option Addr)(aA B:Nat)(w:World)
  (h:tL w ab c LA lc BA bc nf ng (.func (.func 39) #[] #[cv]) (.map (some mb)))(hL:fL w mb Fh (gS c.ins))(hn:In64 x.n)(hB:B<=w.heap.size)(hx:aD w B x.arg (.slice A x.arg.length aA))
  (gH:(0<=x.n/\x.n<nf)->∀W,Below w.heap.size w W->Calls prog 39 #[.int .i64 x.n,.int .i64 x.arg.length,cv] W λe w'=>∃b,e= .returned (.bool b)/\PQ b w'):
  Calls prog 78 #[.pointer (some ⟨ab,0,.none⟩),cH x A aA] w λe w'=>bA PQ c ng nf x w e w':=by
 obtain⟨op,dst,a,b,n,arg⟩:=x;simp only at hn hx gH;have hop:op=3\/op=4\/op=5\/op=6\/op=7\/op=8\/op=9\/op=10\/op=15\/op=16\/(op≠3/\op≠4/\op≠5/\op≠6/\op≠7/\op≠8/\op≠9/\op≠10/\op≠15/\op≠16):=by omega
 rcases hop with rfl|rfl|rfl|rfl|rfl|rfl|rfl|rfl|rfl|rfl|⟨h3,h4,h5,h6,h7,h8,h9,h10,iC,mL⟩
 ·exact Uh PQ ab c LA lc BA bc nf ng _ _ dst a b n arg A aA B w h
 ·exact Ug PQ ab c LA lc BA bc nf ng _ _ dst a b n arg A aA B w h
 ·exact Uf PQ ab c LA lc BA bc nf ng _ _ dst a b n arg A aA B w h
 ·exact Ue PQ ab c LA lc BA bc nf ng _ _ dst a b n arg A aA B w h hB hx
 ·exact Ud PQ ab c LA lc BA bc nf ng _ _ dst a b n arg A aA B w h
 ·exact Uc PQ ab c LA lc BA bc nf ng _ _ dst a b n arg A aA B w h
 ·exact Ub PQ ab c LA lc BA bc nf ng _ _ dst a b n arg A aA B w h
 ·exact Rk PQ ab c LA lc BA bc nf ng _ _ dst a b n arg A aA B w h cv rfl hB hx gH
 ·exact Rj PQ ab c LA lc BA bc nf ng _ _ dst a b n arg A aA B w h mb Fh rfl hL hn
 ·exact Ri PQ ab c LA lc BA bc nf ng _ _ dst a b n arg A aA B w h mb Fh rfl hL hn
 ·exact Ac PQ ab c LA lc BA bc nf ng _ _ op dst a b n arg A aA B w h (by simpa using h3) (by simpa using h4) (by simpa using h5) (by simpa using h6) (by simpa using h7) (by simpa using h8) (by simpa using h9) (by simpa using h10) (by simpa using iC) (by simpa using mL)
end Go.Proofs.YtinmgbodgecoeaaGreat
