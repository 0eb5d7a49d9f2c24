/- virt's checks: an instruction's number. Conditions: as stated. -/
import Derived.Test.YtlenilbkifofjaaGreatDoorQ05Zz
set_option linter.unusedVariables false
set_option linter.unusedSimpArgs false
set_option maxHeartbeats 8000000
set_option maxRecDepth 100000
namespace Go.Proofs.YtlenilbkifofjaaGreatDoor
open Go.RowKit
def noPar:Int→Int→Bool:=fun _ _=>false
def NumSaysV(PQ:Bool→World→Prop)(c:CodeS)(ng nf:Int)(x:InsS)(w:World)(e:Ending)(w':World):Prop:=
 ∃b,e= .returned (.bool b)∧(x.op=10∧callB c nf x=true∧PQ b w'∨¬(x.op=10∧callB c nf x=true)∧b=numberI c ng nf noPar x∧Below w.heap.size w w')
theorem NumSaysV.plain{PQ:Bool→World→Prop}{c:CodeS}{ng nf:Int}{x:InsS}{w w':World}{b:Bool}(h10:x.op≠10)(hb:numberI c ng nf noPar x=b)(hw:Below w.heap.size w w'):NumSaysV PQ c ng nf x w (.returned (.bool b)) w':=
 ⟨b,rfl,Or.inr ⟨fun h=>h10 h.1,hb.symm,hw⟩⟩
theorem size_le{n:Int}(h:sizeB n=true):n≤8:=by simp[sizeB]at h;omega
theorem numberI_3(c:CodeS)(ng nf dst a b n:Int)(arg:List Int):numberI c ng nf noPar ⟨3,dst,a,b,n,arg⟩=(decide (0≤n∧n<c.locs.length)):=by simp[numberI]
theorem numberI_4(c:CodeS)(ng nf dst a b n:Int)(arg:List Int):numberI c ng nf noPar ⟨4,dst,a,b,n,arg⟩=(decide (0≤n∧n<ng)):=by simp[numberI]
theorem numberI_5(c:CodeS)(ng nf dst a b n:Int)(arg:List Int):numberI c ng nf noPar ⟨5,dst,a,b,n,arg⟩=(decide (12≤n∧n≤30)):=by simp[numberI]
theorem numberI_6(c:CodeS)(ng nf dst a b n:Int)(arg:List Int):numberI c ng nf noPar ⟨6,dst,a,b,n,arg⟩=(decide (12≤n∧n≤30)&& (decide (arg.length=1)&& immB (arg.getD 0 0))):=by simp[numberI]
theorem numberI_7(c:CodeS)(ng nf dst a b n:Int)(arg:List Int):numberI c ng nf noPar ⟨7,dst,a,b,n,arg⟩=(decide (31≤n∧n≤36)):=by simp[numberI]
theorem numberI_8(c:CodeS)(ng nf dst a b n:Int)(arg:List Int):numberI c ng nf noPar ⟨8,dst,a,b,n,arg⟩=(decide (5≤n∧n≤11)&& immB b):=by simp[numberI]
theorem numberI_9(c:CodeS)(ng nf dst a b n:Int)(arg:List Int):numberI c ng nf noPar ⟨9,dst,a,b,n,arg⟩=(sizeB n && immB b):=by simp[numberI]
theorem numberI_15(c:CodeS)(ng nf dst a b n:Int)(arg:List Int):numberI c ng nf noPar ⟨15,dst,a,b,n,arg⟩=(labI c.ins n):=by simp[numberI]
theorem numberI_16(c:CodeS)(ng nf dst a b n:Int)(arg:List Int):numberI c ng nf noPar ⟨16,dst,a,b,n,arg⟩=(labI c.ins n):=by simp[numberI]
theorem numberI_10(c:CodeS)(ng nf dst a b n:Int)(arg:List Int):numberI c ng nf noPar ⟨10,dst,a,b,n,arg⟩=false:=by simp[numberI,noPar]
theorem vnum_3(PQ:Bool→World→Prop)(ab:Nat)(c:CodeS)(LA:Option Addr)(lc:Nat)(BA:Option Addr)(bc:Nat)(nf ng:Int)(pv mv:Value)(dst a b n:Int)(arg:List Int)(A:Option Addr)(cap B:Nat)(w:World)
  (h:VAsk w ab c LA lc BA bc nf ng pv mv):
  Calls Tryz.prog 67 #[.pointer (some ⟨ab,0,.none⟩),insV ⟨3,dst,a,b,n,arg⟩ A cap] w fun e w'=>NumSaysV PQ c ng nf ⟨3,dst,a,b,n,arg⟩ w e w':=by
 unfold insV;simp only;have r2:w.cell? ⟨ab,2,.none⟩=some (.slice LA c.locs.length lc):=Row.cell h rfl;have rl:=Row.lt h;clear h;by_cases h0:0≤n
 ·have e0:decide (0≤n)=true:=by simpa using h0
  by_cases h1:n<(c.locs.length:Int)
  ·have e1:decide (n<(c.locs.length:Int))=true:=by simpa using h1
   have HV:=Lib.hid (show numberI c ng nf noPar ⟨3,dst,a,b,n,arg⟩=true from by rw[numberI_3,decide_eq_true ⟨h0,h1⟩]);clear h0 h1;go_enter Tryz.func67,Tryz.ntmps67;refine wp_letter (fun Q hQ=>?_);have HQ:=Lib.hid hQ;clear hQ;go_wp2_with fail;go_quiet (fail);go_wp2_with fail;refine HQ.out _ _ _ ?_;exact bodyPost_ret (v:= .bool true) (by simp[results,Tryz.results67,go_sem]) rfl (NumSaysV.plain (show¬(3:Int)=10 by decide) HV.out (below_drewN (below1 _ _) _))
  ·have e1:decide (n<(c.locs.length:Int))=false:=by simpa using h1
   have HV:=Lib.hid (show numberI c ng nf noPar ⟨3,dst,a,b,n,arg⟩=false from by rw[numberI_3,decide_eq_false (fun h=>h1 h.2)]);clear h0 h1;go_enter Tryz.func67,Tryz.ntmps67;refine wp_letter (fun Q hQ=>?_);have HQ:=Lib.hid hQ;clear hQ;go_wp2_with fail;go_quiet (fail);go_wp2_with fail;refine HQ.out _ _ _ ?_;exact bodyPost_ret (v:= .bool false) (by simp[results,Tryz.results67,go_sem]) rfl (NumSaysV.plain (show¬(3:Int)=10 by decide) HV.out (below_drewN (below1 _ _) _))
 ·have e0:decide (0≤n)=false:=by simpa using h0
  have HV:=Lib.hid (show numberI c ng nf noPar ⟨3,dst,a,b,n,arg⟩=false from by rw[numberI_3,decide_eq_false (fun h=>h0 h.1)]);clear h0;go_enter Tryz.func67,Tryz.ntmps67;refine wp_letter (fun Q hQ=>?_);have HQ:=Lib.hid hQ;clear hQ;go_wp2_with fail;go_quiet (fail);go_wp2_with fail;refine HQ.out _ _ _ ?_;exact bodyPost_ret (v:= .bool false) (by simp[results,Tryz.results67,go_sem]) rfl (NumSaysV.plain (show¬(3:Int)=10 by decide) HV.out (below_drewN (below1 _ _) _))
theorem vnum_4(PQ:Bool→World→Prop)(ab:Nat)(c:CodeS)(LA:Option Addr)(lc:Nat)(BA:Option Addr)(bc:Nat)(nf ng:Int)(pv mv:Value)(dst a b n:Int)(arg:List Int)(A:Option Addr)(cap B:Nat)(w:World)
  (h:VAsk w ab c LA lc BA bc nf ng pv mv):
  Calls Tryz.prog 67 #[.pointer (some ⟨ab,0,.none⟩),insV ⟨4,dst,a,b,n,arg⟩ A cap] w fun e w'=>NumSaysV PQ c ng nf ⟨4,dst,a,b,n,arg⟩ w e w':=by
 unfold insV;simp only;have r5:w.cell? ⟨ab,5,.none⟩=some (.int .i64 ng):=Row.cell h rfl;have rl:=Row.lt h;clear h;by_cases h0:0≤n
 ·have e0:decide (0≤n)=true:=by simpa using h0
  by_cases h1:n<ng
  ·have e1:decide (n<ng)=true:=by simpa using h1
   have HV:=Lib.hid (show numberI c ng nf noPar ⟨4,dst,a,b,n,arg⟩=true from by rw[numberI_4,decide_eq_true ⟨h0,h1⟩]);clear h0 h1;go_enter Tryz.func67,Tryz.ntmps67;refine wp_letter (fun Q hQ=>?_);have HQ:=Lib.hid hQ;clear hQ;go_wp2_with fail;go_quiet (fail);go_wp2_with fail;refine HQ.out _ _ _ ?_;exact bodyPost_ret (v:= .bool true) (by simp[results,Tryz.results67,go_sem]) rfl (NumSaysV.plain (show¬(4:Int)=10 by decide) HV.out (below_drewN (below1 _ _) _))
  ·have e1:decide (n<ng)=false:=by simpa using h1
   have HV:=Lib.hid (show numberI c ng nf noPar ⟨4,dst,a,b,n,arg⟩=false from by rw[numberI_4,decide_eq_false (fun h=>h1 h.2)]);clear h0 h1;go_enter Tryz.func67,Tryz.ntmps67;refine wp_letter (fun Q hQ=>?_);have HQ:=Lib.hid hQ;clear hQ;go_wp2_with fail;go_quiet (fail);go_wp2_with fail;refine HQ.out _ _ _ ?_;exact bodyPost_ret (v:= .bool false) (by simp[results,Tryz.results67,go_sem]) rfl (NumSaysV.plain (show¬(4:Int)=10 by decide) HV.out (below_drewN (below1 _ _) _))
 ·have e0:decide (0≤n)=false:=by simpa using h0
  have HV:=Lib.hid (show numberI c ng nf noPar ⟨4,dst,a,b,n,arg⟩=false from by rw[numberI_4,decide_eq_false (fun h=>h0 h.1)]);clear h0;go_enter Tryz.func67,Tryz.ntmps67;refine wp_letter (fun Q hQ=>?_);have HQ:=Lib.hid hQ;clear hQ;go_wp2_with fail;go_quiet (fail);go_wp2_with fail;refine HQ.out _ _ _ ?_;exact bodyPost_ret (v:= .bool false) (by simp[results,Tryz.results67,go_sem]) rfl (NumSaysV.plain (show¬(4:Int)=10 by decide) HV.out (below_drewN (below1 _ _) _))
theorem vnum_5(PQ:Bool→World→Prop)(ab:Nat)(c:CodeS)(LA:Option Addr)(lc:Nat)(BA:Option Addr)(bc:Nat)(nf ng:Int)(pv mv:Value)(dst a b n:Int)(arg:List Int)(A:Option Addr)(cap B:Nat)(w:World)
  (h:VAsk w ab c LA lc BA bc nf ng pv mv):
  Calls Tryz.prog 67 #[.pointer (some ⟨ab,0,.none⟩),insV ⟨5,dst,a,b,n,arg⟩ A cap] w fun e w'=>NumSaysV PQ c ng nf ⟨5,dst,a,b,n,arg⟩ w e w':=by
 unfold insV;simp only;clear h;have HG:=Lib.hid (vbinary_any n (w.alloc (.cells #[.int .i64 5,.int .i64 dst,.int .i64 a,.int .i64 b,.int .i64 n,.slice A arg.length cap] 43)));by_cases h0:n≤30
 ·have e0:decide (n≤30)=true:=by simpa using h0
  by_cases h1:12≤n∧n≤30
  ·rw[decide_eq_true h1]at HG;have HV:=Lib.hid (show numberI c ng nf noPar ⟨5,dst,a,b,n,arg⟩=true from by rw[numberI_5,decide_eq_true h1]);clear h0 h1;go_enter Tryz.func67,Tryz.ntmps67;refine wp_letter (fun Q hQ=>?_);have HQ:=Lib.hid hQ;clear hQ;go_wp2_with fail;refine HG.out.mono ?_;rintro e w1 ⟨rfl,rfl⟩;go_wp2_with fail;refine HQ.out _ _ _ ?_;exact bodyPost_ret (v:= .bool true) (by simp[results,Tryz.results67,go_sem]) rfl (NumSaysV.plain (show¬(5:Int)=10 by decide) HV.out (below1 _ _))
  ·rw[decide_eq_false h1]at HG;have HV:=Lib.hid (show numberI c ng nf noPar ⟨5,dst,a,b,n,arg⟩=false from by rw[numberI_5,decide_eq_false h1]);clear h0 h1;go_enter Tryz.func67,Tryz.ntmps67;refine wp_letter (fun Q hQ=>?_);have HQ:=Lib.hid hQ;clear hQ;go_wp2_with fail;refine HG.out.mono ?_;rintro e w1 ⟨rfl,rfl⟩;go_wp2_with fail;refine HQ.out _ _ _ ?_;exact bodyPost_ret (v:= .bool false) (by simp[results,Tryz.results67,go_sem]) rfl (NumSaysV.plain (show¬(5:Int)=10 by decide) HV.out (below1 _ _))
 ·have e0:decide (n≤30)=false:=by simpa using h0
  have HV:=Lib.hid (show numberI c ng nf noPar ⟨5,dst,a,b,n,arg⟩=false from by rw[numberI_5,decide_eq_false (fun h=>h0 h.2)]);clear h0 HG;go_enter Tryz.func67,Tryz.ntmps67;refine wp_letter (fun Q hQ=>?_);have HQ:=Lib.hid hQ;clear hQ;go_wp2_with fail;refine HQ.out _ _ _ ?_;exact bodyPost_ret (v:= .bool false) (by simp[results,Tryz.results67,go_sem]) rfl (NumSaysV.plain (show¬(5:Int)=10 by decide) HV.out (below1 _ _))
theorem vnum_7(PQ:Bool→World→Prop)(ab:Nat)(c:CodeS)(LA:Option Addr)(lc:Nat)(BA:Option Addr)(bc:Nat)(nf ng:Int)(pv mv:Value)(dst a b n:Int)(arg:List Int)(A:Option Addr)(cap B:Nat)(w:World)
  (h:VAsk w ab c LA lc BA bc nf ng pv mv):
  Calls Tryz.prog 67 #[.pointer (some ⟨ab,0,.none⟩),insV ⟨7,dst,a,b,n,arg⟩ A cap] w fun e w'=>NumSaysV PQ c ng nf ⟨7,dst,a,b,n,arg⟩ w e w':=by
 unfold insV;simp only;clear h;have HG:=Lib.hid (vunary_any n (w.alloc (.cells #[.int .i64 7,.int .i64 dst,.int .i64 a,.int .i64 b,.int .i64 n,.slice A arg.length cap] 43)));by_cases h0:n≤36
 ·have e0:decide (n≤36)=true:=by simpa using h0
  by_cases h1:31≤n∧n≤36
  ·rw[decide_eq_true h1]at HG;have HV:=Lib.hid (show numberI c ng nf noPar ⟨7,dst,a,b,n,arg⟩=true from by rw[numberI_7,decide_eq_true h1]);clear h0 h1;go_enter Tryz.func67,Tryz.ntmps67;refine wp_letter (fun Q hQ=>?_);have HQ:=Lib.hid hQ;clear hQ;go_wp2_with fail;refine HG.out.mono ?_;rintro e w1 ⟨rfl,rfl⟩;go_wp2_with fail;refine HQ.out _ _ _ ?_;exact bodyPost_ret (v:= .bool true) (by simp[results,Tryz.results67,go_sem]) rfl (NumSaysV.plain (show¬(7:Int)=10 by decide) HV.out (below1 _ _))
  ·rw[decide_eq_false h1]at HG;have HV:=Lib.hid (show numberI c ng nf noPar ⟨7,dst,a,b,n,arg⟩=false from by rw[numberI_7,decide_eq_false h1]);clear h0 h1;go_enter Tryz.func67,Tryz.ntmps67;refine wp_letter (fun Q hQ=>?_);have HQ:=Lib.hid hQ;clear hQ;go_wp2_with fail;refine HG.out.mono ?_;rintro e w1 ⟨rfl,rfl⟩;go_wp2_with fail;refine HQ.out _ _ _ ?_;exact bodyPost_ret (v:= .bool false) (by simp[results,Tryz.results67,go_sem]) rfl (NumSaysV.plain (show¬(7:Int)=10 by decide) HV.out (below1 _ _))
 ·have e0:decide (n≤36)=false:=by simpa using h0
  have HV:=Lib.hid (show numberI c ng nf noPar ⟨7,dst,a,b,n,arg⟩=false from by rw[numberI_7,decide_eq_false (fun h=>h0 h.2)]);clear h0 HG;go_enter Tryz.func67,Tryz.ntmps67;refine wp_letter (fun Q hQ=>?_);have HQ:=Lib.hid hQ;clear hQ;go_wp2_with fail;refine HQ.out _ _ _ ?_;exact bodyPost_ret (v:= .bool false) (by simp[results,Tryz.results67,go_sem]) rfl (NumSaysV.plain (show¬(7:Int)=10 by decide) HV.out (below1 _ _))
theorem vnum_8(PQ:Bool→World→Prop)(ab:Nat)(c:CodeS)(LA:Option Addr)(lc:Nat)(BA:Option Addr)(bc:Nat)(nf ng:Int)(pv mv:Value)(dst a b n:Int)(arg:List Int)(A:Option Addr)(cap B:Nat)(w:World)
  (h:VAsk w ab c LA lc BA bc nf ng pv mv):
  Calls Tryz.prog 67 #[.pointer (some ⟨ab,0,.none⟩),insV ⟨8,dst,a,b,n,arg⟩ A cap] w fun e w'=>NumSaysV PQ c ng nf ⟨8,dst,a,b,n,arg⟩ w e w':=by
 unfold insV;simp only;clear h;have HG:=Lib.hid (vload_any n (w.alloc (.cells #[.int .i64 8,.int .i64 dst,.int .i64 a,.int .i64 b,.int .i64 n,.slice A arg.length cap] 43)));have HI:=Lib.hid (vimm_any b (w.alloc (.cells #[.int .i64 8,.int .i64 dst,.int .i64 a,.int .i64 b,.int .i64 n,.slice A arg.length cap] 43)));by_cases h0:n≤11
 ·have e0:decide (n≤11)=true:=by simpa using h0
  by_cases h1:5≤n∧n≤11
  ·rw[decide_eq_true h1]at HG;cases hi:immB b with
   |true=>
    rw[hi]at HI;have HV:=Lib.hid (show numberI c ng nf noPar ⟨8,dst,a,b,n,arg⟩=true from by rw[numberI_8,decide_eq_true h1,hi];rfl);clear h0 h1 hi;go_enter Tryz.func67,Tryz.ntmps67;refine wp_letter (fun Q hQ=>?_);have HQ:=Lib.hid hQ;clear hQ;go_wp2_with fail;refine HG.out.mono ?_;rintro e w1 ⟨rfl,rfl⟩;go_wp2_with fail;refine HI.out.mono ?_;rintro e w1 ⟨rfl,rfl⟩;go_wp2_with fail;refine HQ.out _ _ _ ?_;exact bodyPost_ret (v:= .bool true) (by simp[results,Tryz.results67,go_sem]) rfl (NumSaysV.plain (show¬(8:Int)=10 by decide) HV.out (below1 _ _))
   |false=>
    rw[hi]at HI;have HV:=Lib.hid (show numberI c ng nf noPar ⟨8,dst,a,b,n,arg⟩=false from by rw[numberI_8,decide_eq_true h1,hi];rfl);clear h0 h1 hi;go_enter Tryz.func67,Tryz.ntmps67;refine wp_letter (fun Q hQ=>?_);have HQ:=Lib.hid hQ;clear hQ;go_wp2_with fail;refine HG.out.mono ?_;rintro e w1 ⟨rfl,rfl⟩;go_wp2_with fail;refine HI.out.mono ?_;rintro e w1 ⟨rfl,rfl⟩;go_wp2_with fail;refine HQ.out _ _ _ ?_;exact bodyPost_ret (v:= .bool false) (by simp[results,Tryz.results67,go_sem]) rfl (NumSaysV.plain (show¬(8:Int)=10 by decide) HV.out (below1 _ _))
  ·rw[decide_eq_false h1]at HG;have HV:=Lib.hid (show numberI c ng nf noPar ⟨8,dst,a,b,n,arg⟩=false from by rw[numberI_8,decide_eq_false h1];rfl);clear h0 h1 HI;go_enter Tryz.func67,Tryz.ntmps67;refine wp_letter (fun Q hQ=>?_);have HQ:=Lib.hid hQ;clear hQ;go_wp2_with fail;refine HG.out.mono ?_;rintro e w1 ⟨rfl,rfl⟩;go_wp2_with fail;refine HQ.out _ _ _ ?_;exact bodyPost_ret (v:= .bool false) (by simp[results,Tryz.results67,go_sem]) rfl (NumSaysV.plain (show¬(8:Int)=10 by decide) HV.out (below1 _ _))
 ·have e0:decide (n≤11)=false:=by simpa using h0
  have HV:=Lib.hid (show numberI c ng nf noPar ⟨8,dst,a,b,n,arg⟩=false from by rw[numberI_8,decide_eq_false (fun h=>h0 h.2)];rfl);clear h0 HG HI;go_enter Tryz.func67,Tryz.ntmps67;refine wp_letter (fun Q hQ=>?_);have HQ:=Lib.hid hQ;clear hQ;go_wp2_with fail;refine HQ.out _ _ _ ?_;exact bodyPost_ret (v:= .bool false) (by simp[results,Tryz.results67,go_sem]) rfl (NumSaysV.plain (show¬(8:Int)=10 by decide) HV.out (below1 _ _))
theorem vnum_9(PQ:Bool→World→Prop)(ab:Nat)(c:CodeS)(LA:Option Addr)(lc:Nat)(BA:Option Addr)(bc:Nat)(nf ng:Int)(pv mv:Value)(dst a b n:Int)(arg:List Int)(A:Option Addr)(cap B:Nat)(w:World)
  (h:VAsk w ab c LA lc BA bc nf ng pv mv):
  Calls Tryz.prog 67 #[.pointer (some ⟨ab,0,.none⟩),insV ⟨9,dst,a,b,n,arg⟩ A cap] w fun e w'=>NumSaysV PQ c ng nf ⟨9,dst,a,b,n,arg⟩ w e w':=by
 unfold insV;simp only;clear h;have HG:=Lib.hid (gsize_any n (w.alloc (.cells #[.int .i64 9,.int .i64 dst,.int .i64 a,.int .i64 b,.int .i64 n,.slice A arg.length cap] 43)));have HI:=Lib.hid (vimm_any b (w.alloc (.cells #[.int .i64 9,.int .i64 dst,.int .i64 a,.int .i64 b,.int .i64 n,.slice A arg.length cap] 43)));by_cases h0:n≤8
 ·have e0:decide (n≤8)=true:=by simpa using h0
  cases hs:sizeB n with
  |true=>
   rw[hs]at HG;cases hi:immB b with
   |true=>
    rw[hi]at HI;have HV:=Lib.hid (show numberI c ng nf noPar ⟨9,dst,a,b,n,arg⟩=true from by rw[numberI_9,hs,hi];rfl);clear h0 hs hi;go_enter Tryz.func67,Tryz.ntmps67;refine wp_letter (fun Q hQ=>?_);have HQ:=Lib.hid hQ;clear hQ;go_wp2_with fail;refine HG.out.mono ?_;rintro e w1 ⟨rfl,rfl⟩;go_wp2_with fail;refine HI.out.mono ?_;rintro e w1 ⟨rfl,rfl⟩;go_wp2_with fail;refine HQ.out _ _ _ ?_;exact bodyPost_ret (v:= .bool true) (by simp[results,Tryz.results67,go_sem]) rfl (NumSaysV.plain (show¬(9:Int)=10 by decide) HV.out (below1 _ _))
   |false=>
    rw[hi]at HI;have HV:=Lib.hid (show numberI c ng nf noPar ⟨9,dst,a,b,n,arg⟩=false from by rw[numberI_9,hs,hi];rfl);clear h0 hs hi;go_enter Tryz.func67,Tryz.ntmps67;refine wp_letter (fun Q hQ=>?_);have HQ:=Lib.hid hQ;clear hQ;go_wp2_with fail;refine HG.out.mono ?_;rintro e w1 ⟨rfl,rfl⟩;go_wp2_with fail;refine HI.out.mono ?_;rintro e w1 ⟨rfl,rfl⟩;go_wp2_with fail;refine HQ.out _ _ _ ?_;exact bodyPost_ret (v:= .bool false) (by simp[results,Tryz.results67,go_sem]) rfl (NumSaysV.plain (show¬(9:Int)=10 by decide) HV.out (below1 _ _))
  |false=>
   rw[hs]at HG;have HV:=Lib.hid (show numberI c ng nf noPar ⟨9,dst,a,b,n,arg⟩=false from by rw[numberI_9,hs];rfl);clear h0 hs HI;go_enter Tryz.func67,Tryz.ntmps67;refine wp_letter (fun Q hQ=>?_);have HQ:=Lib.hid hQ;clear hQ;go_wp2_with fail;refine HG.out.mono ?_;rintro e w1 ⟨rfl,rfl⟩;go_wp2_with fail;refine HQ.out _ _ _ ?_;exact bodyPost_ret (v:= .bool false) (by simp[results,Tryz.results67,go_sem]) rfl (NumSaysV.plain (show¬(9:Int)=10 by decide) HV.out (below1 _ _))
 ·have e0:decide (n≤8)=false:=by simpa using h0
  have HV:=Lib.hid (show numberI c ng nf noPar ⟨9,dst,a,b,n,arg⟩=false from by rw[numberI_9,show sizeB n=false from by cases hs:sizeB n with|false=>rfl|true=>exact absurd (size_le hs) h0];rfl);clear h0 HG HI;go_enter Tryz.func67,Tryz.ntmps67;refine wp_letter (fun Q hQ=>?_);have HQ:=Lib.hid hQ;clear hQ;go_wp2_with fail;refine HQ.out _ _ _ ?_;exact bodyPost_ret (v:= .bool false) (by simp[results,Tryz.results67,go_sem]) rfl (NumSaysV.plain (show¬(9:Int)=10 by decide) HV.out (below1 _ _))
theorem vnum_6(PQ:Bool→World→Prop)(ab:Nat)(c:CodeS)(LA:Option Addr)(lc:Nat)(BA:Option Addr)(bc:Nat)(nf ng:Int)(pv mv:Value)(dst a b n:Int)(arg:List Int)(A:Option Addr)(cap B:Nat)(w:World)
  (h:VAsk w ab c LA lc BA bc nf ng pv mv)(hB:B≤w.heap.size)(hx:LongsAt w B arg (.slice A arg.length cap)):
  Calls Tryz.prog 67 #[.pointer (some ⟨ab,0,.none⟩),insV ⟨6,dst,a,b,n,arg⟩ A cap] w fun e w'=>NumSaysV PQ c ng nf ⟨6,dst,a,b,n,arg⟩ w e w':=by
 unfold insV;simp only;clear h;have HG:=Lib.hid (vbinary_any n (w.alloc (.cells #[.int .i64 6,.int .i64 dst,.int .i64 a,.int .i64 b,.int .i64 n,.slice A arg.length cap] 43)));have hl:=(SliceAt.len hx).2;by_cases h0:n≤30
 ·have e0:decide (n≤30)=true:=by simpa using h0
  by_cases h1:12≤n∧n≤30
  ·rw[decide_eq_true h1]at HG;by_cases h2:arg.length=1
   ·obtain⟨sb,so,rfl,hsb,g0,hin0⟩:=hx.at (show 0<arg.length by omega);have hg:arg.getD 0 0=arg[0]:=by rw[List.getD_eq_getElem?_getD,List.getElem?_eq_getElem (by omega)];rfl
    obtain⟨v,hv⟩:∃v,v=arg[0]:=⟨_,rfl⟩
    rw[←hv]at g0 hg;clear hv hin0;simp only[Nat.add_zero]at g0;have hsl:sb<w.heap.size:=by omega
    have hsl2:sb<w.heap.size+1:=by omega
    have e2:((arg.length:Int)==1)=true:=by simp;omega
    have HI:=Lib.hid (vimm_any v (w.alloc (.cells #[.int .i64 6,.int .i64 dst,.int .i64 a,.int .i64 b,.int .i64 n,.slice (some ⟨sb,so,.none⟩) arg.length cap] 43)));have hone:(0:Int)<(arg.length:Int):=by omega
    cases hi:immB v with
    |true=>
     rw[hi]at HI;have HV:=Lib.hid (show numberI c ng nf noPar ⟨6,dst,a,b,n,arg⟩=true from by rw[numberI_6,decide_eq_true h1,decide_eq_true h2,hg,hi];rfl);clear h0 h1 h2 hi hx hg;go_enter Tryz.func67,Tryz.ntmps67;refine wp_letter (fun Q hQ=>?_);have HQ:=Lib.hid hQ;clear hQ;go_wp2_with fail;refine HG.out.mono ?_;rintro e w1 ⟨rfl,rfl⟩;go_wp2_with fail;refine HI.out.mono ?_;rintro e w1 ⟨rfl,rfl⟩;go_wp2_with fail;refine HQ.out _ _ _ ?_;exact bodyPost_ret (v:= .bool true) (by simp[results,Tryz.results67,go_sem]) rfl (NumSaysV.plain (show¬(6:Int)=10 by decide) HV.out (below1 _ _))
    |false=>
     rw[hi]at HI;have HV:=Lib.hid (show numberI c ng nf noPar ⟨6,dst,a,b,n,arg⟩=false from by rw[numberI_6,decide_eq_true h1,decide_eq_true h2,hg,hi];rfl);clear h0 h1 h2 hi hx hg;go_enter Tryz.func67,Tryz.ntmps67;refine wp_letter (fun Q hQ=>?_);have HQ:=Lib.hid hQ;clear hQ;go_wp2_with fail;refine HG.out.mono ?_;rintro e w1 ⟨rfl,rfl⟩;go_wp2_with fail;refine HI.out.mono ?_;rintro e w1 ⟨rfl,rfl⟩;go_wp2_with fail;refine HQ.out _ _ _ ?_;exact bodyPost_ret (v:= .bool false) (by simp[results,Tryz.results67,go_sem]) rfl (NumSaysV.plain (show¬(6:Int)=10 by decide) HV.out (below1 _ _))
   ·have e2:((arg.length:Int)==1)=false:=by simp;omega
    have HV:=Lib.hid (show numberI c ng nf noPar ⟨6,dst,a,b,n,arg⟩=false from by rw[numberI_6,decide_eq_true h1,decide_eq_false h2];rfl);clear h0 h1 h2 hx;go_enter Tryz.func67,Tryz.ntmps67;refine wp_letter (fun Q hQ=>?_);have HQ:=Lib.hid hQ;clear hQ;go_wp2_with fail;refine HG.out.mono ?_;rintro e w1 ⟨rfl,rfl⟩;go_wp2_with fail;refine HQ.out _ _ _ ?_;exact bodyPost_ret (v:= .bool false) (by simp[results,Tryz.results67,go_sem]) rfl (NumSaysV.plain (show¬(6:Int)=10 by decide) HV.out (below1 _ _))
  ·rw[decide_eq_false h1]at HG;have HV:=Lib.hid (show numberI c ng nf noPar ⟨6,dst,a,b,n,arg⟩=false from by rw[numberI_6,decide_eq_false h1];rfl);clear h0 h1 hx;go_enter Tryz.func67,Tryz.ntmps67;refine wp_letter (fun Q hQ=>?_);have HQ:=Lib.hid hQ;clear hQ;go_wp2_with fail;refine HG.out.mono ?_;rintro e w1 ⟨rfl,rfl⟩;go_wp2_with fail;refine HQ.out _ _ _ ?_;exact bodyPost_ret (v:= .bool false) (by simp[results,Tryz.results67,go_sem]) rfl (NumSaysV.plain (show¬(6:Int)=10 by decide) HV.out (below1 _ _))
 ·have e0:decide (n≤30)=false:=by simpa using h0
  have HV:=Lib.hid (show numberI c ng nf noPar ⟨6,dst,a,b,n,arg⟩=false from by rw[numberI_6,decide_eq_false (fun h=>h0 h.2)];rfl);clear h0 HG hx;go_enter Tryz.func67,Tryz.ntmps67;refine wp_letter (fun Q hQ=>?_);have HQ:=Lib.hid hQ;clear hQ;go_wp2_with fail;refine HQ.out _ _ _ ?_;exact bodyPost_ret (v:= .bool false) (by simp[results,Tryz.results67,go_sem]) rfl (NumSaysV.plain (show¬(6:Int)=10 by decide) HV.out (below1 _ _))
theorem vnum_15(PQ:Bool→World→Prop)(ab:Nat)(c:CodeS)(LA:Option Addr)(lc:Nat)(BA:Option Addr)(bc:Nat)(nf ng:Int)(pv mv:Value)(dst a b n:Int)(arg:List Int)(A:Option Addr)(cap B:Nat)(w:World)
  (h:VAsk w ab c LA lc BA bc nf ng pv mv)(mb mln:Nat)(hmv:mv= .map (some mb))(hL:LabM w mb mln (labO c.ins))(hn:In64 n):
  Calls Tryz.prog 67 #[.pointer (some ⟨ab,0,.none⟩),insV ⟨15,dst,a,b,n,arg⟩ A cap] w fun e w'=>NumSaysV PQ c ng nf ⟨15,dst,a,b,n,arg⟩ w e w':=by
 unfold insV;simp only;subst hmv;have r7:w.cell? ⟨ab,7,.none⟩=some (.map (some mb)):=Row.cell h rfl;have rl:=Row.lt h;have hlk:=((hL.below (below1 w (.cells #[.int .i64 15,.int .i64 dst,.int .i64 a,.int .i64 b,.int .i64 n,.slice A arg.length cap] 43))).below (Below.refl _ _).drew).look2 hn;rw[labO_some]at hlk;clear h hL;cases hv:labI c.ins n with
 |true=>
  rw[hv]at hlk;have HV:=Lib.hid (show numberI c ng nf noPar ⟨15,dst,a,b,n,arg⟩=true from by rw[numberI_15,hv]);clear hv;go_enter Tryz.func67,Tryz.ntmps67;refine wp_letter (fun Q hQ=>?_);have HQ:=Lib.hid hQ;clear hQ;go_wp2_with fail;refine still_allq (by kernel_rfl) (by kernel_rfl) ?_
  repeat(go_big_quiet_step (fail))
  refine wpQuiet_nil ?_;go_wp2_with fail;refine HQ.out _ _ _ ?_;exact bodyPost_ret (v:= .bool true) (by simp[results,Tryz.results67,go_sem]) rfl (NumSaysV.plain (show¬(15:Int)=10 by decide) HV.out (below1 _ _).drew)
 |false=>
  rw[hv]at hlk;have HV:=Lib.hid (show numberI c ng nf noPar ⟨15,dst,a,b,n,arg⟩=false from by rw[numberI_15,hv]);clear hv;go_enter Tryz.func67,Tryz.ntmps67;refine wp_letter (fun Q hQ=>?_);have HQ:=Lib.hid hQ;clear hQ;go_wp2_with fail;refine still_allq (by kernel_rfl) (by kernel_rfl) ?_
  repeat(go_big_quiet_step (fail))
  refine wpQuiet_nil ?_;go_wp2_with fail;refine HQ.out _ _ _ ?_;exact bodyPost_ret (v:= .bool false) (by simp[results,Tryz.results67,go_sem]) rfl (NumSaysV.plain (show¬(15:Int)=10 by decide) HV.out (below1 _ _).drew)
theorem vnum_16(PQ:Bool→World→Prop)(ab:Nat)(c:CodeS)(LA:Option Addr)(lc:Nat)(BA:Option Addr)(bc:Nat)(nf ng:Int)(pv mv:Value)(dst a b n:Int)(arg:List Int)(A:Option Addr)(cap B:Nat)(w:World)
  (h:VAsk w ab c LA lc BA bc nf ng pv mv)(mb mln:Nat)(hmv:mv= .map (some mb))(hL:LabM w mb mln (labO c.ins))(hn:In64 n):
  Calls Tryz.prog 67 #[.pointer (some ⟨ab,0,.none⟩),insV ⟨16,dst,a,b,n,arg⟩ A cap] w fun e w'=>NumSaysV PQ c ng nf ⟨16,dst,a,b,n,arg⟩ w e w':=by
 unfold insV;simp only;subst hmv;have r7:w.cell? ⟨ab,7,.none⟩=some (.map (some mb)):=Row.cell h rfl;have rl:=Row.lt h;have hlk:=((hL.below (below1 w (.cells #[.int .i64 16,.int .i64 dst,.int .i64 a,.int .i64 b,.int .i64 n,.slice A arg.length cap] 43))).below (Below.refl _ _).drew).look2 hn;rw[labO_some]at hlk;clear h hL;cases hv:labI c.ins n with
 |true=>
  rw[hv]at hlk;have HV:=Lib.hid (show numberI c ng nf noPar ⟨16,dst,a,b,n,arg⟩=true from by rw[numberI_16,hv]);clear hv;go_enter Tryz.func67,Tryz.ntmps67;refine wp_letter (fun Q hQ=>?_);have HQ:=Lib.hid hQ;clear hQ;go_wp2_with fail;refine still_allq (by kernel_rfl) (by kernel_rfl) ?_
  repeat(go_big_quiet_step (fail))
  refine wpQuiet_nil ?_;go_wp2_with fail;refine HQ.out _ _ _ ?_;exact bodyPost_ret (v:= .bool true) (by simp[results,Tryz.results67,go_sem]) rfl (NumSaysV.plain (show¬(16:Int)=10 by decide) HV.out (below1 _ _).drew)
 |false=>
  rw[hv]at hlk;have HV:=Lib.hid (show numberI c ng nf noPar ⟨16,dst,a,b,n,arg⟩=false from by rw[numberI_16,hv]);clear hv;go_enter Tryz.func67,Tryz.ntmps67;refine wp_letter (fun Q hQ=>?_);have HQ:=Lib.hid hQ;clear hQ;go_wp2_with fail;refine still_allq (by kernel_rfl) (by kernel_rfl) ?_
  repeat(go_big_quiet_step (fail))
  refine wpQuiet_nil ?_;go_wp2_with fail;refine HQ.out _ _ _ ?_;exact bodyPost_ret (v:= .bool false) (by simp[results,Tryz.results67,go_sem]) rfl (NumSaysV.plain (show¬(16:Int)=10 by decide) HV.out (below1 _ _).drew)
theorem vnum_10(PQ:Bool→World→Prop)(ab:Nat)(c:CodeS)(LA:Option Addr)(lc:Nat)(BA:Option Addr)(bc:Nat)(nf ng:Int)(pv mv:Value)(dst a b n:Int)(arg:List Int)(A:Option Addr)(cap B:Nat)(w:World)
  (h:VAsk w ab c LA lc BA bc nf ng pv mv)(cv:Value)(hpv:pv= .func (.func 30) #[] #[cv])(hB:B≤w.heap.size)(hx:LongsAt w B arg (.slice A arg.length cap))
  (hpar:(0≤n∧n<nf)→∀W,Below w.heap.size w W→Calls Tryz.prog 30 #[.int .i64 n,.int .i64 arg.length,cv] W fun e w'=>∃b,e= .returned (.bool b)∧PQ b w'):
  Calls Tryz.prog 67 #[.pointer (some ⟨ab,0,.none⟩),insV ⟨10,dst,a,b,n,arg⟩ A cap] w fun e w'=>NumSaysV PQ c ng nf ⟨10,dst,a,b,n,arg⟩ w e w':=by
 unfold insV;simp only;subst hpv;have hb:=below1 w (.cells #[.int .i64 10,.int .i64 dst,.int .i64 a,.int .i64 b,.int .i64 n,.slice A arg.length cap] 43);have HC:=Lib.hid (vaskcall_any PQ ab c LA lc BA bc nf ng cv mv ⟨10,dst,a,b,n,arg⟩ A cap B (w.alloc (.cells #[.int .i64 10,.int .i64 dst,.int .i64 a,.int .i64 b,.int .i64 n,.slice A arg.length cap] 43)) (Row.alloc h _) (by simp;omega) (hx.below (hb.mono hB) (Nat.le_refl _)) (fun h W hW=>hpar h W (hb.trans (hW.mono hb.size))));have HB:=Lib.hid hb;clear h hx hpar hb;unfold insV at HC;simp only at HC;go_enter Tryz.func67,Tryz.ntmps67;refine wp_letter (fun Q hQ=>?_);have HQ:=Lib.hid hQ;clear hQ;go_wp2_with fail;refine HC.out.mono ?_;rintro e w1 ⟨b1,rfl,hs⟩;have HS:=Lib.hid hs;clear hs;go_wp2_with fail;refine HQ.out _ _ _ ?_
 refine bodyPost_ret (v:= .bool b1) (by simp[results,Tryz.results67,go_sem]) rfl ⟨b1,rfl,?_⟩;rcases HS.out with⟨h1,h2⟩|⟨h1,h2,h3⟩
 ·exact Or.inl ⟨rfl,h1,h2⟩
 ·exact Or.inr ⟨fun h=>(by rw[h.2]at h1;cases h1),by rw[h2,numberI_10],HB.out.trans (h3.mono HB.out.size)⟩
theorem vnum_any_other(PQ:Bool→World→Prop)(ab:Nat)(c:CodeS)(LA:Option Addr)(lc:Nat)(BA:Option Addr)(bc:Nat)(nf ng:Int)(pv mv:Value)(op dst a b n:Int)(arg:List Int)(A:Option Addr)(cap B:Nat)(w:World)
  (h:VAsk w ab c LA lc BA bc nf ng pv mv)(e3:(op==3)=false)(e4:(op==4)=false)(e5:(op==5)=false)(e6:(op==6)=false)(e7:(op==7)=false)(e8:(op==8)=false)(e9:(op==9)=false)(e10:(op==10)=false)(e15:(op==15)=false)(e16:(op==16)=false):
  Calls Tryz.prog 67 #[.pointer (some ⟨ab,0,.none⟩),insV ⟨op,dst,a,b,n,arg⟩ A cap] w fun e w'=>NumSaysV PQ c ng nf ⟨op,dst,a,b,n,arg⟩ w e w':=by
 unfold insV;simp only;have HV:=Lib.hid (show numberI c ng nf noPar ⟨op,dst,a,b,n,arg⟩=true from by simp at e3 e4 e5 e6 e7 e8 e9 e10 e15 e16;simp[numberI, *]);have h10:op≠10:=by simpa using e10
 have H10:=Lib.hid h10;clear h h10;go_enter Tryz.func67,Tryz.ntmps67;refine wp_letter (fun Q hQ=>?_);have HQ:=Lib.hid hQ;clear hQ;go_wp2_with fail;refine HQ.out _ _ _ ?_;exact bodyPost_ret (v:= .bool true) (by simp[results,Tryz.results67,go_sem]) rfl (NumSaysV.plain H10.out HV.out (below1 _ _))
theorem vnumber_any(PQ:Bool→World→Prop)(ab:Nat)(c:CodeS)(LA:Option Addr)(lc:Nat)(BA:Option Addr)(bc:Nat)(nf ng:Int)(cv:Value)(mb mln:Nat)(x:InsS)(A:Option Addr)(cap B:Nat)(w:World)
  (h:VAsk w ab c LA lc BA bc nf ng (.func (.func 30) #[] #[cv]) (.map (some mb)))(hL:LabM w mb mln (labO c.ins))(hn:In64 x.n)(hB:B≤w.heap.size)(hx:LongsAt w B x.arg (.slice A x.arg.length cap))
  (hpar:(0≤x.n∧x.n<nf)→∀W,Below w.heap.size w W→Calls Tryz.prog 30 #[.int .i64 x.n,.int .i64 x.arg.length,cv] W fun e w'=>∃b,e= .returned (.bool b)∧PQ b w'):
  Calls Tryz.prog 67 #[.pointer (some ⟨ab,0,.none⟩),insV x A cap] w fun e w'=>NumSaysV PQ c ng nf x w e w':=by
 obtain⟨op,dst,a,b,n,arg⟩:=x;simp only at hn hx hpar;have hop:op=3∨op=4∨op=5∨op=6∨op=7∨op=8∨op=9∨op=10∨op=15∨op=16∨(op≠3∧op≠4∧op≠5∧op≠6∧op≠7∧op≠8∧op≠9∧op≠10∧op≠15∧op≠16):=by omega
 rcases hop with rfl|rfl|rfl|rfl|rfl|rfl|rfl|rfl|rfl|rfl|⟨h3,h4,h5,h6,h7,h8,h9,h10,h15,h16⟩
 ·exact vnum_3 PQ ab c LA lc BA bc nf ng _ _ dst a b n arg A cap B w h
 ·exact vnum_4 PQ ab c LA lc BA bc nf ng _ _ dst a b n arg A cap B w h
 ·exact vnum_5 PQ ab c LA lc BA bc nf ng _ _ dst a b n arg A cap B w h
 ·exact vnum_6 PQ ab c LA lc BA bc nf ng _ _ dst a b n arg A cap B w h hB hx
 ·exact vnum_7 PQ ab c LA lc BA bc nf ng _ _ dst a b n arg A cap B w h
 ·exact vnum_8 PQ ab c LA lc BA bc nf ng _ _ dst a b n arg A cap B w h
 ·exact vnum_9 PQ ab c LA lc BA bc nf ng _ _ dst a b n arg A cap B w h
 ·exact vnum_10 PQ ab c LA lc BA bc nf ng _ _ dst a b n arg A cap B w h cv rfl hB hx hpar
 ·exact vnum_15 PQ ab c LA lc BA bc nf ng _ _ dst a b n arg A cap B w h mb mln rfl hL hn
 ·exact vnum_16 PQ ab c LA lc BA bc nf ng _ _ dst a b n arg A cap B w h mb mln rfl hL hn
 ·exact vnum_any_other PQ ab c LA lc BA bc nf ng _ _ op dst a b n arg A cap B w h (by simpa using h3) (by simpa using h4) (by simpa using h5) (by simpa using h6) (by simpa using h7) (by simpa using h8) (by simpa using h9) (by simpa using h10) (by simpa using h15) (by simpa using h16)
end Go.Proofs.YtlenilbkifofjaaGreatDoor
