/- The page's memory: whether two places may be compared. Conditions: as stated. -/
import Derived.Test.YtlenilbkifofjaaGreatDoorMemAtZz
import Derived.Deep.RegionWith
set_option linter.unusedVariables false
set_option linter.unusedSimpArgs false
set_option maxHeartbeats 8000000
set_option maxRecDepth 100000
namespace Go.Proofs.YtlenilbkifofjaaGreatDoor
open Go.RowKit
theorem cmp_dead(pb po:Nat)(A:Option Addr)(n cap B:Nat)(a b:V)(M:List MO)(w:World)(hB:B≤w.heap.size)(hpb:pb<w.heap.size)(hc:w.cell? ⟨pb,po,none⟩=some (.slice A n cap))(hM:MemR w B A n M)(hk:a.obj<n)(hk':b.obj<n)(hl:(mget M a.obj).live=false):
  Calls Tryz.prog 73 #[.pointer (some ⟨pb,po,none⟩),.agg #[.int .i64 a.obj,.int .i64 a.n],.agg #[.int .i64 b.obj,.int .i64 b.n]] w fun e w'=>e= .returned (.bool false)∧Below w.heap.size w w':=by
 obtain⟨mb,mo,rfl,hmb',_,_,_,_,_,c2,_⟩:=hM.get hk;obtain⟨mb',mo',hA',_,_,_,_,_,_,d2,_⟩:=hM.get hk';injection hA' with hA';injection hA' with hA1 hA2;subst hA1 hA2;have hmb:mb<w.heap.size:=by omega
 have hk1:(a.obj:Int)<(n:Int):=by omega
 have hk1':(b.obj:Int)<(n:Int):=by omega
 have hn:=hM.2.1;rw[hl]at c2;have HM:=Lib.hid hM;have HC:=Lib.hid hc;clear hM;go_enter Tryz.func73,Tryz.ntmps73;go_wp2_with fail;go_quiet (fail);go_wp2_with fail;go_ret;exact⟨rfl,below_drewN (below2 _ _ _) _⟩
theorem cmp_dead2(pb po:Nat)(A:Option Addr)(n cap B:Nat)(a b:V)(M:List MO)(w:World)(hB:B≤w.heap.size)(hpb:pb<w.heap.size)(hc:w.cell? ⟨pb,po,none⟩=some (.slice A n cap))(hM:MemR w B A n M)(hk:a.obj<n)(hk':b.obj<n)(hl:(mget M a.obj).live=true)(hl':(mget M b.obj).live=false):
  Calls Tryz.prog 73 #[.pointer (some ⟨pb,po,none⟩),.agg #[.int .i64 a.obj,.int .i64 a.n],.agg #[.int .i64 b.obj,.int .i64 b.n]] w fun e w'=>e= .returned (.bool false)∧Below w.heap.size w w':=by
 obtain⟨mb,mo,rfl,hmb',_,_,_,_,_,c2,_⟩:=hM.get hk;obtain⟨mb',mo',hA',_,_,_,_,_,_,d2,_⟩:=hM.get hk';injection hA' with hA';injection hA' with hA1 hA2;subst hA1 hA2;have hmb:mb<w.heap.size:=by omega
 have hk1:(a.obj:Int)<(n:Int):=by omega
 have hk1':(b.obj:Int)<(n:Int):=by omega
 have hn:=hM.2.1;rw[hl]at c2;rw[hl']at d2;have HM:=Lib.hid hM;have HC:=Lib.hid hc;clear hM;go_enter Tryz.func73,Tryz.ntmps73;go_wp2_with fail;go_quiet (fail);go_wp2_with fail;go_ret;exact⟨rfl,below_drewN (below2 _ _ _) _⟩
theorem cmp_same(pb po:Nat)(A:Option Addr)(n cap B:Nat)(a b:V)(M:List MO)(w:World)(hB:B≤w.heap.size)(hpb:pb<w.heap.size)(hc:w.cell? ⟨pb,po,none⟩=some (.slice A n cap))(hM:MemR w B A n M)(hk:a.obj<n)(hk':b.obj<n)(hl:(mget M a.obj).live=true)(hl':(mget M b.obj).live=true)(ho:a.obj=b.obj):
  Calls Tryz.prog 73 #[.pointer (some ⟨pb,po,none⟩),.agg #[.int .i64 a.obj,.int .i64 a.n],.agg #[.int .i64 b.obj,.int .i64 b.n]] w fun e w'=>e= .returned (.bool true)∧Below w.heap.size w w':=by
 obtain⟨mb,mo,rfl,hmb',_,_,_,_,_,c2,_⟩:=hM.get hk;obtain⟨mb',mo',hA',_,_,_,_,_,_,d2,_⟩:=hM.get hk';injection hA' with hA';injection hA' with hA1 hA2;subst hA1 hA2;have hmb:mb<w.heap.size:=by omega
 have hk1:(a.obj:Int)<(n:Int):=by omega
 have hk1':(b.obj:Int)<(n:Int):=by omega
 have hn:=hM.2.1;rw[hl]at c2;rw[hl']at d2;have ho':((a.obj:Int)==(b.obj:Int))=true:=by simp[ho]
 clear ho hl hl';have HM:=Lib.hid hM;have HC:=Lib.hid hc;clear hM;go_enter Tryz.func73,Tryz.ntmps73;go_wp2_with fail;go_quiet (fail);go_wp2_with fail;refine region_grow (by kernel_rfl) (by kernel_rfl) (fun hG=>?_)
 repeat(go_big_quiet_step ((go_at_call 89;exact call_grow_drew (bytes_any pb po _ n cap _ w.heap.size M _ (cell_below HC.out (grow_below (below_drewN (below2 _ _ _) _) (by simp[World.drewN];omega) _) hpb) (HM.out.below (grow_below (below_drewN ((below2 _ _ _).mono hB) _) (by simp[World.drewN];omega) _) hB) (by first|exact hk|exact hk')))))
 refine wpQuiet_nil ?_;rintro⟨w1,hb1⟩;simp only[];go_wp2_with fail;go_ret;exact⟨rfl,(below_drewN (below2 _ _ _) _).trans (hb1.mono (by simp[World.drewN];omega))⟩
theorem cmp_far(pb po:Nat)(A:Option Addr)(n cap B:Nat)(a b:V)(M:List MO)(w:World)(hB:B≤w.heap.size)(hpb:pb<w.heap.size)(hc:w.cell? ⟨pb,po,none⟩=some (.slice A n cap))(hM:MemR w B A n M)(hk:a.obj<n)(hk':b.obj<n)(hl:(mget M a.obj).live=true)(hl':(mget M b.obj).live=true)(ho:¬a.obj=b.obj)(h1:¬a.n<(mget M a.obj).bytes):
  Calls Tryz.prog 73 #[.pointer (some ⟨pb,po,none⟩),.agg #[.int .i64 a.obj,.int .i64 a.n],.agg #[.int .i64 b.obj,.int .i64 b.n]] w fun e w'=>e= .returned (.bool false)∧Below w.heap.size w w':=by
 obtain⟨mb,mo,rfl,hmb',_,_,_,_,_,c2,_⟩:=hM.get hk;obtain⟨mb',mo',hA',_,_,_,_,_,_,d2,_⟩:=hM.get hk';injection hA' with hA';injection hA' with hA1 hA2;subst hA1 hA2;have hmb:mb<w.heap.size:=by omega
 have hk1:(a.obj:Int)<(n:Int):=by omega
 have hk1':(b.obj:Int)<(n:Int):=by omega
 have hn:=hM.2.1;rw[hl]at c2;rw[hl']at d2;have ho':((a.obj:Int)==(b.obj:Int))=false:=by simp;omega
 have h1':decide (a.n<(mget M a.obj).bytes)=false:=by simpa using h1
 clear hl hl';have HM:=Lib.hid hM;have HC:=Lib.hid hc;clear hM;go_enter Tryz.func73,Tryz.ntmps73;go_wp2_with fail;go_quiet (fail);go_wp2_with fail;refine region_grow (by kernel_rfl) (by kernel_rfl) (fun hG=>?_)
 repeat(go_big_quiet_step ((go_at_call 89;exact call_grow_drew (bytes_any pb po _ n cap _ w.heap.size M _ (cell_below HC.out (grow_below (below_drewN (below2 _ _ _) _) (by simp[World.drewN];omega) _) hpb) (HM.out.below (grow_below (below_drewN ((below2 _ _ _).mono hB) _) (by simp[World.drewN];omega) _) hB) (by first|exact hk|exact hk')))))
 refine wpQuiet_nil ?_;rintro⟨w1,hb1⟩;simp only[];go_wp2_with fail;go_ret;exact⟨rfl,(below_drewN (below2 _ _ _) _).trans (hb1.mono (by simp[World.drewN];omega))⟩
theorem cmp_far2(pb po:Nat)(A:Option Addr)(n cap B:Nat)(a b:V)(M:List MO)(w:World)(hB:B≤w.heap.size)(hpb:pb<w.heap.size)(hc:w.cell? ⟨pb,po,none⟩=some (.slice A n cap))(hM:MemR w B A n M)(hk:a.obj<n)(hk':b.obj<n)(hl:(mget M a.obj).live=true)(hl':(mget M b.obj).live=true)(ho:¬a.obj=b.obj)(h1:a.n<(mget M a.obj).bytes)(h2:¬b.n<(mget M b.obj).bytes):
  Calls Tryz.prog 73 #[.pointer (some ⟨pb,po,none⟩),.agg #[.int .i64 a.obj,.int .i64 a.n],.agg #[.int .i64 b.obj,.int .i64 b.n]] w fun e w'=>e= .returned (.bool false)∧Below w.heap.size w w':=by
 obtain⟨mb,mo,rfl,hmb',_,_,_,_,_,c2,_⟩:=hM.get hk;obtain⟨mb',mo',hA',_,_,_,_,_,_,d2,_⟩:=hM.get hk';injection hA' with hA';injection hA' with hA1 hA2;subst hA1 hA2;have hmb:mb<w.heap.size:=by omega
 have hk1:(a.obj:Int)<(n:Int):=by omega
 have hk1':(b.obj:Int)<(n:Int):=by omega
 have hn:=hM.2.1;rw[hl]at c2;rw[hl']at d2;have ho':((a.obj:Int)==(b.obj:Int))=false:=by simp;omega
 have h1':decide (a.n<(mget M a.obj).bytes)=true:=by simpa using h1
 have h2':decide (b.n<(mget M b.obj).bytes)=false:=by simpa using h2
 clear hl hl';have HM:=Lib.hid hM;have HC:=Lib.hid hc;clear hM;go_enter Tryz.func73,Tryz.ntmps73;go_wp2_with fail;go_quiet (fail);go_wp2_with fail;refine region_grow (by kernel_rfl) (by kernel_rfl) (fun hG=>?_)
 repeat(go_big_quiet_step ((go_at_call 89;exact call_grow_drew (bytes_any pb po _ n cap _ w.heap.size M _ (cell_below HC.out (grow_below (below_drewN (below2 _ _ _) _) (by simp[World.drewN];omega) _) hpb) (HM.out.below (grow_below (below_drewN ((below2 _ _ _).mono hB) _) (by simp[World.drewN];omega) _) hB) (by first|exact hk|exact hk')))))
 refine wpQuiet_nil ?_;rintro⟨w1,hb1⟩;simp only[];go_wp2_with fail;go_ret;exact⟨rfl,(below_drewN (below2 _ _ _) _).trans (hb1.mono (by simp[World.drewN];omega))⟩
theorem cmp_yes(pb po:Nat)(A:Option Addr)(n cap B:Nat)(a b:V)(M:List MO)(w:World)(hB:B≤w.heap.size)(hpb:pb<w.heap.size)(hc:w.cell? ⟨pb,po,none⟩=some (.slice A n cap))(hM:MemR w B A n M)(hk:a.obj<n)(hk':b.obj<n)(hl:(mget M a.obj).live=true)(hl':(mget M b.obj).live=true)(ho:¬a.obj=b.obj)(h1:a.n<(mget M a.obj).bytes)(h2:b.n<(mget M b.obj).bytes):
  Calls Tryz.prog 73 #[.pointer (some ⟨pb,po,none⟩),.agg #[.int .i64 a.obj,.int .i64 a.n],.agg #[.int .i64 b.obj,.int .i64 b.n]] w fun e w'=>e= .returned (.bool true)∧Below w.heap.size w w':=by
 obtain⟨mb,mo,rfl,hmb',_,_,_,_,_,c2,_⟩:=hM.get hk;obtain⟨mb',mo',hA',_,_,_,_,_,_,d2,_⟩:=hM.get hk';injection hA' with hA';injection hA' with hA1 hA2;subst hA1 hA2;have hmb:mb<w.heap.size:=by omega
 have hk1:(a.obj:Int)<(n:Int):=by omega
 have hk1':(b.obj:Int)<(n:Int):=by omega
 have hn:=hM.2.1;rw[hl]at c2;rw[hl']at d2;have ho':((a.obj:Int)==(b.obj:Int))=false:=by simp;omega
 have h1':decide (a.n<(mget M a.obj).bytes)=true:=by simpa using h1
 have h2':decide (b.n<(mget M b.obj).bytes)=true:=by simpa using h2
 clear hl hl';have HM:=Lib.hid hM;have HC:=Lib.hid hc;clear hM;go_enter Tryz.func73,Tryz.ntmps73;go_wp2_with fail;go_quiet (fail);go_wp2_with fail;refine region_grow (by kernel_rfl) (by kernel_rfl) (fun hG=>?_)
 repeat(go_big_quiet_step ((go_at_call 89;exact call_grow_drew (bytes_any pb po _ n cap _ w.heap.size M _ (cell_below HC.out (grow_below (below_drewN (below2 _ _ _) _) (by simp[World.drewN];omega) _) hpb) (HM.out.below (grow_below (below_drewN ((below2 _ _ _).mono hB) _) (by simp[World.drewN];omega) _) hB) (by first|exact hk|exact hk')))))
 refine wpQuiet_nil ?_;rintro⟨w1,hb1⟩;simp only[];go_wp2_with fail;go_ret;exact⟨rfl,(below_drewN (below2 _ _ _) _).trans (hb1.mono (by simp[World.drewN];omega))⟩
theorem cmp_any(pb po:Nat)(A:Option Addr)(n cap B:Nat)(a b:V)(M:List MO)(w:World)(hB:B≤w.heap.size)(hpb:pb<w.heap.size)(hc:w.cell? ⟨pb,po,none⟩=some (.slice A n cap))(hM:MemR w B A n M)(hk:a.obj<n)(hk':b.obj<n):
  Calls Tryz.prog 73 #[.pointer (some ⟨pb,po,none⟩),.agg #[.int .i64 a.obj,.int .i64 a.n],.agg #[.int .i64 b.obj,.int .i64 b.n]] w fun e w'=>e= .returned (.bool (cmpF M a b))∧Below w.heap.size w w':=by
 unfold cmpF;cases hl:(mget M a.obj).live with
 |false=>exact cmp_dead pb po A n cap B a b M w hB hpb hc hM hk hk' hl
 |true=>
  cases hl':(mget M b.obj).live with
  |false=>exact cmp_dead2 pb po A n cap B a b M w hB hpb hc hM hk hk' hl hl'
  |true=>
   by_cases ho:a.obj=b.obj
   ·rw[decide_eq_true ho];exact cmp_same pb po A n cap B a b M w hB hpb hc hM hk hk' hl hl' ho
   ·rw[decide_eq_false ho];by_cases h1:a.n<(mget M a.obj).bytes
    ·rw[decide_eq_true h1];by_cases h2:b.n<(mget M b.obj).bytes
     ·rw[decide_eq_true h2];exact cmp_yes pb po A n cap B a b M w hB hpb hc hM hk hk' hl hl' ho h1 h2
     ·rw[decide_eq_false h2];exact cmp_far2 pb po A n cap B a b M w hB hpb hc hM hk hk' hl hl' ho h1 h2
    ·rw[decide_eq_false h1];exact cmp_far pb po A n cap B a b M w hB hpb hc hM hk hk' hl hl' ho h1
end Go.Proofs.YtlenilbkifofjaaGreatDoor
