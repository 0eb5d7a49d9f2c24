/- The page's memory: whether two places may be compared. Conditions: as stated. -/
import Derived.Test.YtikbdplllopjlaaGreatQ01Zz
set_option linter.unusedVariables false
set_option linter.unusedSimpArgs false
set_option maxHeartbeats 8000000
set_option maxRecDepth 100000
open Go.Proofs.Tryz
namespace Go.Proofs.YtikbdplllopjlaaGreat
open Go.RowKit
theorem Pd(pb po:Nat)(A:Option Addr)(n aA B:Nat)(a b:V)(M:List MO)(w:World)(hB:B<=w.heap.size)(aZ:pb<w.heap.size)(hc:w.cell? ⟨pb,po,none⟩=some (.slice A n aA))(hM:cT w B A n M)(hk:a.obj<n)(iT:b.obj<n)(hl:(aF M a.obj).live=false):
  Calls prog 110 #[.pointer (some ⟨pb,po,none⟩),.agg #[.int .i64 a.obj,.int .i64 a.n],.agg #[.int .i64 b.obj,.int .i64 b.n]] w λe w'=>e= .returned (.bool false)/\Below w.heap.size w w':=by
 obtain⟨mb,mo,rfl,gK,_,_,_,_,_,c2,_⟩:=hM.get hk;obtain⟨GH,GG,hA',_,_,_,_,_,_,d2,_⟩:=hM.get iT;injection hA' with hA';injection hA' with zB xy;subst zB xy;have eW:mb<w.heap.size:=by omega
 have bA:(a.obj:Int)<(n:Int):=by omega
 have pV:(b.obj:Int)<(n:Int):=by omega
 have hn:=hM.2.1;rw[hl]at c2;have HM:=ae hM;have HC:=ae hc;clear hM;go_enter func110,ntmps110;go_wp2_with fail;go_quiet (fail);go_wp2_with fail;go_ret;exact⟨rfl,below_drewN (aJ _ _ _) _⟩
theorem L6(pb po:Nat)(A:Option Addr)(n aA B:Nat)(a b:V)(M:List MO)(w:World)(hB:B<=w.heap.size)(aZ:pb<w.heap.size)(hc:w.cell? ⟨pb,po,none⟩=some (.slice A n aA))(hM:cT w B A n M)(hk:a.obj<n)(iT:b.obj<n)(hl:(aF M a.obj).live=true)(hl':(aF M b.obj).live=false):
  Calls prog 110 #[.pointer (some ⟨pb,po,none⟩),.agg #[.int .i64 a.obj,.int .i64 a.n],.agg #[.int .i64 b.obj,.int .i64 b.n]] w λe w'=>e= .returned (.bool false)/\Below w.heap.size w w':=by
 obtain⟨mb,mo,rfl,gK,_,_,_,_,_,c2,_⟩:=hM.get hk;obtain⟨GH,GG,hA',_,_,_,_,_,_,d2,_⟩:=hM.get iT;injection hA' with hA';injection hA' with zB xy;subst zB xy;have eW:mb<w.heap.size:=by omega
 have bA:(a.obj:Int)<(n:Int):=by omega
 have pV:(b.obj:Int)<(n:Int):=by omega
 have hn:=hM.2.1;rw[hl]at c2;rw[hl']at d2;have HM:=ae hM;have HC:=ae hc;clear hM;go_enter func110,ntmps110;go_wp2_with fail;go_quiet (fail);go_wp2_with fail;go_ret;exact⟨rfl,below_drewN (aJ _ _ _) _⟩
theorem Pb(pb po:Nat)(A:Option Addr)(n aA B:Nat)(a b:V)(M:List MO)(w:World)(hB:B<=w.heap.size)(aZ:pb<w.heap.size)(hc:w.cell? ⟨pb,po,none⟩=some (.slice A n aA))(hM:cT w B A n M)(hk:a.obj<n)(iT:b.obj<n)(hl:(aF M a.obj).live=true)(hl':(aF M b.obj).live=true)(ho:a.obj=b.obj):
  Calls prog 110 #[.pointer (some ⟨pb,po,none⟩),.agg #[.int .i64 a.obj,.int .i64 a.n],.agg #[.int .i64 b.obj,.int .i64 b.n]] w λe w'=>e= .returned (.bool true)/\Below w.heap.size w w':=by
 obtain⟨mb,mo,rfl,gK,_,_,_,_,_,c2,_⟩:=hM.get hk;obtain⟨GH,GG,hA',_,_,_,_,_,_,d2,_⟩:=hM.get iT;injection hA' with hA';injection hA' with zB xy;subst zB xy;have eW:mb<w.heap.size:=by omega
 have bA:(a.obj:Int)<(n:Int):=by omega
 have pV:(b.obj:Int)<(n:Int):=by omega
 have hn:=hM.2.1;rw[hl]at c2;rw[hl']at d2;have rL:((a.obj:Int)==(b.obj:Int))=true:=by simp[ho]
 clear ho hl hl';have HM:=ae hM;have HC:=ae hc;clear hM;go_enter func110,ntmps110;go_wp2_with fail;go_quiet (fail);go_wp2_with fail;refine cP (by kernel_rfl) (by kernel_rfl) (λhG=>?_)
 repeat(go_big_quiet_step ((go_at_call 105;exact kG (jW pb po _ n aA _ w.heap.size M _ (ag HC (bY (below_drewN (aJ _ _ _) _) (by simp[World.drewN];omega) _) aZ) (HM.below (bY (below_drewN ((aJ _ _ _).mono hB) _) (by simp[World.drewN];omega) _) hB) (by first|exact hk|exact iT)))))
 refine wpQuiet_nil ?_;rintro⟨w1,hb1⟩;simp only[];go_wp2_with fail;go_ret;exact⟨rfl,(below_drewN (aJ _ _ _) _).trans (hb1.mono (by simp[World.drewN];omega))⟩
theorem RN(pb po:Nat)(A:Option Addr)(n aA B:Nat)(a b:V)(M:List MO)(w:World)(hB:B<=w.heap.size)(aZ:pb<w.heap.size)(hc:w.cell? ⟨pb,po,none⟩=some (.slice A n aA))(hM:cT w B A n M)(hk:a.obj<n)(iT:b.obj<n)(hl:(aF M a.obj).live=true)(hl':(aF M b.obj).live=true)(ho:¬a.obj=b.obj)(h1:¬a.n<(aF M a.obj).bytes):
  Calls prog 110 #[.pointer (some ⟨pb,po,none⟩),.agg #[.int .i64 a.obj,.int .i64 a.n],.agg #[.int .i64 b.obj,.int .i64 b.n]] w λe w'=>e= .returned (.bool false)/\Below w.heap.size w w':=by
 obtain⟨mb,mo,rfl,gK,_,_,_,_,_,c2,_⟩:=hM.get hk;obtain⟨GH,GG,hA',_,_,_,_,_,_,d2,_⟩:=hM.get iT;injection hA' with hA';injection hA' with zB xy;subst zB xy;have eW:mb<w.heap.size:=by omega
 have bA:(a.obj:Int)<(n:Int):=by omega
 have pV:(b.obj:Int)<(n:Int):=by omega
 have hn:=hM.2.1;rw[hl]at c2;rw[hl']at d2;have rL:((a.obj:Int)==(b.obj:Int))=false:=by simp;omega
 have GW:decide (a.n<(aF M a.obj).bytes)=false:=by simpa using h1
 clear hl hl';have HM:=ae hM;have HC:=ae hc;clear hM;go_enter func110,ntmps110;go_wp2_with fail;go_quiet (fail);go_wp2_with fail;refine cP (by kernel_rfl) (by kernel_rfl) (λhG=>?_)
 repeat(go_big_quiet_step ((go_at_call 105;exact kG (jW pb po _ n aA _ w.heap.size M _ (ag HC (bY (below_drewN (aJ _ _ _) _) (by simp[World.drewN];omega) _) aZ) (HM.below (bY (below_drewN ((aJ _ _ _).mono hB) _) (by simp[World.drewN];omega) _) hB) (by first|exact hk|exact iT)))))
 refine wpQuiet_nil ?_;rintro⟨w1,hb1⟩;simp only[];go_wp2_with fail;go_ret;exact⟨rfl,(below_drewN (aJ _ _ _) _).trans (hb1.mono (by simp[World.drewN];omega))⟩
theorem Pc(pb po:Nat)(A:Option Addr)(n aA B:Nat)(a b:V)(M:List MO)(w:World)(hB:B<=w.heap.size)(aZ:pb<w.heap.size)(hc:w.cell? ⟨pb,po,none⟩=some (.slice A n aA))(hM:cT w B A n M)(hk:a.obj<n)(iT:b.obj<n)(hl:(aF M a.obj).live=true)(hl':(aF M b.obj).live=true)(ho:¬a.obj=b.obj)(h1:a.n<(aF M a.obj).bytes)(h2:¬b.n<(aF M b.obj).bytes):
  Calls prog 110 #[.pointer (some ⟨pb,po,none⟩),.agg #[.int .i64 a.obj,.int .i64 a.n],.agg #[.int .i64 b.obj,.int .i64 b.n]] w λe w'=>e= .returned (.bool false)/\Below w.heap.size w w':=by
 obtain⟨mb,mo,rfl,gK,_,_,_,_,_,c2,_⟩:=hM.get hk;obtain⟨GH,GG,hA',_,_,_,_,_,_,d2,_⟩:=hM.get iT;injection hA' with hA';injection hA' with zB xy;subst zB xy;have eW:mb<w.heap.size:=by omega
 have bA:(a.obj:Int)<(n:Int):=by omega
 have pV:(b.obj:Int)<(n:Int):=by omega
 have hn:=hM.2.1;rw[hl]at c2;rw[hl']at d2;have rL:((a.obj:Int)==(b.obj:Int))=false:=by simp;omega
 have GW:decide (a.n<(aF M a.obj).bytes)=true:=by simpa using h1
 have IM:decide (b.n<(aF M b.obj).bytes)=false:=by simpa using h2
 clear hl hl';have HM:=ae hM;have HC:=ae hc;clear hM;go_enter func110,ntmps110;go_wp2_with fail;go_quiet (fail);go_wp2_with fail;refine cP (by kernel_rfl) (by kernel_rfl) (λhG=>?_)
 repeat(go_big_quiet_step ((go_at_call 105;exact kG (jW pb po _ n aA _ w.heap.size M _ (ag HC (bY (below_drewN (aJ _ _ _) _) (by simp[World.drewN];omega) _) aZ) (HM.below (bY (below_drewN ((aJ _ _ _).mono hB) _) (by simp[World.drewN];omega) _) hB) (by first|exact hk|exact iT)))))
 refine wpQuiet_nil ?_;rintro⟨w1,hb1⟩;simp only[];go_wp2_with fail;go_ret;exact⟨rfl,(below_drewN (aJ _ _ _) _).trans (hb1.mono (by simp[World.drewN];omega))⟩
theorem RM(pb po:Nat)(A:Option Addr)(n aA B:Nat)(a b:V)(M:List MO)(w:World)(hB:B<=w.heap.size)(aZ:pb<w.heap.size)(hc:w.cell? ⟨pb,po,none⟩=some (.slice A n aA))(hM:cT w B A n M)(hk:a.obj<n)(iT:b.obj<n)(hl:(aF M a.obj).live=true)(hl':(aF M b.obj).live=true)(ho:¬a.obj=b.obj)(h1:a.n<(aF M a.obj).bytes)(h2:b.n<(aF M b.obj).bytes):
  Calls prog 110 #[.pointer (some ⟨pb,po,none⟩),.agg #[.int .i64 a.obj,.int .i64 a.n],.agg #[.int .i64 b.obj,.int .i64 b.n]] w λe w'=>e= .returned (.bool true)/\Below w.heap.size w w':=by
 obtain⟨mb,mo,rfl,gK,_,_,_,_,_,c2,_⟩:=hM.get hk;obtain⟨GH,GG,hA',_,_,_,_,_,_,d2,_⟩:=hM.get iT;injection hA' with hA';injection hA' with zB xy;subst zB xy;have eW:mb<w.heap.size:=by omega
 have bA:(a.obj:Int)<(n:Int):=by omega
 have pV:(b.obj:Int)<(n:Int):=by omega
 have hn:=hM.2.1;rw[hl]at c2;rw[hl']at d2;have rL:((a.obj:Int)==(b.obj:Int))=false:=by simp;omega
 have GW:decide (a.n<(aF M a.obj).bytes)=true:=by simpa using h1
 have IM:decide (b.n<(aF M b.obj).bytes)=true:=by simpa using h2
 clear hl hl';have HM:=ae hM;have HC:=ae hc;clear hM;go_enter func110,ntmps110;go_wp2_with fail;go_quiet (fail);go_wp2_with fail;refine cP (by kernel_rfl) (by kernel_rfl) (λhG=>?_)
 repeat(go_big_quiet_step ((go_at_call 105;exact kG (jW pb po _ n aA _ w.heap.size M _ (ag HC (bY (below_drewN (aJ _ _ _) _) (by simp[World.drewN];omega) _) aZ) (HM.below (bY (below_drewN ((aJ _ _ _).mono hB) _) (by simp[World.drewN];omega) _) hB) (by first|exact hk|exact iT)))))
 refine wpQuiet_nil ?_;rintro⟨w1,hb1⟩;simp only[];go_wp2_with fail;go_ret;exact⟨rfl,(below_drewN (aJ _ _ _) _).trans (hb1.mono (by simp[World.drewN];omega))⟩
theorem oG(pb po:Nat)(A:Option Addr)(n aA B:Nat)(a b:V)(M:List MO)(w:World)(hB:B<=w.heap.size)(aZ:pb<w.heap.size)(hc:w.cell? ⟨pb,po,none⟩=some (.slice A n aA))(hM:cT w B A n M)(hk:a.obj<n)(iT:b.obj<n):
  Calls prog 110 #[.pointer (some ⟨pb,po,none⟩),.agg #[.int .i64 a.obj,.int .i64 a.n],.agg #[.int .i64 b.obj,.int .i64 b.n]] w λe w'=>e= .returned (.bool (nX M a b))/\Below w.heap.size w w':=by
 unfold nX;cases hl:(aF M a.obj).live with
 |false=>exact Pd pb po A n aA B a b M w hB aZ hc hM hk iT hl
 |true=>
  cases hl':(aF M b.obj).live with
  |false=>exact L6 pb po A n aA B a b M w hB aZ hc hM hk iT hl hl'
  |true=>
   by_cases ho:a.obj=b.obj
   ·rw[decide_eq_true ho];exact Pb pb po A n aA B a b M w hB aZ hc hM hk iT hl hl' ho
   ·rw[decide_eq_false ho];by_cases h1:a.n<(aF M a.obj).bytes
    ·rw[decide_eq_true h1];by_cases h2:b.n<(aF M b.obj).bytes
     ·rw[decide_eq_true h2];exact RM pb po A n aA B a b M w hB aZ hc hM hk iT hl hl' ho h1 h2
     ·rw[decide_eq_false h2];exact Pc pb po A n aA B a b M w hB aZ hc hM hk iT hl hl' ho h1 h2
    ·rw[decide_eq_false h1];exact RN pb po A n aA B a b M w hB aZ hc hM hk iT hl hl' ho h1
end Go.Proofs.YtikbdplllopjlaaGreat
