/- The page's memory: whether two places may be compared. Conditions: as stated. -/
import Derived.Test.YtinmgbodgecoeaaGreatQ01Zz
import Derived.Deep.RegionWith
set_option linter.unusedSimpArgs false
set_option linter.unusedVariables false
set_option maxHeartbeats 8000000
set_option maxRecDepth 100000
open Go.Proofs.Tryz
namespace Go.Proofs.YtinmgbodgecoeaaGreat
open Go.RowKit
theorem Ql(pb po:Nat)(A:Option Addr)(n aA B:Nat)(a b:V)(M:List MO)(w:World)(hB:B<=w.heap.size)(hpb:pb<w.heap.size)(hc:w.cell? ⟨pb,po,none⟩=some (.slice A n aA))(hM:cK w B A n M)(hk:a.obj<n)(hk':b.obj<n)(hl:(aG M a.obj).live=false):
  Calls prog 88 #[.pointer (some ⟨pb,po,none⟩),.agg #[.int .i64 a.obj,.int .i64 a.n],.agg #[.int .i64 b.obj,.int .i64 b.n]] w λe w'=>e= .returned (.bool false)/\Below w.heap.size w w':=by
 obtain⟨mb,mo,rfl,gV,_,_,_,_,_,c2,_⟩:=hM.get hk;obtain⟨Fi,IW,hA',_,_,_,_,_,_,d2,_⟩:=hM.get hk';injection hA' with hA';injection hA' with yI hA2;subst yI hA2;have hmb:mb<w.heap.size:=by omega
 have hk1:(a.obj:Int)<(n:Int):=by omega
 have uR:(b.obj:Int)<(n:Int):=by omega
 have hn:=hM.2.1;rw[hl]at c2;have HM:=ae hM;have HC:=ae hc;clear hM;go_enter func88,ntmps88;go_wp2_with fail;go_quiet (fail);go_wp2_with fail;go_ret;exact⟨rfl,below_drewN (aB _ _ _) _⟩
theorem Np(pb po:Nat)(A:Option Addr)(n aA B:Nat)(a b:V)(M:List MO)(w:World)(hB:B<=w.heap.size)(hpb:pb<w.heap.size)(hc:w.cell? ⟨pb,po,none⟩=some (.slice A n aA))(hM:cK w B A n M)(hk:a.obj<n)(hk':b.obj<n)(hl:(aG M a.obj).live=true)(hl':(aG M b.obj).live=false):
  Calls prog 88 #[.pointer (some ⟨pb,po,none⟩),.agg #[.int .i64 a.obj,.int .i64 a.n],.agg #[.int .i64 b.obj,.int .i64 b.n]] w λe w'=>e= .returned (.bool false)/\Below w.heap.size w w':=by
 obtain⟨mb,mo,rfl,gV,_,_,_,_,_,c2,_⟩:=hM.get hk;obtain⟨Fi,IW,hA',_,_,_,_,_,_,d2,_⟩:=hM.get hk';injection hA' with hA';injection hA' with yI hA2;subst yI hA2;have hmb:mb<w.heap.size:=by omega
 have hk1:(a.obj:Int)<(n:Int):=by omega
 have uR:(b.obj:Int)<(n:Int):=by omega
 have hn:=hM.2.1;rw[hl]at c2;rw[hl']at d2;have HM:=ae hM;have HC:=ae hc;clear hM;go_enter func88,ntmps88;go_wp2_with fail;go_quiet (fail);go_wp2_with fail;go_ret;exact⟨rfl,below_drewN (aB _ _ _) _⟩
theorem Qj(pb po:Nat)(A:Option Addr)(n aA B:Nat)(a b:V)(M:List MO)(w:World)(hB:B<=w.heap.size)(hpb:pb<w.heap.size)(hc:w.cell? ⟨pb,po,none⟩=some (.slice A n aA))(hM:cK w B A n M)(hk:a.obj<n)(hk':b.obj<n)(hl:(aG M a.obj).live=true)(hl':(aG M b.obj).live=true)(ho:a.obj=b.obj):
  Calls prog 88 #[.pointer (some ⟨pb,po,none⟩),.agg #[.int .i64 a.obj,.int .i64 a.n],.agg #[.int .i64 b.obj,.int .i64 b.n]] w λe w'=>e= .returned (.bool true)/\Below w.heap.size w w':=by
 obtain⟨mb,mo,rfl,gV,_,_,_,_,_,c2,_⟩:=hM.get hk;obtain⟨Fi,IW,hA',_,_,_,_,_,_,d2,_⟩:=hM.get hk';injection hA' with hA';injection hA' with yI hA2;subst yI hA2;have hmb:mb<w.heap.size:=by omega
 have hk1:(a.obj:Int)<(n:Int):=by omega
 have uR:(b.obj:Int)<(n:Int):=by omega
 have hn:=hM.2.1;rw[hl]at c2;rw[hl']at d2;have ho':((a.obj:Int)==(b.obj:Int))=true:=by simp[ho]
 clear ho hl hl';have HM:=ae hM;have HC:=ae hc;clear hM;go_enter func88,ntmps88;go_wp2_with fail;go_quiet (fail);go_wp2_with fail;refine eX (by kernel_rfl) (by kernel_rfl) (λhG=>?_)
 repeat(go_big_quiet_step ((go_at_call 105;exact mP (lO pb po _ n aA _ w.heap.size M _ (ag HC (cM (below_drewN (aB _ _ _) _) (by simp[World.drewN];omega) _) hpb) (HM.below (cM (below_drewN ((aB _ _ _).mono hB) _) (by simp[World.drewN];omega) _) hB) (by first|exact hk|exact hk')))))
 refine wpQuiet_nil ?_;rintro⟨w1,hb1⟩;simp only[];go_wp2_with fail;go_ret;exact⟨rfl,(below_drewN (aB _ _ _) _).trans (hb1.mono (by simp[World.drewN];omega))⟩
theorem SR(pb po:Nat)(A:Option Addr)(n aA B:Nat)(a b:V)(M:List MO)(w:World)(hB:B<=w.heap.size)(hpb:pb<w.heap.size)(hc:w.cell? ⟨pb,po,none⟩=some (.slice A n aA))(hM:cK w B A n M)(hk:a.obj<n)(hk':b.obj<n)(hl:(aG M a.obj).live=true)(hl':(aG M b.obj).live=true)(ho:¬a.obj=b.obj)(h1:¬a.n<(aG M a.obj).bytes):
  Calls prog 88 #[.pointer (some ⟨pb,po,none⟩),.agg #[.int .i64 a.obj,.int .i64 a.n],.agg #[.int .i64 b.obj,.int .i64 b.n]] w λe w'=>e= .returned (.bool false)/\Below w.heap.size w w':=by
 obtain⟨mb,mo,rfl,gV,_,_,_,_,_,c2,_⟩:=hM.get hk;obtain⟨Fi,IW,hA',_,_,_,_,_,_,d2,_⟩:=hM.get hk';injection hA' with hA';injection hA' with yI hA2;subst yI hA2;have hmb:mb<w.heap.size:=by omega
 have hk1:(a.obj:Int)<(n:Int):=by omega
 have uR:(b.obj:Int)<(n:Int):=by omega
 have hn:=hM.2.1;rw[hl]at c2;rw[hl']at d2;have ho':((a.obj:Int)==(b.obj:Int))=false:=by simp;omega
 have h1':decide (a.n<(aG M a.obj).bytes)=false:=by simpa using h1
 clear hl hl';have HM:=ae hM;have HC:=ae hc;clear hM;go_enter func88,ntmps88;go_wp2_with fail;go_quiet (fail);go_wp2_with fail;refine eX (by kernel_rfl) (by kernel_rfl) (λhG=>?_)
 repeat(go_big_quiet_step ((go_at_call 105;exact mP (lO pb po _ n aA _ w.heap.size M _ (ag HC (cM (below_drewN (aB _ _ _) _) (by simp[World.drewN];omega) _) hpb) (HM.below (cM (below_drewN ((aB _ _ _).mono hB) _) (by simp[World.drewN];omega) _) hB) (by first|exact hk|exact hk')))))
 refine wpQuiet_nil ?_;rintro⟨w1,hb1⟩;simp only[];go_wp2_with fail;go_ret;exact⟨rfl,(below_drewN (aB _ _ _) _).trans (hb1.mono (by simp[World.drewN];omega))⟩
theorem Qk(pb po:Nat)(A:Option Addr)(n aA B:Nat)(a b:V)(M:List MO)(w:World)(hB:B<=w.heap.size)(hpb:pb<w.heap.size)(hc:w.cell? ⟨pb,po,none⟩=some (.slice A n aA))(hM:cK w B A n M)(hk:a.obj<n)(hk':b.obj<n)(hl:(aG M a.obj).live=true)(hl':(aG M b.obj).live=true)(ho:¬a.obj=b.obj)(h1:a.n<(aG M a.obj).bytes)(h2:¬b.n<(aG M b.obj).bytes):
  Calls prog 88 #[.pointer (some ⟨pb,po,none⟩),.agg #[.int .i64 a.obj,.int .i64 a.n],.agg #[.int .i64 b.obj,.int .i64 b.n]] w λe w'=>e= .returned (.bool false)/\Below w.heap.size w w':=by
 obtain⟨mb,mo,rfl,gV,_,_,_,_,_,c2,_⟩:=hM.get hk;obtain⟨Fi,IW,hA',_,_,_,_,_,_,d2,_⟩:=hM.get hk';injection hA' with hA';injection hA' with yI hA2;subst yI hA2;have hmb:mb<w.heap.size:=by omega
 have hk1:(a.obj:Int)<(n:Int):=by omega
 have uR:(b.obj:Int)<(n:Int):=by omega
 have hn:=hM.2.1;rw[hl]at c2;rw[hl']at d2;have ho':((a.obj:Int)==(b.obj:Int))=false:=by simp;omega
 have h1':decide (a.n<(aG M a.obj).bytes)=true:=by simpa using h1
 have h2':decide (b.n<(aG M b.obj).bytes)=false:=by simpa using h2
 clear hl hl';have HM:=ae hM;have HC:=ae hc;clear hM;go_enter func88,ntmps88;go_wp2_with fail;go_quiet (fail);go_wp2_with fail;refine eX (by kernel_rfl) (by kernel_rfl) (λhG=>?_)
 repeat(go_big_quiet_step ((go_at_call 105;exact mP (lO pb po _ n aA _ w.heap.size M _ (ag HC (cM (below_drewN (aB _ _ _) _) (by simp[World.drewN];omega) _) hpb) (HM.below (cM (below_drewN ((aB _ _ _).mono hB) _) (by simp[World.drewN];omega) _) hB) (by first|exact hk|exact hk')))))
 refine wpQuiet_nil ?_;rintro⟨w1,hb1⟩;simp only[];go_wp2_with fail;go_ret;exact⟨rfl,(below_drewN (aB _ _ _) _).trans (hb1.mono (by simp[World.drewN];omega))⟩
theorem SQ(pb po:Nat)(A:Option Addr)(n aA B:Nat)(a b:V)(M:List MO)(w:World)(hB:B<=w.heap.size)(hpb:pb<w.heap.size)(hc:w.cell? ⟨pb,po,none⟩=some (.slice A n aA))(hM:cK w B A n M)(hk:a.obj<n)(hk':b.obj<n)(hl:(aG M a.obj).live=true)(hl':(aG M b.obj).live=true)(ho:¬a.obj=b.obj)(h1:a.n<(aG M a.obj).bytes)(h2:b.n<(aG M b.obj).bytes):
  Calls prog 88 #[.pointer (some ⟨pb,po,none⟩),.agg #[.int .i64 a.obj,.int .i64 a.n],.agg #[.int .i64 b.obj,.int .i64 b.n]] w λe w'=>e= .returned (.bool true)/\Below w.heap.size w w':=by
 obtain⟨mb,mo,rfl,gV,_,_,_,_,_,c2,_⟩:=hM.get hk;obtain⟨Fi,IW,hA',_,_,_,_,_,_,d2,_⟩:=hM.get hk';injection hA' with hA';injection hA' with yI hA2;subst yI hA2;have hmb:mb<w.heap.size:=by omega
 have hk1:(a.obj:Int)<(n:Int):=by omega
 have uR:(b.obj:Int)<(n:Int):=by omega
 have hn:=hM.2.1;rw[hl]at c2;rw[hl']at d2;have ho':((a.obj:Int)==(b.obj:Int))=false:=by simp;omega
 have h1':decide (a.n<(aG M a.obj).bytes)=true:=by simpa using h1
 have h2':decide (b.n<(aG M b.obj).bytes)=true:=by simpa using h2
 clear hl hl';have HM:=ae hM;have HC:=ae hc;clear hM;go_enter func88,ntmps88;go_wp2_with fail;go_quiet (fail);go_wp2_with fail;refine eX (by kernel_rfl) (by kernel_rfl) (λhG=>?_)
 repeat(go_big_quiet_step ((go_at_call 105;exact mP (lO pb po _ n aA _ w.heap.size M _ (ag HC (cM (below_drewN (aB _ _ _) _) (by simp[World.drewN];omega) _) hpb) (HM.below (cM (below_drewN ((aB _ _ _).mono hB) _) (by simp[World.drewN];omega) _) hB) (by first|exact hk|exact hk')))))
 refine wpQuiet_nil ?_;rintro⟨w1,hb1⟩;simp only[];go_wp2_with fail;go_ret;exact⟨rfl,(below_drewN (aB _ _ _) _).trans (hb1.mono (by simp[World.drewN];omega))⟩
theorem qy(pb po:Nat)(A:Option Addr)(n aA B:Nat)(a b:V)(M:List MO)(w:World)(hB:B<=w.heap.size)(hpb:pb<w.heap.size)(hc:w.cell? ⟨pb,po,none⟩=some (.slice A n aA))(hM:cK w B A n M)(hk:a.obj<n)(hk':b.obj<n):
  Calls prog 88 #[.pointer (some ⟨pb,po,none⟩),.agg #[.int .i64 a.obj,.int .i64 a.n],.agg #[.int .i64 b.obj,.int .i64 b.n]] w λe w'=>e= .returned (.bool (qf M a b))/\Below w.heap.size w w':=by
 unfold qf;cases hl:(aG M a.obj).live with
 |false=>exact Ql pb po A n aA B a b M w hB hpb hc hM hk hk' hl
 |true=>
  cases hl':(aG M b.obj).live with
  |false=>exact Np pb po A n aA B a b M w hB hpb hc hM hk hk' hl hl'
  |true=>
   by_cases ho:a.obj=b.obj
   ·rw[decide_eq_true ho];exact Qj pb po A n aA B a b M w hB hpb hc hM hk hk' hl hl' ho
   ·rw[decide_eq_false ho];by_cases h1:a.n<(aG M a.obj).bytes
    ·rw[decide_eq_true h1];by_cases h2:b.n<(aG M b.obj).bytes
     ·rw[decide_eq_true h2];exact SQ pb po A n aA B a b M w hB hpb hc hM hk hk' hl hl' ho h1 h2
     ·rw[decide_eq_false h2];exact Qk pb po A n aA B a b M w hB hpb hc hM hk hk' hl hl' ho h1 h2
    ·rw[decide_eq_false h1];exact SR pb po A n aA B a b M w hB hpb hc hM hk hk' hl hl' ho h1
end Go.Proofs.YtinmgbodgecoeaaGreat
