/- The page's memory: an op of two values. Conditions: as stated. -/
import Derived.Test.YtikbdplllopjlaaGreatMemCmpZz
set_option linter.unusedVariables false
set_option linter.unusedSimpArgs false
set_option maxHeartbeats 8000000
set_option maxRecDepth 100000
open Go.Proofs.Tryz
namespace Go.Proofs.YtikbdplllopjlaaGreat
open Go.RowKit
theorem fR(t:Bool):-9223372036854775808<=wT t/\wT t<=9223372036854775807:=by cases t<;>decide
theorem fQ(t:Bool)(w:World):
  Calls prog 111 #[.bool t] w λe w'=>e= .returned (.int .i64 (wT t))/\w=w':=by
 cases t
 all_goals
  go_enter func111,ntmps111;go_wp2;go_ret;exact⟨rfl,rfl⟩
theorem Pk(pb po:Nat)(A:Option Addr)(n aA B:Nat)(op:Int)(a b:V)(M:List MO)(w:World)(_hB:B<=w.heap.size)(_hpb:pb<w.heap.size)(_hc:w.cell? ⟨pb,po,none⟩=some (.slice A n aA))(_hM:cT w B A n M)(Iq:12<=op)(Ip:op<=30)(ha:a.obj=0)(hb:b.obj=0)(NS:-9223372036854775808<=a.n)(NR:a.n<=9223372036854775807)(Ie:-9223372036854775808<=b.n)(Ic:b.n<=9223372036854775807):
  Calls prog 91 #[.pointer (some ⟨pb,po,none⟩),.int .i64 op,.agg #[.int .i64 a.obj,.int .i64 a.n],.agg #[.int .i64 b.obj,.int .i64 b.n]] w λe w'=>e= .returned (aI (some ⟨0,bO op a.n b.n⟩))/\Below w.heap.size w w':=by
 have g1:(((a.obj:Int)==0))=true:=beq_iff_eq.2 (by omega);have g2:(((b.obj:Int)==0))=true:=beq_iff_eq.2 (by omega);clear _hM _hc ha hb;go_enter func91,ntmps91;go_wp2_with(first|(go_at_call 108;refine(dJ _ _ _ _ Iq Ip NS NR Ie Ic).mono ?_;rintro e w' ⟨rfl,rfl⟩));refine aR (v:=aI (some ⟨0,bO op a.n b.n⟩)) ?_ rfl ⟨rfl,?_⟩
 ·simp[results,results91,go_sem,aI]
 ·exact aO _ _ _ _
theorem Mv(pb po:Nat)(A:Option Addr)(n aA B:Nat)(a b:V)(M:List MO)(w:World)(hB:B<=w.heap.size)(aZ:pb<w.heap.size)(hc:w.cell? ⟨pb,po,none⟩=some (.slice A n aA))(hM:cT w B A n M)(ha:a.obj=0)(hb:¬b.obj=0)(hk:b.obj<n)(hx0:0<=b.n)(hx1:b.n<=512)(hr:dD M b a.n=none):
  Calls prog 91 #[.pointer (some ⟨pb,po,none⟩),.int .i64 12,.agg #[.int .i64 a.obj,.int .i64 a.n],.agg #[.int .i64 b.obj,.int .i64 b.n]] w λe w'=>e= .returned (aI (none))/\Below w.heap.size w w':=by
 have g3:(((a.obj:Int)==0))=true:=beq_iff_eq.2 (by omega);have g4:(((b.obj:Int)==0))=false:=beq_eq_false_iff_ne.2 (by omega);have HC:=ae (λW(hb:Below w.heap.size w W)=>(hr▸nz pb po A n aA w.heap.size b a.n M W hb.size (kL aZ hb.size) (ag hc hb aZ) (hM.below (hb.mono hB) hB) hk hx0 hx1:Calls prog 109 #[.pointer (some ⟨pb,po,none⟩),.agg #[.int .i64 b.obj,.int .i64 b.n],.int .i64 a.n] W λe w'=>e= .returned (aI (none))/\Below W.heap.size W w'));simp only[aI]at HC;clear hM hc hr;go_enter func91,ntmps91;go_wp2_with fail;refine(HC _ (aO _ _ _ _)).mono ?_;rintro e w1 ⟨rfl,hb1⟩;obtain⟨hc1,rT⟩:=aY hb1;have hz1:=hb1.size;simp only[World.size_alloc]at hz1;go_wp2_with fail;refine aR (v:=aI (none)) ?_ rfl ⟨rfl,?_⟩
 ·simp[results,results91,go_sem,aI,hc1]
 ·exact(((aO _ _ _ _).trans (hb1.mono (by simp;omega))).setCell (by show w.heap.size<=w.heap.size+1+1;omega) _).setCell (by show w.heap.size<=w.heap.size+1+1;omega) _
theorem Mu(pb po:Nat)(A:Option Addr)(n aA B:Nat)(a b:V)(M:List MO)(w:World)(hB:B<=w.heap.size)(aZ:pb<w.heap.size)(hc:w.cell? ⟨pb,po,none⟩=some (.slice A n aA))(hM:cT w B A n M)(ha:a.obj=0)(hb:¬b.obj=0)(hk:b.obj<n)(hx0:0<=b.n)(hx1:b.n<=512)(r:V)(hr:dD M b a.n=some r):
  Calls prog 91 #[.pointer (some ⟨pb,po,none⟩),.int .i64 12,.agg #[.int .i64 a.obj,.int .i64 a.n],.agg #[.int .i64 b.obj,.int .i64 b.n]] w λe w'=>e= .returned (aI (some r))/\Below w.heap.size w w':=by
 have g5:(((a.obj:Int)==0))=true:=beq_iff_eq.2 (by omega);have g6:(((b.obj:Int)==0))=false:=beq_eq_false_iff_ne.2 (by omega);have HC:=ae (λW(hb:Below w.heap.size w W)=>(hr▸nz pb po A n aA w.heap.size b a.n M W hb.size (kL aZ hb.size) (ag hc hb aZ) (hM.below (hb.mono hB) hB) hk hx0 hx1:Calls prog 109 #[.pointer (some ⟨pb,po,none⟩),.agg #[.int .i64 b.obj,.int .i64 b.n],.int .i64 a.n] W λe w'=>e= .returned (aI (some r))/\Below W.heap.size W w'));simp only[aI]at HC;clear hM hc hr;go_enter func91,ntmps91;go_wp2_with fail;refine(HC _ (aO _ _ _ _)).mono ?_;rintro e w1 ⟨rfl,hb1⟩;obtain⟨hc1,rT⟩:=aY hb1;have hz1:=hb1.size;simp only[World.size_alloc]at hz1;go_wp2_with fail;refine aR (v:=aI (some r)) ?_ rfl ⟨rfl,?_⟩
 ·simp[results,results91,go_sem,aI,hc1]
 ·exact(((aO _ _ _ _).trans (hb1.mono (by simp;omega))).setCell (by show w.heap.size<=w.heap.size+1+1;omega) _).setCell (by show w.heap.size<=w.heap.size+1+1;omega) _
theorem Mt(pb po:Nat)(A:Option Addr)(n aA B:Nat)(a b:V)(M:List MO)(w:World)(hB:B<=w.heap.size)(aZ:pb<w.heap.size)(hc:w.cell? ⟨pb,po,none⟩=some (.slice A n aA))(hM:cT w B A n M)(ha:¬a.obj=0)(hb:b.obj=0)(hk:a.obj<n)(hx0:0<=a.n)(hx1:a.n<=512)(hr:dD M a b.n=none):
  Calls prog 91 #[.pointer (some ⟨pb,po,none⟩),.int .i64 12,.agg #[.int .i64 a.obj,.int .i64 a.n],.agg #[.int .i64 b.obj,.int .i64 b.n]] w λe w'=>e= .returned (aI (none))/\Below w.heap.size w w':=by
 have g7:(((a.obj:Int)==0))=false:=beq_eq_false_iff_ne.2 (by omega);have g8:(((b.obj:Int)==0))=true:=beq_iff_eq.2 (by omega);have HC:=ae (λW(hb:Below w.heap.size w W)=>(hr▸nz pb po A n aA w.heap.size a b.n M W hb.size (kL aZ hb.size) (ag hc hb aZ) (hM.below (hb.mono hB) hB) hk hx0 hx1:Calls prog 109 #[.pointer (some ⟨pb,po,none⟩),.agg #[.int .i64 a.obj,.int .i64 a.n],.int .i64 b.n] W λe w'=>e= .returned (aI (none))/\Below W.heap.size W w'));simp only[aI]at HC;clear hM hc hr;go_enter func91,ntmps91;go_wp2_with fail;refine(HC _ (aO _ _ _ _)).mono ?_;rintro e w1 ⟨rfl,hb1⟩;obtain⟨hc1,rT⟩:=aY hb1;have hz1:=hb1.size;simp only[World.size_alloc]at hz1;go_wp2_with fail;refine aR (v:=aI (none)) ?_ rfl ⟨rfl,?_⟩
 ·simp[results,results91,go_sem,aI,hc1]
 ·exact(((aO _ _ _ _).trans (hb1.mono (by simp;omega))).setCell (by show w.heap.size<=w.heap.size+1+1;omega) _).setCell (by show w.heap.size<=w.heap.size+1+1;omega) _
theorem Ms(pb po:Nat)(A:Option Addr)(n aA B:Nat)(a b:V)(M:List MO)(w:World)(hB:B<=w.heap.size)(aZ:pb<w.heap.size)(hc:w.cell? ⟨pb,po,none⟩=some (.slice A n aA))(hM:cT w B A n M)(ha:¬a.obj=0)(hb:b.obj=0)(hk:a.obj<n)(hx0:0<=a.n)(hx1:a.n<=512)(r:V)(hr:dD M a b.n=some r):
  Calls prog 91 #[.pointer (some ⟨pb,po,none⟩),.int .i64 12,.agg #[.int .i64 a.obj,.int .i64 a.n],.agg #[.int .i64 b.obj,.int .i64 b.n]] w λe w'=>e= .returned (aI (some r))/\Below w.heap.size w w':=by
 have g9:(((a.obj:Int)==0))=false:=beq_eq_false_iff_ne.2 (by omega);have g10:(((b.obj:Int)==0))=true:=beq_iff_eq.2 (by omega);have HC:=ae (λW(hb:Below w.heap.size w W)=>(hr▸nz pb po A n aA w.heap.size a b.n M W hb.size (kL aZ hb.size) (ag hc hb aZ) (hM.below (hb.mono hB) hB) hk hx0 hx1:Calls prog 109 #[.pointer (some ⟨pb,po,none⟩),.agg #[.int .i64 a.obj,.int .i64 a.n],.int .i64 b.n] W λe w'=>e= .returned (aI (some r))/\Below W.heap.size W w'));simp only[aI]at HC;clear hM hc hr;go_enter func91,ntmps91;go_wp2_with fail;refine(HC _ (aO _ _ _ _)).mono ?_;rintro e w1 ⟨rfl,hb1⟩;obtain⟨hc1,rT⟩:=aY hb1;have hz1:=hb1.size;simp only[World.size_alloc]at hz1;go_wp2_with fail;refine aR (v:=aI (some r)) ?_ rfl ⟨rfl,?_⟩
 ·simp[results,results91,go_sem,aI,hc1]
 ·exact(((aO _ _ _ _).trans (hb1.mono (by simp;omega))).setCell (by show w.heap.size<=w.heap.size+1+1;omega) _).setCell (by show w.heap.size<=w.heap.size+1+1;omega) _
theorem Pj(pb po:Nat)(A:Option Addr)(n aA B:Nat)(a b:V)(M:List MO)(w:World)(hB:B<=w.heap.size)(aZ:pb<w.heap.size)(hc:w.cell? ⟨pb,po,none⟩=some (.slice A n aA))(hM:cT w B A n M)(ha:¬a.obj=0)(hb:b.obj=0)(hk:a.obj<n)(hx0:0<=a.n)(hx1:a.n<=512)(hm:¬b.n= -9223372036854775808)(Ie:-9223372036854775808<=b.n)(Ic:b.n<=9223372036854775807)(hr:dD M a (-b.n)=none):
  Calls prog 91 #[.pointer (some ⟨pb,po,none⟩),.int .i64 13,.agg #[.int .i64 a.obj,.int .i64 a.n],.agg #[.int .i64 b.obj,.int .i64 b.n]] w λe w'=>e= .returned (aI (none))/\Below w.heap.size w w':=by
 have g11:(((a.obj:Int)==0))=false:=beq_eq_false_iff_ne.2 (by omega);have g12:(((b.obj:Int)==0))=true:=beq_iff_eq.2 (by omega);have g13:(b.n== -9223372036854775808)=false:=beq_eq_false_iff_ne.2 (by omega);have HC:=ae (λW(hb:Below w.heap.size w W)=>(hr▸nz pb po A n aA w.heap.size a (-b.n) M W hb.size (kL aZ hb.size) (ag hc hb aZ) (hM.below (hb.mono hB) hB) hk hx0 hx1:Calls prog 109 #[.pointer (some ⟨pb,po,none⟩),.agg #[.int .i64 a.obj,.int .i64 a.n],.int .i64 (-b.n)] W λe w'=>e= .returned (aI (none))/\Below W.heap.size W w'));simp only[aI]at HC;clear hM hc hr;go_enter func91,ntmps91;go_wp2_with fail;refine(HC _ (aO _ _ _ _)).mono ?_;rintro e w1 ⟨rfl,hb1⟩;obtain⟨hc1,rT⟩:=aY hb1;have hz1:=hb1.size;simp only[World.size_alloc]at hz1;go_wp2_with fail
 refine aR (v:=aI (none)) ?_ rfl ⟨rfl,?_⟩
 ·simp[results,results91,go_sem,aI,hc1]
 ·exact(((aO _ _ _ _).trans (hb1.mono (by simp;omega))).setCell (by show w.heap.size<=w.heap.size+1+1;omega) _).setCell (by show w.heap.size<=w.heap.size+1+1;omega) _
theorem Ph(pb po:Nat)(A:Option Addr)(n aA B:Nat)(a b:V)(M:List MO)(w:World)(hB:B<=w.heap.size)(aZ:pb<w.heap.size)(hc:w.cell? ⟨pb,po,none⟩=some (.slice A n aA))(hM:cT w B A n M)(ha:¬a.obj=0)(hb:b.obj=0)(hk:a.obj<n)(hx0:0<=a.n)(hx1:a.n<=512)(hm:¬b.n= -9223372036854775808)(Ie:-9223372036854775808<=b.n)(Ic:b.n<=9223372036854775807)(r:V)(hr:dD M a (-b.n)=some r):
  Calls prog 91 #[.pointer (some ⟨pb,po,none⟩),.int .i64 13,.agg #[.int .i64 a.obj,.int .i64 a.n],.agg #[.int .i64 b.obj,.int .i64 b.n]] w λe w'=>e= .returned (aI (some r))/\Below w.heap.size w w':=by
 have g14:(((a.obj:Int)==0))=false:=beq_eq_false_iff_ne.2 (by omega);have g15:(((b.obj:Int)==0))=true:=beq_iff_eq.2 (by omega);have g16:(b.n== -9223372036854775808)=false:=beq_eq_false_iff_ne.2 (by omega);have HC:=ae (λW(hb:Below w.heap.size w W)=>(hr▸nz pb po A n aA w.heap.size a (-b.n) M W hb.size (kL aZ hb.size) (ag hc hb aZ) (hM.below (hb.mono hB) hB) hk hx0 hx1:Calls prog 109 #[.pointer (some ⟨pb,po,none⟩),.agg #[.int .i64 a.obj,.int .i64 a.n],.int .i64 (-b.n)] W λe w'=>e= .returned (aI (some r))/\Below W.heap.size W w'));simp only[aI]at HC;clear hM hc hr;go_enter func91,ntmps91;go_wp2_with fail;refine(HC _ (aO _ _ _ _)).mono ?_;rintro e w1 ⟨rfl,hb1⟩;obtain⟨hc1,rT⟩:=aY hb1;have hz1:=hb1.size;simp only[World.size_alloc]at hz1;go_wp2_with fail
 refine aR (v:=aI (some r)) ?_ rfl ⟨rfl,?_⟩
 ·simp[results,results91,go_sem,aI,hc1]
 ·exact(((aO _ _ _ _).trans (hb1.mono (by simp;omega))).setCell (by show w.heap.size<=w.heap.size+1+1;omega) _).setCell (by show w.heap.size<=w.heap.size+1+1;omega) _
theorem Gc(pb po:Nat)(A:Option Addr)(n aA B:Nat)(a b:V)(M:List MO)(w:World)(_hB:B<=w.heap.size)(_hpb:pb<w.heap.size)(_hc:w.cell? ⟨pb,po,none⟩=some (.slice A n aA))(_hM:cT w B A n M)(ha:¬a.obj=0)(hb:b.obj=0)(hm:b.n= -9223372036854775808):
  Calls prog 91 #[.pointer (some ⟨pb,po,none⟩),.int .i64 13,.agg #[.int .i64 a.obj,.int .i64 a.n],.agg #[.int .i64 b.obj,.int .i64 b.n]] w λe w'=>e= .returned (aI (none))/\Below w.heap.size w w':=by
 have g17:(((a.obj:Int)==0))=false:=beq_eq_false_iff_ne.2 (by omega);have g18:(((b.obj:Int)==0))=true:=beq_iff_eq.2 (by omega);have g19:(b.n== -9223372036854775808)=true:=beq_iff_eq.2 (by omega);clear _hM _hc hm;go_enter func91,ntmps91;go_wp2_with fail;refine aR (v:=aI (none)) ?_ rfl ⟨rfl,?_⟩
 ·simp[results,results91,go_sem,aI]
 ·exact aO _ _ _ _
theorem D8(pb po:Nat)(A:Option Addr)(n aA B:Nat)(a b:V)(M:List MO)(w:World)(_hB:B<=w.heap.size)(_hpb:pb<w.heap.size)(_hc:w.cell? ⟨pb,po,none⟩=some (.slice A n aA))(_hM:cT w B A n M)(ha:a.obj=0)(hb:¬b.obj=0)(hm:¬a.n=0):
  Calls prog 91 #[.pointer (some ⟨pb,po,none⟩),.int .i64 25,.agg #[.int .i64 a.obj,.int .i64 a.n],.agg #[.int .i64 b.obj,.int .i64 b.n]] w λe w'=>e= .returned (aI (none))/\Below w.heap.size w w':=by
 have g20:(((a.obj:Int)==0))=true:=beq_iff_eq.2 (by omega);have g21:(((b.obj:Int)==0))=false:=beq_eq_false_iff_ne.2 (by omega);have g22:(a.n !=0)=true:=by rw[bne_iff_ne];omega
 clear _hM _hc;go_enter func91,ntmps91;go_wp2_with fail;refine aR (v:=aI (none)) ?_ rfl ⟨rfl,?_⟩
 ·simp[results,results91,go_sem,aI]
 ·exact aO _ _ _ _
theorem CF(pb po:Nat)(A:Option Addr)(n aA B:Nat)(a b:V)(M:List MO)(w:World)(_hB:B<=w.heap.size)(_hpb:pb<w.heap.size)(_hc:w.cell? ⟨pb,po,none⟩=some (.slice A n aA))(_hM:cT w B A n M)(ha:¬a.obj=0)(hb:b.obj=0)(hm:¬b.n=0):
  Calls prog 91 #[.pointer (some ⟨pb,po,none⟩),.int .i64 25,.agg #[.int .i64 a.obj,.int .i64 a.n],.agg #[.int .i64 b.obj,.int .i64 b.n]] w λe w'=>e= .returned (aI (none))/\Below w.heap.size w w':=by
 have g23:(((a.obj:Int)==0))=false:=beq_eq_false_iff_ne.2 (by omega);have g24:(((b.obj:Int)==0))=true:=beq_iff_eq.2 (by omega);have g25:(b.n !=0)=true:=by rw[bne_iff_ne];omega
 clear _hM _hc;go_enter func91,ntmps91;go_wp2_with fail;refine aR (v:=aI (none)) ?_ rfl ⟨rfl,?_⟩
 ·simp[results,results91,go_sem,aI]
 ·exact aO _ _ _ _
theorem Gg(pb po:Nat)(A:Option Addr)(n aA B:Nat)(a b:V)(M:List MO)(w:World)(hB:B<=w.heap.size)(aZ:pb<w.heap.size)(hc:w.cell? ⟨pb,po,none⟩=some (.slice A n aA))(hM:cT w B A n M)(hk:a.obj<n)(iT:b.obj<n)(ha:¬a.obj=0)(hb:¬b.obj=0)(mC:nX M a b=false):
  Calls prog 91 #[.pointer (some ⟨pb,po,none⟩),.int .i64 25,.agg #[.int .i64 a.obj,.int .i64 a.n],.agg #[.int .i64 b.obj,.int .i64 b.n]] w λe w'=>e= .returned (aI (none))/\Below w.heap.size w w':=by
 have g26:(((a.obj:Int)==0))=false:=beq_eq_false_iff_ne.2 (by omega);have g27:(((b.obj:Int)==0))=false:=beq_eq_false_iff_ne.2 (by omega);have g28:(decide ((0:Int)<(a.obj:Int)))=true:=decide_eq_true (by omega);have g29:(decide ((0:Int)<(b.obj:Int)))=true:=decide_eq_true (by omega);have HC:=ae (λW(hb:Below w.heap.size w W)=>oG pb po A n aA w.heap.size a b M W hb.size (kL aZ hb.size) (ag hc hb aZ) (hM.below (hb.mono hB) hB) hk iT);rw[mC]at HC;clear hM hc;go_enter func91,ntmps91;go_wp2_with fail;refine(HC _ (aO _ _ _ _)).mono ?_;rintro e w1 ⟨rfl,hb1⟩;obtain⟨hc1,rT⟩:=aY hb1;have hz1:=hb1.size;simp only[World.size_alloc]at hz1;go_wp2_with fail;refine aR (v:=aI (none)) ?_ rfl ⟨rfl,?_⟩
 ·simp[results,results91,go_sem,aI,hc1]
 ·exact(((aO _ _ _ _).trans (hb1.mono (by simp;omega))).setCell (by show w.heap.size<=w.heap.size+1+1;omega) _).setCell (by show w.heap.size<=w.heap.size+1+1;omega) _
theorem CD(pb po:Nat)(A:Option Addr)(n aA B:Nat)(a b:V)(M:List MO)(w:World)(hB:B<=w.heap.size)(aZ:pb<w.heap.size)(hc:w.cell? ⟨pb,po,none⟩=some (.slice A n aA))(hM:cT w B A n M)(hk:a.obj<n)(iT:b.obj<n)(ha:¬a.obj=0)(hb:¬b.obj=0)(mC:nX M a b=true)(he:a=b):
  Calls prog 91 #[.pointer (some ⟨pb,po,none⟩),.int .i64 25,.agg #[.int .i64 a.obj,.int .i64 a.n],.agg #[.int .i64 b.obj,.int .i64 b.n]] w λe w'=>e= .returned (aI (some ⟨0,bO 25 (wT true) 1⟩))/\Below w.heap.size w w':=by
 have g30:(((a.obj:Int)==0))=false:=beq_eq_false_iff_ne.2 (by omega);have g31:(((b.obj:Int)==0))=false:=beq_eq_false_iff_ne.2 (by omega);have g32:(decide ((0:Int)<(a.obj:Int)))=true:=decide_eq_true (by omega);have g33:(decide ((0:Int)<(b.obj:Int)))=true:=decide_eq_true (by omega);have HC:=ae (λW(hb:Below w.heap.size w W)=>oG pb po A n aA w.heap.size a b M W hb.size (kL aZ hb.size) (ag hc hb aZ) (hM.below (hb.mono hB) hB) hk iT);rw[mC]at HC;subst he;clear hM hc;go_enter func91,ntmps91;go_wp2_with fail;refine(HC _ (aO _ _ _ _)).mono ?_;rintro e w1 ⟨rfl,hb1⟩;obtain⟨hc1,rT⟩:=aY hb1;have hz1:=hb1.size;simp only[World.size_alloc]at hz1
 go_wp2_with(first|(go_at_call 111;refine(fQ _ _).mono ?_;rintro e w' ⟨rfl,rfl⟩)|(go_at_call 108;refine(dJ _ _ _ _ (by decide) (by decide) (fR _).1 (fR _).2 (by decide) (by decide)).mono ?_;rintro e w' ⟨rfl,rfl⟩));refine aR (v:=aI (some ⟨0,bO 25 (wT true) 1⟩)) ?_ rfl ⟨rfl,?_⟩
 ·simp[results,results91,go_sem,aI,hc1]
 ·exact(((aO _ _ _ _).trans (hb1.mono (by simp;omega))).setCell (by show w.heap.size<=w.heap.size+1+1;omega) _).setCell (by show w.heap.size<=w.heap.size+1+1;omega) _
theorem D6(pb po:Nat)(A:Option Addr)(n aA B:Nat)(a b:V)(M:List MO)(w:World)(hB:B<=w.heap.size)(aZ:pb<w.heap.size)(hc:w.cell? ⟨pb,po,none⟩=some (.slice A n aA))(hM:cT w B A n M)(hk:a.obj<n)(iT:b.obj<n)(ha:¬a.obj=0)(hb:¬b.obj=0)(mC:nX M a b=true)(he:¬(a.obj:Int)=(b.obj:Int)):
  Calls prog 91 #[.pointer (some ⟨pb,po,none⟩),.int .i64 25,.agg #[.int .i64 a.obj,.int .i64 a.n],.agg #[.int .i64 b.obj,.int .i64 b.n]] w λe w'=>e= .returned (aI (some ⟨0,bO 25 (wT false) 1⟩))/\Below w.heap.size w w':=by
 have g34:(((a.obj:Int)==0))=false:=beq_eq_false_iff_ne.2 (by omega);have g35:(((b.obj:Int)==0))=false:=beq_eq_false_iff_ne.2 (by omega);have g36:(decide ((0:Int)<(a.obj:Int)))=true:=decide_eq_true (by omega);have g37:(decide ((0:Int)<(b.obj:Int)))=true:=decide_eq_true (by omega);have HC:=ae (λW(hb:Below w.heap.size w W)=>oG pb po A n aA w.heap.size a b M W hb.size (kL aZ hb.size) (ag hc hb aZ) (hM.below (hb.mono hB) hB) hk iT);rw[mC]at HC;clear hM hc;go_enter func91,ntmps91;go_wp2_with fail;refine(HC _ (aO _ _ _ _)).mono ?_;rintro e w1 ⟨rfl,hb1⟩;obtain⟨hc1,rT⟩:=aY hb1;have hz1:=hb1.size;simp only[World.size_alloc]at hz1
 go_wp2_with(first|(go_at_call 111;refine(fQ _ _).mono ?_;rintro e w' ⟨rfl,rfl⟩)|(go_at_call 108;refine(dJ _ _ _ _ (by decide) (by decide) (fR _).1 (fR _).2 (by decide) (by decide)).mono ?_;rintro e w' ⟨rfl,rfl⟩));refine aR (v:=aI (some ⟨0,bO 25 (wT false) 1⟩)) ?_ rfl ⟨rfl,?_⟩
 ·simp[results,results91,go_sem,aI,hc1]
 ·exact(((aO _ _ _ _).trans (hb1.mono (by simp;omega))).setCell (by show w.heap.size<=w.heap.size+1+1;omega) _).setCell (by show w.heap.size<=w.heap.size+1+1;omega) _
theorem Jr(pb po:Nat)(A:Option Addr)(n aA B:Nat)(a b:V)(M:List MO)(w:World)(hB:B<=w.heap.size)(aZ:pb<w.heap.size)(hc:w.cell? ⟨pb,po,none⟩=some (.slice A n aA))(hM:cT w B A n M)(hk:a.obj<n)(iT:b.obj<n)(ha:¬a.obj=0)(hb:¬b.obj=0)(mC:nX M a b=true)(y:Int)(he:b=⟨a.obj,y⟩)(he':¬a.n=y):
  Calls prog 91 #[.pointer (some ⟨pb,po,none⟩),.int .i64 25,.agg #[.int .i64 a.obj,.int .i64 a.n],.agg #[.int .i64 b.obj,.int .i64 b.n]] w λe w'=>e= .returned (aI (some ⟨0,bO 25 (wT false) 1⟩))/\Below w.heap.size w w':=by
 have g38:(((a.obj:Int)==0))=false:=beq_eq_false_iff_ne.2 (by omega);have g39:(((b.obj:Int)==0))=false:=beq_eq_false_iff_ne.2 (by omega);have g40:(decide ((0:Int)<(a.obj:Int)))=true:=decide_eq_true (by omega);have g41:(decide ((0:Int)<(b.obj:Int)))=true:=decide_eq_true (by omega);have HC:=ae (λW(hb:Below w.heap.size w W)=>oG pb po A n aA w.heap.size a b M W hb.size (kL aZ hb.size) (ag hc hb aZ) (hM.below (hb.mono hB) hB) hk iT);rw[mC]at HC;subst he;clear mC;simp only at*;clear hM hc;go_enter func91,ntmps91;go_wp2_with fail;refine(HC _ (aO _ _ _ _)).mono ?_;rintro e w1 ⟨rfl,hb1⟩;obtain⟨hc1,rT⟩:=aY hb1;have hz1:=hb1.size;simp only[World.size_alloc]at hz1
 go_wp2_with(first|(go_at_call 111;refine(fQ _ _).mono ?_;rintro e w' ⟨rfl,rfl⟩)|(go_at_call 108;refine(dJ _ _ _ _ (by decide) (by decide) (fR _).1 (fR _).2 (by decide) (by decide)).mono ?_;rintro e w' ⟨rfl,rfl⟩));refine aR (v:=aI (some ⟨0,bO 25 (wT false) 1⟩)) ?_ rfl ⟨rfl,?_⟩
 ·simp[results,results91,go_sem,aI,hc1]
 ·exact(((aO _ _ _ _).trans (hb1.mono (by simp;omega))).setCell (by show w.heap.size<=w.heap.size+1+1;omega) _).setCell (by show w.heap.size<=w.heap.size+1+1;omega) _
theorem Jp(pb po:Nat)(A:Option Addr)(n aA B:Nat)(a b:V)(M:List MO)(w:World)(_hB:B<=w.heap.size)(_hpb:pb<w.heap.size)(_hc:w.cell? ⟨pb,po,none⟩=some (.slice A n aA))(_hM:cT w B A n M)(ha:a.obj=0)(hb:¬b.obj=0)(hz:a.n=0)(he:¬(a.obj:Int)=(b.obj:Int)):
  Calls prog 91 #[.pointer (some ⟨pb,po,none⟩),.int .i64 25,.agg #[.int .i64 a.obj,.int .i64 a.n],.agg #[.int .i64 b.obj,.int .i64 b.n]] w λe w'=>e= .returned (aI (some ⟨0,bO 25 (wT false) 1⟩))/\Below w.heap.size w w':=by
 have g42:(((a.obj:Int)==0))=true:=beq_iff_eq.2 (by omega);have g43:(((b.obj:Int)==0))=false:=beq_eq_false_iff_ne.2 (by omega);have g44:(decide ((0:Int)<(a.obj:Int)))=false:=decide_eq_false (by omega);have g45:(decide ((0:Int)<(b.obj:Int)))=true:=decide_eq_true (by omega);have g46:(a.n !=0)=false:=by rw[bne_eq_false_iff_eq];omega
 clear _hM _hc hz;go_enter func91,ntmps91;go_wp2_with(first|(go_at_call 111;refine(fQ _ _).mono ?_;rintro e w' ⟨rfl,rfl⟩)|(go_at_call 108;refine(dJ _ _ _ _ (by decide) (by decide) (fR _).1 (fR _).2 (by decide) (by decide)).mono ?_;rintro e w' ⟨rfl,rfl⟩));refine aR (v:=aI (some ⟨0,bO 25 (wT false) 1⟩)) ?_ rfl ⟨rfl,?_⟩
 ·simp[results,results91,go_sem,aI]
 ·exact aO _ _ _ _
theorem Ge(pb po:Nat)(A:Option Addr)(n aA B:Nat)(a b:V)(M:List MO)(w:World)(_hB:B<=w.heap.size)(_hpb:pb<w.heap.size)(_hc:w.cell? ⟨pb,po,none⟩=some (.slice A n aA))(_hM:cT w B A n M)(ha:¬a.obj=0)(hb:b.obj=0)(hz:b.n=0)(he:¬(a.obj:Int)=(b.obj:Int)):
  Calls prog 91 #[.pointer (some ⟨pb,po,none⟩),.int .i64 25,.agg #[.int .i64 a.obj,.int .i64 a.n],.agg #[.int .i64 b.obj,.int .i64 b.n]] w λe w'=>e= .returned (aI (some ⟨0,bO 25 (wT false) 1⟩))/\Below w.heap.size w w':=by
 have g47:(((a.obj:Int)==0))=false:=beq_eq_false_iff_ne.2 (by omega);have g48:(((b.obj:Int)==0))=true:=beq_iff_eq.2 (by omega);have g49:(decide ((0:Int)<(a.obj:Int)))=true:=decide_eq_true (by omega);have g50:(decide ((0:Int)<(b.obj:Int)))=false:=decide_eq_false (by omega);have g51:(b.n !=0)=false:=by rw[bne_eq_false_iff_eq];omega
 clear _hM _hc hz;go_enter func91,ntmps91;go_wp2_with(first|(go_at_call 111;refine(fQ _ _).mono ?_;rintro e w' ⟨rfl,rfl⟩)|(go_at_call 108;refine(dJ _ _ _ _ (by decide) (by decide) (fR _).1 (fR _).2 (by decide) (by decide)).mono ?_;rintro e w' ⟨rfl,rfl⟩));refine aR (v:=aI (some ⟨0,bO 25 (wT false) 1⟩)) ?_ rfl ⟨rfl,?_⟩
 ·simp[results,results91,go_sem,aI]
 ·exact aO _ _ _ _
theorem D7(pb po:Nat)(A:Option Addr)(n aA B:Nat)(a b:V)(M:List MO)(w:World)(_hB:B<=w.heap.size)(_hpb:pb<w.heap.size)(_hc:w.cell? ⟨pb,po,none⟩=some (.slice A n aA))(_hM:cT w B A n M)(ha:a.obj=0)(hb:¬b.obj=0)(hm:¬a.n=0):
  Calls prog 91 #[.pointer (some ⟨pb,po,none⟩),.int .i64 26,.agg #[.int .i64 a.obj,.int .i64 a.n],.agg #[.int .i64 b.obj,.int .i64 b.n]] w λe w'=>e= .returned (aI (none))/\Below w.heap.size w w':=by
 have g52:(((a.obj:Int)==0))=true:=beq_iff_eq.2 (by omega);have g53:(((b.obj:Int)==0))=false:=beq_eq_false_iff_ne.2 (by omega);have g54:(a.n !=0)=true:=by rw[bne_iff_ne];omega
 clear _hM _hc;go_enter func91,ntmps91;go_wp2_with fail;refine aR (v:=aI (none)) ?_ rfl ⟨rfl,?_⟩
 ·simp[results,results91,go_sem,aI]
 ·exact aO _ _ _ _
theorem CE(pb po:Nat)(A:Option Addr)(n aA B:Nat)(a b:V)(M:List MO)(w:World)(_hB:B<=w.heap.size)(_hpb:pb<w.heap.size)(_hc:w.cell? ⟨pb,po,none⟩=some (.slice A n aA))(_hM:cT w B A n M)(ha:¬a.obj=0)(hb:b.obj=0)(hm:¬b.n=0):
  Calls prog 91 #[.pointer (some ⟨pb,po,none⟩),.int .i64 26,.agg #[.int .i64 a.obj,.int .i64 a.n],.agg #[.int .i64 b.obj,.int .i64 b.n]] w λe w'=>e= .returned (aI (none))/\Below w.heap.size w w':=by
 have g55:(((a.obj:Int)==0))=false:=beq_eq_false_iff_ne.2 (by omega);have g56:(((b.obj:Int)==0))=true:=beq_iff_eq.2 (by omega);have g57:(b.n !=0)=true:=by rw[bne_iff_ne];omega
 clear _hM _hc;go_enter func91,ntmps91;go_wp2_with fail;refine aR (v:=aI (none)) ?_ rfl ⟨rfl,?_⟩
 ·simp[results,results91,go_sem,aI]
 ·exact aO _ _ _ _
theorem Gf(pb po:Nat)(A:Option Addr)(n aA B:Nat)(a b:V)(M:List MO)(w:World)(hB:B<=w.heap.size)(aZ:pb<w.heap.size)(hc:w.cell? ⟨pb,po,none⟩=some (.slice A n aA))(hM:cT w B A n M)(hk:a.obj<n)(iT:b.obj<n)(ha:¬a.obj=0)(hb:¬b.obj=0)(mC:nX M a b=false):
  Calls prog 91 #[.pointer (some ⟨pb,po,none⟩),.int .i64 26,.agg #[.int .i64 a.obj,.int .i64 a.n],.agg #[.int .i64 b.obj,.int .i64 b.n]] w λe w'=>e= .returned (aI (none))/\Below w.heap.size w w':=by
 have g58:(((a.obj:Int)==0))=false:=beq_eq_false_iff_ne.2 (by omega);have g59:(((b.obj:Int)==0))=false:=beq_eq_false_iff_ne.2 (by omega);have g60:(decide ((0:Int)<(a.obj:Int)))=true:=decide_eq_true (by omega);have g61:(decide ((0:Int)<(b.obj:Int)))=true:=decide_eq_true (by omega);have HC:=ae (λW(hb:Below w.heap.size w W)=>oG pb po A n aA w.heap.size a b M W hb.size (kL aZ hb.size) (ag hc hb aZ) (hM.below (hb.mono hB) hB) hk iT);rw[mC]at HC;clear hM hc;go_enter func91,ntmps91;go_wp2_with fail;refine(HC _ (aO _ _ _ _)).mono ?_;rintro e w1 ⟨rfl,hb1⟩;obtain⟨hc1,rT⟩:=aY hb1;have hz1:=hb1.size;simp only[World.size_alloc]at hz1;go_wp2_with fail;refine aR (v:=aI (none)) ?_ rfl ⟨rfl,?_⟩
 ·simp[results,results91,go_sem,aI,hc1]
 ·exact(((aO _ _ _ _).trans (hb1.mono (by simp;omega))).setCell (by show w.heap.size<=w.heap.size+1+1;omega) _).setCell (by show w.heap.size<=w.heap.size+1+1;omega) _
theorem CC(pb po:Nat)(A:Option Addr)(n aA B:Nat)(a b:V)(M:List MO)(w:World)(hB:B<=w.heap.size)(aZ:pb<w.heap.size)(hc:w.cell? ⟨pb,po,none⟩=some (.slice A n aA))(hM:cT w B A n M)(hk:a.obj<n)(iT:b.obj<n)(ha:¬a.obj=0)(hb:¬b.obj=0)(mC:nX M a b=true)(he:a=b):
  Calls prog 91 #[.pointer (some ⟨pb,po,none⟩),.int .i64 26,.agg #[.int .i64 a.obj,.int .i64 a.n],.agg #[.int .i64 b.obj,.int .i64 b.n]] w λe w'=>e= .returned (aI (some ⟨0,bO 26 (wT true) 1⟩))/\Below w.heap.size w w':=by
 have g62:(((a.obj:Int)==0))=false:=beq_eq_false_iff_ne.2 (by omega);have g63:(((b.obj:Int)==0))=false:=beq_eq_false_iff_ne.2 (by omega);have g64:(decide ((0:Int)<(a.obj:Int)))=true:=decide_eq_true (by omega);have g65:(decide ((0:Int)<(b.obj:Int)))=true:=decide_eq_true (by omega);have HC:=ae (λW(hb:Below w.heap.size w W)=>oG pb po A n aA w.heap.size a b M W hb.size (kL aZ hb.size) (ag hc hb aZ) (hM.below (hb.mono hB) hB) hk iT);rw[mC]at HC;subst he;clear hM hc;go_enter func91,ntmps91;go_wp2_with fail;refine(HC _ (aO _ _ _ _)).mono ?_;rintro e w1 ⟨rfl,hb1⟩;obtain⟨hc1,rT⟩:=aY hb1;have hz1:=hb1.size;simp only[World.size_alloc]at hz1
 go_wp2_with(first|(go_at_call 111;refine(fQ _ _).mono ?_;rintro e w' ⟨rfl,rfl⟩)|(go_at_call 108;refine(dJ _ _ _ _ (by decide) (by decide) (fR _).1 (fR _).2 (by decide) (by decide)).mono ?_;rintro e w' ⟨rfl,rfl⟩));refine aR (v:=aI (some ⟨0,bO 26 (wT true) 1⟩)) ?_ rfl ⟨rfl,?_⟩
 ·simp[results,results91,go_sem,aI,hc1]
 ·exact(((aO _ _ _ _).trans (hb1.mono (by simp;omega))).setCell (by show w.heap.size<=w.heap.size+1+1;omega) _).setCell (by show w.heap.size<=w.heap.size+1+1;omega) _
theorem D5(pb po:Nat)(A:Option Addr)(n aA B:Nat)(a b:V)(M:List MO)(w:World)(hB:B<=w.heap.size)(aZ:pb<w.heap.size)(hc:w.cell? ⟨pb,po,none⟩=some (.slice A n aA))(hM:cT w B A n M)(hk:a.obj<n)(iT:b.obj<n)(ha:¬a.obj=0)(hb:¬b.obj=0)(mC:nX M a b=true)(he:¬(a.obj:Int)=(b.obj:Int)):
  Calls prog 91 #[.pointer (some ⟨pb,po,none⟩),.int .i64 26,.agg #[.int .i64 a.obj,.int .i64 a.n],.agg #[.int .i64 b.obj,.int .i64 b.n]] w λe w'=>e= .returned (aI (some ⟨0,bO 26 (wT false) 1⟩))/\Below w.heap.size w w':=by
 have g66:(((a.obj:Int)==0))=false:=beq_eq_false_iff_ne.2 (by omega);have g67:(((b.obj:Int)==0))=false:=beq_eq_false_iff_ne.2 (by omega);have g68:(decide ((0:Int)<(a.obj:Int)))=true:=decide_eq_true (by omega);have g69:(decide ((0:Int)<(b.obj:Int)))=true:=decide_eq_true (by omega);have HC:=ae (λW(hb:Below w.heap.size w W)=>oG pb po A n aA w.heap.size a b M W hb.size (kL aZ hb.size) (ag hc hb aZ) (hM.below (hb.mono hB) hB) hk iT);rw[mC]at HC;clear hM hc;go_enter func91,ntmps91;go_wp2_with fail;refine(HC _ (aO _ _ _ _)).mono ?_;rintro e w1 ⟨rfl,hb1⟩;obtain⟨hc1,rT⟩:=aY hb1;have hz1:=hb1.size;simp only[World.size_alloc]at hz1
 go_wp2_with(first|(go_at_call 111;refine(fQ _ _).mono ?_;rintro e w' ⟨rfl,rfl⟩)|(go_at_call 108;refine(dJ _ _ _ _ (by decide) (by decide) (fR _).1 (fR _).2 (by decide) (by decide)).mono ?_;rintro e w' ⟨rfl,rfl⟩));refine aR (v:=aI (some ⟨0,bO 26 (wT false) 1⟩)) ?_ rfl ⟨rfl,?_⟩
 ·simp[results,results91,go_sem,aI,hc1]
 ·exact(((aO _ _ _ _).trans (hb1.mono (by simp;omega))).setCell (by show w.heap.size<=w.heap.size+1+1;omega) _).setCell (by show w.heap.size<=w.heap.size+1+1;omega) _
theorem Jq(pb po:Nat)(A:Option Addr)(n aA B:Nat)(a b:V)(M:List MO)(w:World)(hB:B<=w.heap.size)(aZ:pb<w.heap.size)(hc:w.cell? ⟨pb,po,none⟩=some (.slice A n aA))(hM:cT w B A n M)(hk:a.obj<n)(iT:b.obj<n)(ha:¬a.obj=0)(hb:¬b.obj=0)(mC:nX M a b=true)(y:Int)(he:b=⟨a.obj,y⟩)(he':¬a.n=y):
  Calls prog 91 #[.pointer (some ⟨pb,po,none⟩),.int .i64 26,.agg #[.int .i64 a.obj,.int .i64 a.n],.agg #[.int .i64 b.obj,.int .i64 b.n]] w λe w'=>e= .returned (aI (some ⟨0,bO 26 (wT false) 1⟩))/\Below w.heap.size w w':=by
 have g70:(((a.obj:Int)==0))=false:=beq_eq_false_iff_ne.2 (by omega);have g71:(((b.obj:Int)==0))=false:=beq_eq_false_iff_ne.2 (by omega);have g72:(decide ((0:Int)<(a.obj:Int)))=true:=decide_eq_true (by omega);have g73:(decide ((0:Int)<(b.obj:Int)))=true:=decide_eq_true (by omega);have HC:=ae (λW(hb:Below w.heap.size w W)=>oG pb po A n aA w.heap.size a b M W hb.size (kL aZ hb.size) (ag hc hb aZ) (hM.below (hb.mono hB) hB) hk iT);rw[mC]at HC;subst he;clear mC;simp only at*;clear hM hc;go_enter func91,ntmps91;go_wp2_with fail;refine(HC _ (aO _ _ _ _)).mono ?_;rintro e w1 ⟨rfl,hb1⟩;obtain⟨hc1,rT⟩:=aY hb1;have hz1:=hb1.size;simp only[World.size_alloc]at hz1
 go_wp2_with(first|(go_at_call 111;refine(fQ _ _).mono ?_;rintro e w' ⟨rfl,rfl⟩)|(go_at_call 108;refine(dJ _ _ _ _ (by decide) (by decide) (fR _).1 (fR _).2 (by decide) (by decide)).mono ?_;rintro e w' ⟨rfl,rfl⟩));refine aR (v:=aI (some ⟨0,bO 26 (wT false) 1⟩)) ?_ rfl ⟨rfl,?_⟩
 ·simp[results,results91,go_sem,aI,hc1]
 ·exact(((aO _ _ _ _).trans (hb1.mono (by simp;omega))).setCell (by show w.heap.size<=w.heap.size+1+1;omega) _).setCell (by show w.heap.size<=w.heap.size+1+1;omega) _
theorem Jo(pb po:Nat)(A:Option Addr)(n aA B:Nat)(a b:V)(M:List MO)(w:World)(_hB:B<=w.heap.size)(_hpb:pb<w.heap.size)(_hc:w.cell? ⟨pb,po,none⟩=some (.slice A n aA))(_hM:cT w B A n M)(ha:a.obj=0)(hb:¬b.obj=0)(hz:a.n=0)(he:¬(a.obj:Int)=(b.obj:Int)):
  Calls prog 91 #[.pointer (some ⟨pb,po,none⟩),.int .i64 26,.agg #[.int .i64 a.obj,.int .i64 a.n],.agg #[.int .i64 b.obj,.int .i64 b.n]] w λe w'=>e= .returned (aI (some ⟨0,bO 26 (wT false) 1⟩))/\Below w.heap.size w w':=by
 have g74:(((a.obj:Int)==0))=true:=beq_iff_eq.2 (by omega);have g75:(((b.obj:Int)==0))=false:=beq_eq_false_iff_ne.2 (by omega);have g76:(decide ((0:Int)<(a.obj:Int)))=false:=decide_eq_false (by omega);have g77:(decide ((0:Int)<(b.obj:Int)))=true:=decide_eq_true (by omega);have g78:(a.n !=0)=false:=by rw[bne_eq_false_iff_eq];omega
 clear _hM _hc hz;go_enter func91,ntmps91;go_wp2_with(first|(go_at_call 111;refine(fQ _ _).mono ?_;rintro e w' ⟨rfl,rfl⟩)|(go_at_call 108;refine(dJ _ _ _ _ (by decide) (by decide) (fR _).1 (fR _).2 (by decide) (by decide)).mono ?_;rintro e w' ⟨rfl,rfl⟩));refine aR (v:=aI (some ⟨0,bO 26 (wT false) 1⟩)) ?_ rfl ⟨rfl,?_⟩
 ·simp[results,results91,go_sem,aI]
 ·exact aO _ _ _ _
theorem Gd(pb po:Nat)(A:Option Addr)(n aA B:Nat)(a b:V)(M:List MO)(w:World)(_hB:B<=w.heap.size)(_hpb:pb<w.heap.size)(_hc:w.cell? ⟨pb,po,none⟩=some (.slice A n aA))(_hM:cT w B A n M)(ha:¬a.obj=0)(hb:b.obj=0)(hz:b.n=0)(he:¬(a.obj:Int)=(b.obj:Int)):
  Calls prog 91 #[.pointer (some ⟨pb,po,none⟩),.int .i64 26,.agg #[.int .i64 a.obj,.int .i64 a.n],.agg #[.int .i64 b.obj,.int .i64 b.n]] w λe w'=>e= .returned (aI (some ⟨0,bO 26 (wT false) 1⟩))/\Below w.heap.size w w':=by
 have g79:(((a.obj:Int)==0))=false:=beq_eq_false_iff_ne.2 (by omega);have g80:(((b.obj:Int)==0))=true:=beq_iff_eq.2 (by omega);have g81:(decide ((0:Int)<(a.obj:Int)))=true:=decide_eq_true (by omega);have g82:(decide ((0:Int)<(b.obj:Int)))=false:=decide_eq_false (by omega);have g83:(b.n !=0)=false:=by rw[bne_eq_false_iff_eq];omega
 clear _hM _hc hz;go_enter func91,ntmps91;go_wp2_with(first|(go_at_call 111;refine(fQ _ _).mono ?_;rintro e w' ⟨rfl,rfl⟩)|(go_at_call 108;refine(dJ _ _ _ _ (by decide) (by decide) (fR _).1 (fR _).2 (by decide) (by decide)).mono ?_;rintro e w' ⟨rfl,rfl⟩));refine aR (v:=aI (some ⟨0,bO 26 (wT false) 1⟩)) ?_ rfl ⟨rfl,?_⟩
 ·simp[results,results91,go_sem,aI]
 ·exact aO _ _ _ _
theorem Mx(pb po:Nat)(A:Option Addr)(n aA B:Nat)(a b:V)(M:List MO)(w:World)(_hB:B<=w.heap.size)(_hpb:pb<w.heap.size)(_hc:w.cell? ⟨pb,po,none⟩=some (.slice A n aA))(_hM:cT w B A n M)(ha:¬a.obj=0)(hb:¬b.obj=0)(he:¬(a.obj:Int)=(b.obj:Int)):
  Calls prog 91 #[.pointer (some ⟨pb,po,none⟩),.int .i64 12,.agg #[.int .i64 a.obj,.int .i64 a.n],.agg #[.int .i64 b.obj,.int .i64 b.n]] w λe w'=>e= .returned (aI (none))/\Below w.heap.size w w':=by
 have g84:(((a.obj:Int)==0))=false:=beq_eq_false_iff_ne.2 (by omega);have g85:(((b.obj:Int)==0))=false:=beq_eq_false_iff_ne.2 (by omega);have g86:(((a.obj:Int) !=(b.obj:Int)))=true:=by rw[bne_iff_ne];omega
 clear _hM _hc;go_enter func91,ntmps91;go_wp2_with fail;go_quiet (fail);go_wp2_with fail;refine aR (v:=aI (none)) ?_ rfl ⟨rfl,?_⟩
 ·simp[results,results91,go_sem,aI]
 ·exact((below_drewN (aO _ _ _ _) _).setCell (by show w.heap.size<=w.heap.size+1+1;omega) _).setCell (by show w.heap.size<=w.heap.size+1+1;omega) _
theorem Gk(pb po:Nat)(A:Option Addr)(n aA B:Nat)(a b:V)(M:List MO)(w:World)(hB:B<=w.heap.size)(aZ:pb<w.heap.size)(hc:w.cell? ⟨pb,po,none⟩=some (.slice A n aA))(hM:cT w B A n M)(ha:¬a.obj=0)(hb:¬b.obj=0)(y:Int)(he:b=⟨a.obj,y⟩)(hk:a.obj<n)(hl:(aF M a.obj).live=false):
  Calls prog 91 #[.pointer (some ⟨pb,po,none⟩),.int .i64 12,.agg #[.int .i64 a.obj,.int .i64 a.n],.agg #[.int .i64 b.obj,.int .i64 b.n]] w λe w'=>e= .returned (aI (none))/\Below w.heap.size w w':=by
 subst he;simp only at*;have g87:(((a.obj:Int)==0))=false:=beq_eq_false_iff_ne.2 (by omega);have g88:(((a.obj:Int) !=(a.obj:Int)))=false:=by simp
 obtain⟨mb,mo,rfl,gK,_,_,_,_,_,c2,_⟩:=hM.get hk;rw[hl]at c2;have eW:mb<w.heap.size:=by omega
 have bA:(a.obj:Int)<(n:Int):=by omega
 have hn:=hM.2.1;have qK:pb<w.heap.size+1:=by omega
 have P7:pb<w.heap.size+1+1:=by omega
 have mr:mb<w.heap.size+1:=by omega
 have Iz:mb<w.heap.size+1+1:=by omega
 clear hM hl;go_enter func91,ntmps91;go_wp2_with fail;go_quiet (fail);go_wp2_with fail;refine aR (v:=aI (none)) ?_ rfl ⟨rfl,?_⟩
 ·simp[results,results91,go_sem,aI]
 ·exact((below_drewN (aO _ _ _ _) _).setCell (by show w.heap.size<=w.heap.size+1+1;omega) _).setCell (by show w.heap.size<=w.heap.size+1+1;omega) _
theorem Gj(pb po:Nat)(A:Option Addr)(n aA B:Nat)(a b:V)(M:List MO)(w:World)(hB:B<=w.heap.size)(aZ:pb<w.heap.size)(hc:w.cell? ⟨pb,po,none⟩=some (.slice A n aA))(hM:cT w B A n M)(ha:¬a.obj=0)(hb:¬b.obj=0)(y:Int)(he:b=⟨a.obj,y⟩)(hk:a.obj<n)(hl:(aF M a.obj).live=true):
  Calls prog 91 #[.pointer (some ⟨pb,po,none⟩),.int .i64 12,.agg #[.int .i64 a.obj,.int .i64 a.n],.agg #[.int .i64 b.obj,.int .i64 b.n]] w λe w'=>e= .returned (aI (none))/\Below w.heap.size w w':=by
 subst he;simp only at*;have g89:(((a.obj:Int)==0))=false:=beq_eq_false_iff_ne.2 (by omega);have g90:(((a.obj:Int) !=(a.obj:Int)))=false:=by simp
 obtain⟨mb,mo,rfl,gK,_,_,_,_,_,c2,_⟩:=hM.get hk;rw[hl]at c2;have eW:mb<w.heap.size:=by omega
 have bA:(a.obj:Int)<(n:Int):=by omega
 have hn:=hM.2.1;have qK:pb<w.heap.size+1:=by omega
 have P7:pb<w.heap.size+1+1:=by omega
 have mr:mb<w.heap.size+1:=by omega
 have Iz:mb<w.heap.size+1+1:=by omega
 clear hM hl;go_enter func91,ntmps91;go_wp2_with fail;go_quiet (fail);go_wp2_with fail;refine aR (v:=aI (none)) ?_ rfl ⟨rfl,?_⟩
 ·simp[results,results91,go_sem,aI]
 ·exact((below_drewN (aO _ _ _ _) _).setCell (by show w.heap.size<=w.heap.size+1+1;omega) _).setCell (by show w.heap.size<=w.heap.size+1+1;omega) _
theorem Mw(pb po:Nat)(A:Option Addr)(n aA B:Nat)(a b:V)(M:List MO)(w:World)(_hB:B<=w.heap.size)(_hpb:pb<w.heap.size)(_hc:w.cell? ⟨pb,po,none⟩=some (.slice A n aA))(_hM:cT w B A n M)(ha:¬a.obj=0)(hb:¬b.obj=0)(he:¬(a.obj:Int)=(b.obj:Int)):
  Calls prog 91 #[.pointer (some ⟨pb,po,none⟩),.int .i64 13,.agg #[.int .i64 a.obj,.int .i64 a.n],.agg #[.int .i64 b.obj,.int .i64 b.n]] w λe w'=>e= .returned (aI (none))/\Below w.heap.size w w':=by
 have g91:(((a.obj:Int)==0))=false:=beq_eq_false_iff_ne.2 (by omega);have g92:(((b.obj:Int)==0))=false:=beq_eq_false_iff_ne.2 (by omega);have g93:(((a.obj:Int) !=(b.obj:Int)))=true:=by rw[bne_iff_ne];omega
 clear _hM _hc;go_enter func91,ntmps91;go_wp2_with fail;go_quiet (fail);go_wp2_with fail;refine aR (v:=aI (none)) ?_ rfl ⟨rfl,?_⟩
 ·simp[results,results91,go_sem,aI]
 ·exact((below_drewN (aO _ _ _ _) _).setCell (by show w.heap.size<=w.heap.size+1+1;omega) _).setCell (by show w.heap.size<=w.heap.size+1+1;omega) _
theorem Js(pb po:Nat)(A:Option Addr)(n aA B:Nat)(a b:V)(M:List MO)(w:World)(_hB:B<=w.heap.size)(_hpb:pb<w.heap.size)(_hc:w.cell? ⟨pb,po,none⟩=some (.slice A n aA))(_hM:cT w B A n M)(ha:a.obj=0)(hb:¬b.obj=0)(he:¬(a.obj:Int)=(b.obj:Int)):
  Calls prog 91 #[.pointer (some ⟨pb,po,none⟩),.int .i64 13,.agg #[.int .i64 a.obj,.int .i64 a.n],.agg #[.int .i64 b.obj,.int .i64 b.n]] w λe w'=>e= .returned (aI (none))/\Below w.heap.size w w':=by
 have g94:(((a.obj:Int)==0))=true:=beq_iff_eq.2 (by omega);have g95:(((b.obj:Int)==0))=false:=beq_eq_false_iff_ne.2 (by omega);have g96:(((a.obj:Int) !=(b.obj:Int)))=true:=by rw[bne_iff_ne];omega
 clear _hM _hc ha;go_enter func91,ntmps91;go_wp2_with fail;go_quiet (fail);go_wp2_with fail;refine aR (v:=aI (none)) ?_ rfl ⟨rfl,?_⟩
 ·simp[results,results91,go_sem,aI]
 ·exact((below_drewN (aO _ _ _ _) _).setCell (by show w.heap.size<=w.heap.size+1+1;omega) _).setCell (by show w.heap.size<=w.heap.size+1+1;omega) _
theorem Gi(pb po:Nat)(A:Option Addr)(n aA B:Nat)(a b:V)(M:List MO)(w:World)(hB:B<=w.heap.size)(aZ:pb<w.heap.size)(hc:w.cell? ⟨pb,po,none⟩=some (.slice A n aA))(hM:cT w B A n M)(hb:¬a.obj=0)(y:Int)(he:b=⟨a.obj,y⟩)(hk:a.obj<n)(hl:(aF M a.obj).live=false):
  Calls prog 91 #[.pointer (some ⟨pb,po,none⟩),.int .i64 13,.agg #[.int .i64 a.obj,.int .i64 a.n],.agg #[.int .i64 b.obj,.int .i64 b.n]] w λe w'=>e= .returned (aI (none))/\Below w.heap.size w w':=by
 subst he;simp only at*;have g97:(((a.obj:Int)==0))=false:=beq_eq_false_iff_ne.2 (by omega);have g98:(((a.obj:Int) !=(a.obj:Int)))=false:=by simp
 obtain⟨mb,mo,rfl,gK,_,_,_,_,_,c2,_⟩:=hM.get hk;rw[hl]at c2;have eW:mb<w.heap.size:=by omega
 have bA:(a.obj:Int)<(n:Int):=by omega
 have hn:=hM.2.1;have qK:pb<w.heap.size+1:=by omega
 have P7:pb<w.heap.size+1+1:=by omega
 have mr:mb<w.heap.size+1:=by omega
 have Iz:mb<w.heap.size+1+1:=by omega
 clear hM hl;go_enter func91,ntmps91;go_wp2_with fail;go_quiet (fail);go_wp2_with fail;refine aR (v:=aI (none)) ?_ rfl ⟨rfl,?_⟩
 ·simp[results,results91,go_sem,aI]
 ·exact((below_drewN (aO _ _ _ _) _).setCell (by show w.heap.size<=w.heap.size+1+1;omega) _).setCell (by show w.heap.size<=w.heap.size+1+1;omega) _
theorem Gh(pb po:Nat)(A:Option Addr)(n aA B:Nat)(a b:V)(M:List MO)(w:World)(hB:B<=w.heap.size)(aZ:pb<w.heap.size)(hc:w.cell? ⟨pb,po,none⟩=some (.slice A n aA))(hM:cT w B A n M)(hb:¬a.obj=0)(y:Int)(he:b=⟨a.obj,y⟩)(hk:a.obj<n)(hl:(aF M a.obj).live=true)(NS:-9223372036854775808<=a.n)(NR:a.n<=9223372036854775807)(Ie:-9223372036854775808<=y)(Ic:y<=9223372036854775807):
  Calls prog 91 #[.pointer (some ⟨pb,po,none⟩),.int .i64 13,.agg #[.int .i64 a.obj,.int .i64 a.n],.agg #[.int .i64 b.obj,.int .i64 b.n]] w λe w'=>e= .returned (aI (some ⟨0,bO 13 a.n y⟩))/\Below w.heap.size w w':=by
 subst he;simp only at*;have g99:(((a.obj:Int)==0))=false:=beq_eq_false_iff_ne.2 (by omega);have g100:(((a.obj:Int) !=(a.obj:Int)))=false:=by simp
 obtain⟨mb,mo,rfl,gK,_,_,_,_,_,c2,_⟩:=hM.get hk;rw[hl]at c2;have eW:mb<w.heap.size:=by omega
 have bA:(a.obj:Int)<(n:Int):=by omega
 have hn:=hM.2.1;have qK:pb<w.heap.size+1:=by omega
 have P7:pb<w.heap.size+1+1:=by omega
 have mr:mb<w.heap.size+1:=by omega
 have Iz:mb<w.heap.size+1+1:=by omega
 clear hM hl;go_enter func91,ntmps91;go_wp2_with(first|(go_at_call 108;refine(dJ _ _ _ _ (by decide) (by decide) NS NR Ie Ic).mono ?_;rintro e w' ⟨rfl,rfl⟩));go_quiet (fail);go_wp2_with(first|(go_at_call 108;refine(dJ _ _ _ _ (by decide) (by decide) NS NR Ie Ic).mono ?_;rintro e w' ⟨rfl,rfl⟩));refine aR (v:=aI (some ⟨0,bO 13 a.n y⟩)) ?_ rfl ⟨rfl,?_⟩
 ·simp[results,results91,go_sem,aI]
 ·exact((below_drewN (aO _ _ _ _) _).setCell (by show w.heap.size<=w.heap.size+1+1;omega) _).setCell (by show w.heap.size<=w.heap.size+1+1;omega) _
theorem Pg(pb po:Nat)(A:Option Addr)(n aA B:Nat)(op:Int)(a b:V)(M:List MO)(w:World)(_hB:B<=w.heap.size)(_hpb:pb<w.heap.size)(_hc:w.cell? ⟨pb,po,none⟩=some (.slice A n aA))(_hM:cT w B A n M)(Xv:¬op=12)(Xu:¬op=13)(Xt:¬op=25)(Xs:¬op=26)(ha:¬a.obj=0)(hb:¬b.obj=0)(he:¬(a.obj:Int)=(b.obj:Int)):
  Calls prog 91 #[.pointer (some ⟨pb,po,none⟩),.int .i64 op,.agg #[.int .i64 a.obj,.int .i64 a.n],.agg #[.int .i64 b.obj,.int .i64 b.n]] w λe w'=>e= .returned (aI (none))/\Below w.heap.size w w':=by
 have g101:(op==12)=false:=beq_eq_false_iff_ne.2 (by omega);have g102:(op==13)=false:=beq_eq_false_iff_ne.2 (by omega);have g103:(op==25)=false:=beq_eq_false_iff_ne.2 (by omega);have g104:(op==26)=false:=beq_eq_false_iff_ne.2 (by omega);have g105:(op !=13)=true:=by rw[bne_iff_ne];omega
 have g106:(((a.obj:Int)==0))=false:=beq_eq_false_iff_ne.2 (by omega);have g107:(((b.obj:Int)==0))=false:=beq_eq_false_iff_ne.2 (by omega);have g108:(((a.obj:Int) !=(b.obj:Int)))=true:=by rw[bne_iff_ne];omega
 clear _hM _hc;go_enter func91,ntmps91;go_wp2_with fail;go_quiet (fail);go_wp2_with fail;refine aR (v:=aI (none)) ?_ rfl ⟨rfl,?_⟩
 ·simp[results,results91,go_sem,aI]
 ·exact((below_drewN (aO _ _ _ _) _).setCell (by show w.heap.size<=w.heap.size+1+1;omega) _).setCell (by show w.heap.size<=w.heap.size+1+1;omega) _
theorem Mq(pb po:Nat)(A:Option Addr)(n aA B:Nat)(op:Int)(a b:V)(M:List MO)(w:World)(_hB:B<=w.heap.size)(_hpb:pb<w.heap.size)(_hc:w.cell? ⟨pb,po,none⟩=some (.slice A n aA))(_hM:cT w B A n M)(Xv:¬op=12)(Xu:¬op=13)(Xt:¬op=25)(Xs:¬op=26)(ha:a.obj=0)(hb:¬b.obj=0)(he:¬(a.obj:Int)=(b.obj:Int)):
  Calls prog 91 #[.pointer (some ⟨pb,po,none⟩),.int .i64 op,.agg #[.int .i64 a.obj,.int .i64 a.n],.agg #[.int .i64 b.obj,.int .i64 b.n]] w λe w'=>e= .returned (aI (none))/\Below w.heap.size w w':=by
 have g109:(op==12)=false:=beq_eq_false_iff_ne.2 (by omega);have g110:(op==13)=false:=beq_eq_false_iff_ne.2 (by omega);have g111:(op==25)=false:=beq_eq_false_iff_ne.2 (by omega);have g112:(op==26)=false:=beq_eq_false_iff_ne.2 (by omega);have g113:(op !=13)=true:=by rw[bne_iff_ne];omega
 have g114:(((a.obj:Int)==0))=true:=beq_iff_eq.2 (by omega);have g115:(((b.obj:Int)==0))=false:=beq_eq_false_iff_ne.2 (by omega);have g116:(((a.obj:Int) !=(b.obj:Int)))=true:=by rw[bne_iff_ne];omega
 clear _hM _hc ha;go_enter func91,ntmps91;go_wp2_with fail;go_quiet (fail);go_wp2_with fail;refine aR (v:=aI (none)) ?_ rfl ⟨rfl,?_⟩
 ·simp[results,results91,go_sem,aI]
 ·exact((below_drewN (aO _ _ _ _) _).setCell (by show w.heap.size<=w.heap.size+1+1;omega) _).setCell (by show w.heap.size<=w.heap.size+1+1;omega) _
theorem Mp(pb po:Nat)(A:Option Addr)(n aA B:Nat)(op:Int)(a b:V)(M:List MO)(w:World)(_hB:B<=w.heap.size)(_hpb:pb<w.heap.size)(_hc:w.cell? ⟨pb,po,none⟩=some (.slice A n aA))(_hM:cT w B A n M)(Xv:¬op=12)(Xu:¬op=13)(Xt:¬op=25)(Xs:¬op=26)(ha:¬a.obj=0)(hb:b.obj=0)(he:¬(a.obj:Int)=(b.obj:Int)):
  Calls prog 91 #[.pointer (some ⟨pb,po,none⟩),.int .i64 op,.agg #[.int .i64 a.obj,.int .i64 a.n],.agg #[.int .i64 b.obj,.int .i64 b.n]] w λe w'=>e= .returned (aI (none))/\Below w.heap.size w w':=by
 have g117:(op==12)=false:=beq_eq_false_iff_ne.2 (by omega);have g118:(op==13)=false:=beq_eq_false_iff_ne.2 (by omega);have g119:(op==25)=false:=beq_eq_false_iff_ne.2 (by omega);have g120:(op==26)=false:=beq_eq_false_iff_ne.2 (by omega);have g121:(op !=13)=true:=by rw[bne_iff_ne];omega
 have g122:(((a.obj:Int)==0))=false:=beq_eq_false_iff_ne.2 (by omega);have g123:(((b.obj:Int)==0))=true:=beq_iff_eq.2 (by omega);have g124:(((a.obj:Int) !=(b.obj:Int)))=true:=by rw[bne_iff_ne];omega
 clear _hM _hc hb;go_enter func91,ntmps91;go_wp2_with fail;go_quiet (fail);go_wp2_with fail;refine aR (v:=aI (none)) ?_ rfl ⟨rfl,?_⟩
 ·simp[results,results91,go_sem,aI]
 ·exact((below_drewN (aO _ _ _ _) _).setCell (by show w.heap.size<=w.heap.size+1+1;omega) _).setCell (by show w.heap.size<=w.heap.size+1+1;omega) _
theorem Jn(pb po:Nat)(A:Option Addr)(n aA B:Nat)(op:Int)(a b:V)(M:List MO)(w:World)(hB:B<=w.heap.size)(aZ:pb<w.heap.size)(hc:w.cell? ⟨pb,po,none⟩=some (.slice A n aA))(hM:cT w B A n M)(Xv:¬op=12)(Xu:¬op=13)(Xt:¬op=25)(Xs:¬op=26)(hb:¬a.obj=0)(y:Int)(he:b=⟨a.obj,y⟩)(hk:a.obj<n)(hl:(aF M a.obj).live=false):
  Calls prog 91 #[.pointer (some ⟨pb,po,none⟩),.int .i64 op,.agg #[.int .i64 a.obj,.int .i64 a.n],.agg #[.int .i64 b.obj,.int .i64 b.n]] w λe w'=>e= .returned (aI (none))/\Below w.heap.size w w':=by
 subst he;simp only at*;have g125:(((a.obj:Int)==0))=false:=beq_eq_false_iff_ne.2 (by omega);have g126:(((a.obj:Int) !=(a.obj:Int)))=false:=by simp
 have g127:(op==12)=false:=beq_eq_false_iff_ne.2 (by omega);have g128:(op==13)=false:=beq_eq_false_iff_ne.2 (by omega);have g129:(op==25)=false:=beq_eq_false_iff_ne.2 (by omega);have g130:(op==26)=false:=beq_eq_false_iff_ne.2 (by omega);have g131:(op !=13)=true:=by rw[bne_iff_ne];omega
 obtain⟨mb,mo,rfl,gK,_,_,_,_,_,c2,_⟩:=hM.get hk;rw[hl]at c2;have eW:mb<w.heap.size:=by omega
 have bA:(a.obj:Int)<(n:Int):=by omega
 have hn:=hM.2.1;have qK:pb<w.heap.size+1:=by omega
 have P7:pb<w.heap.size+1+1:=by omega
 have mr:mb<w.heap.size+1:=by omega
 have Iz:mb<w.heap.size+1+1:=by omega
 clear hM hl;go_enter func91,ntmps91;go_wp2_with fail;go_quiet (fail);go_wp2_with fail;refine aR (v:=aI (none)) ?_ rfl ⟨rfl,?_⟩
 ·simp[results,results91,go_sem,aI]
 ·exact((below_drewN (aO _ _ _ _) _).setCell (by show w.heap.size<=w.heap.size+1+1;omega) _).setCell (by show w.heap.size<=w.heap.size+1+1;omega) _
theorem Mr(pb po:Nat)(A:Option Addr)(n aA B:Nat)(op:Int)(a b:V)(M:List MO)(w:World)(hB:B<=w.heap.size)(aZ:pb<w.heap.size)(hc:w.cell? ⟨pb,po,none⟩=some (.slice A n aA))(hM:cT w B A n M)(Xv:¬op=12)(Xu:¬op=13)(Xt:¬op=25)(Xs:¬op=26)(hb:¬a.obj=0)(y:Int)(he:b=⟨a.obj,y⟩)(hk:a.obj<n)(hl:(aF M a.obj).live=true)(hop:op<27):
  Calls prog 91 #[.pointer (some ⟨pb,po,none⟩),.int .i64 op,.agg #[.int .i64 a.obj,.int .i64 a.n],.agg #[.int .i64 b.obj,.int .i64 b.n]] w λe w'=>e= .returned (aI (none))/\Below w.heap.size w w':=by
 subst he;simp only at*;have g132:(((a.obj:Int)==0))=false:=beq_eq_false_iff_ne.2 (by omega);have g133:(((a.obj:Int) !=(a.obj:Int)))=false:=by simp
 have g134:(decide (27<=op))=false:=decide_eq_false (by omega);have g135:(op==12)=false:=beq_eq_false_iff_ne.2 (by omega);have g136:(op==13)=false:=beq_eq_false_iff_ne.2 (by omega);have g137:(op==25)=false:=beq_eq_false_iff_ne.2 (by omega);have g138:(op==26)=false:=beq_eq_false_iff_ne.2 (by omega);have g139:(op !=13)=true:=by rw[bne_iff_ne];omega
 obtain⟨mb,mo,rfl,gK,_,_,_,_,_,c2,_⟩:=hM.get hk;rw[hl]at c2;have eW:mb<w.heap.size:=by omega
 have bA:(a.obj:Int)<(n:Int):=by omega
 have hn:=hM.2.1;have qK:pb<w.heap.size+1:=by omega
 have P7:pb<w.heap.size+1+1:=by omega
 have mr:mb<w.heap.size+1:=by omega
 have Iz:mb<w.heap.size+1+1:=by omega
 clear hM hl;go_enter func91,ntmps91;go_wp2_with fail;go_quiet (fail);go_wp2_with fail;refine aR (v:=aI (none)) ?_ rfl ⟨rfl,?_⟩
 ·simp[results,results91,go_sem,aI]
 ·exact((below_drewN (aO _ _ _ _) _).setCell (by show w.heap.size<=w.heap.size+1+1;omega) _).setCell (by show w.heap.size<=w.heap.size+1+1;omega) _
theorem Jm(pb po:Nat)(A:Option Addr)(n aA B:Nat)(op:Int)(a b:V)(M:List MO)(w:World)(hB:B<=w.heap.size)(aZ:pb<w.heap.size)(hc:w.cell? ⟨pb,po,none⟩=some (.slice A n aA))(hM:cT w B A n M)(Xv:¬op=12)(Xu:¬op=13)(Xt:¬op=25)(Xs:¬op=26)(Iq:12<=op)(Ip:op<=30)(hb:¬a.obj=0)(y:Int)(he:b=⟨a.obj,y⟩)(hk:a.obj<n)(hl:(aF M a.obj).live=true)(hop:27<=op)(NS:-9223372036854775808<=a.n)(NR:a.n<=9223372036854775807)(Ie:-9223372036854775808<=y)(Ic:y<=9223372036854775807):
  Calls prog 91 #[.pointer (some ⟨pb,po,none⟩),.int .i64 op,.agg #[.int .i64 a.obj,.int .i64 a.n],.agg #[.int .i64 b.obj,.int .i64 b.n]] w λe w'=>e= .returned (aI (some ⟨0,bO op a.n y⟩))/\Below w.heap.size w w':=by
 subst he;simp only at*;have g149:(((a.obj:Int)==0))=false:=beq_eq_false_iff_ne.2 (by omega);have g150:(((a.obj:Int) !=(a.obj:Int)))=false:=by simp
 have g151:(decide (27<=op))=true:=decide_eq_true (by omega);have g152:(decide (op<=30))=true:=decide_eq_true (by omega);have g153:(op==12)=false:=beq_eq_false_iff_ne.2 (by omega);have g154:(op==13)=false:=beq_eq_false_iff_ne.2 (by omega);have g155:(op==25)=false:=beq_eq_false_iff_ne.2 (by omega);have g156:(op==26)=false:=beq_eq_false_iff_ne.2 (by omega);have g157:(op !=13)=true:=by rw[bne_iff_ne];omega
 obtain⟨mb,mo,rfl,gK,_,_,_,_,_,c2,_⟩:=hM.get hk;rw[hl]at c2;have eW:mb<w.heap.size:=by omega
 have bA:(a.obj:Int)<(n:Int):=by omega
 have hn:=hM.2.1;have qK:pb<w.heap.size+1:=by omega
 have P7:pb<w.heap.size+1+1:=by omega
 have mr:mb<w.heap.size+1:=by omega
 have Iz:mb<w.heap.size+1+1:=by omega
 clear hM hl;go_enter func91,ntmps91;go_wp2_with(first|(go_at_call 108;refine(dJ _ _ _ _ Iq Ip NS NR Ie Ic).mono ?_;rintro e w' ⟨rfl,rfl⟩));go_quiet (fail);go_wp2_with(first|(go_at_call 108;refine(dJ _ _ _ _ Iq Ip NS NR Ie Ic).mono ?_;rintro e w' ⟨rfl,rfl⟩));refine aR (v:=aI (some ⟨0,bO op a.n y⟩)) ?_ rfl ⟨rfl,?_⟩
 ·simp[results,results91,go_sem,aI]
 ·exact((below_drewN (aO _ _ _ _) _).setCell (by show w.heap.size<=w.heap.size+1+1;omega) _).setCell (by show w.heap.size<=w.heap.size+1+1;omega) _
theorem V.same{a b:V}(h:a.obj=b.obj):b=⟨a.obj,b.n⟩:=by cases a;cases b;simp_all
theorem SF(pb po:Nat)(A:Option Addr)(n aA B:Nat)(op:Int)(a b:V)(M:List MO)(w:World)(hB:B<=w.heap.size)(aZ:pb<w.heap.size)(hc:w.cell? ⟨pb,po,none⟩=some (.slice A n aA))(hM:cT w B A n M)(hk:a.obj≠0->a.obj<n)(iT:b.obj≠0->b.obj<n)
  (hx:a.obj≠0->0<=a.n/\a.n<=512)(hy:b.obj≠0->0<=b.n/\b.n<=512)(ia:bz a.n)(ib:bz b.n)(Iq:12<=op)(Ip:op<=30):
  Calls prog 91 #[.pointer (some ⟨pb,po,none⟩),.int .i64 op,.agg #[.int .i64 a.obj,.int .i64 a.n],.agg #[.int .i64 b.obj,.int .i64 b.n]] w λe w'=>e= .returned (aI (gR bO M op a b))/\Below w.heap.size w w':=by
 obtain⟨NS,NR⟩:=ia;obtain⟨Ie,Ic⟩:=ib;unfold gR;by_cases ha:a.obj=0
 ·by_cases hb:b.obj=0
  ·rw[if_pos ⟨ha,hb⟩];exact Pk pb po A n aA B op a b M w hB aZ hc hM Iq Ip ha hb NS NR Ie Ic
  ·obtain⟨qE,pU⟩:=hy hb;have iT:=iT hb;rw[if_neg (by omega)];have hne:¬(a.obj:Int)=(b.obj:Int):=by omega
   by_cases E4:op=12
   ·rw[if_pos ⟨E4,ha⟩];subst E4;cases hm:dD M b a.n with
    |none=>exact Mv pb po A n aA B a b M w hB aZ hc hM ha hb iT qE pU hm
    |some r=>exact Mu pb po A n aA B a b M w hB aZ hc hM ha hb iT qE pU r hm
   ·rw[if_neg (by omega),if_neg (by omega),if_neg (by omega)];by_cases GF:op=25\/op=26
    ·rw[if_pos GF];by_cases hz:a.n=0
     ·rw[if_neg (by omega),if_neg (by omega),if_neg (by intro h;exact hne (by rw[h]))];rcases GF with rfl|rfl
      ·exact Jp pb po A n aA B a b M w hB aZ hc hM ha hb hz hne
      ·exact Jo pb po A n aA B a b M w hB aZ hc hM ha hb hz hne
     ·rw[if_pos (by omega)];rcases GF with rfl|rfl
      ·exact D8 pb po A n aA B a b M w hB aZ hc hM ha hb hz
      ·exact D7 pb po A n aA B a b M w hB aZ hc hM ha hb hz
    ·rw[if_neg GF,if_pos (by omega)];by_cases E3:op=13
     ·subst E3;exact Js pb po A n aA B a b M w hB aZ hc hM ha hb hne
     ·exact Mq pb po A n aA B op a b M w hB aZ hc hM E4 E3 (by omega) (by omega) ha hb hne
 ·obtain⟨hx0,hx1⟩:=hx ha;have hk:=hk ha;rw[if_neg (by omega),if_neg (by omega)];by_cases hb:b.obj=0
  ·have hne:¬(a.obj:Int)=(b.obj:Int):=by omega
   by_cases E4:op=12
   ·rw[if_pos ⟨E4,hb⟩];subst E4;cases hm:dD M a b.n with
    |none=>exact Mt pb po A n aA B a b M w hB aZ hc hM ha hb hk hx0 hx1 hm
    |some r=>exact Ms pb po A n aA B a b M w hB aZ hc hM ha hb hk hx0 hx1 r hm
   ·rw[if_neg (by omega)];by_cases E3:op=13
    ·rw[if_pos ⟨E3,hb⟩];subst E3;by_cases Fo:b.n= -9223372036854775808
     ·rw[if_pos Fo];exact Gc pb po A n aA B a b M w hB aZ hc hM ha hb Fo
     ·rw[if_neg Fo];cases hm:dD M a (-b.n)with
      |none=>exact Pj pb po A n aA B a b M w hB aZ hc hM ha hb hk hx0 hx1 Fo Ie Ic hm
      |some r=>exact Ph pb po A n aA B a b M w hB aZ hc hM ha hb hk hx0 hx1 Fo Ie Ic r hm
    ·rw[if_neg (by omega)];by_cases GF:op=25\/op=26
     ·rw[if_pos GF];by_cases hz:b.n=0
      ·rw[if_neg (by omega),if_neg (by omega),if_neg (by intro h;exact hne (by rw[h]))];rcases GF with rfl|rfl
       ·exact Ge pb po A n aA B a b M w hB aZ hc hM ha hb hz hne
       ·exact Gd pb po A n aA B a b M w hB aZ hc hM ha hb hz hne
      ·rw[if_pos (by omega)];rcases GF with rfl|rfl
       ·exact CF pb po A n aA B a b M w hB aZ hc hM ha hb hz
       ·exact CE pb po A n aA B a b M w hB aZ hc hM ha hb hz
     ·rw[if_neg GF,if_pos (by omega)];exact Mp pb po A n aA B op a b M w hB aZ hc hM E4 E3 (by omega) (by omega) ha hb hne
  ·have iT:=iT hb;rw[if_neg (by omega),if_neg (by omega)];by_cases GF:op=25\/op=26
   ·rw[if_pos GF,if_neg (by omega)];cases mC:nX M a b with
    |false=>
     rw[if_pos ⟨by omega,by omega,rfl⟩];rcases GF with rfl|rfl
     ·exact Gg pb po A n aA B a b M w hB aZ hc hM hk iT ha hb mC
     ·exact Gf pb po A n aA B a b M w hB aZ hc hM hk iT ha hb mC
    |true=>
     rw[if_neg (by simp)];by_cases he:a=b
     ·rw[if_pos he];rcases GF with rfl|rfl
      ·exact CD pb po A n aA B a b M w hB aZ hc hM hk iT ha hb mC he
      ·exact CC pb po A n aA B a b M w hB aZ hc hM hk iT ha hb mC he
     ·rw[if_neg he];by_cases ho:a.obj=b.obj
      ·have hn:¬a.n=b.n:=λh=>he (by cases a;cases b;simp_all);rcases GF with rfl|rfl
       ·exact Jr pb po A n aA B a b M w hB aZ hc hM hk iT ha hb mC b.n (V.same ho) hn
       ·exact Jq pb po A n aA B a b M w hB aZ hc hM hk iT ha hb mC b.n (V.same ho) hn
      ·rcases GF with rfl|rfl
       ·exact D6 pb po A n aA B a b M w hB aZ hc hM hk iT ha hb mC (by omega)
       ·exact D5 pb po A n aA B a b M w hB aZ hc hM hk iT ha hb mC (by omega)
   ·rw[if_neg GF];by_cases ho:a.obj=b.obj
    ·cases hl:(aF M a.obj).live with
     |false=>
      rw[if_pos (by simp)];by_cases E4:op=12
      ·subst E4;exact Gk pb po A n aA B a b M w hB aZ hc hM ha hb b.n (V.same ho) hk hl
      ·by_cases E3:op=13
       ·subst E3;exact Gi pb po A n aA B a b M w hB aZ hc hM ha b.n (V.same ho) hk hl
       ·exact Jn pb po A n aA B op a b M w hB aZ hc hM E4 E3 (by omega) (by omega) ha b.n (V.same ho) hk hl
     |true=>
      by_cases E4:op=12
      ·rw[if_pos (by omega)];subst E4;exact Gj pb po A n aA B a b M w hB aZ hc hM ha hb b.n (V.same ho) hk hl
      ·by_cases E3:op=13
       ·rw[if_neg (by simp[ho,E3])];subst E3;exact Gh pb po A n aA B a b M w hB aZ hc hM ha b.n (V.same ho) hk hl NS NR Ie Ic
       ·by_cases o27:op<27
        ·rw[if_pos (by omega)];exact Mr pb po A n aA B op a b M w hB aZ hc hM E4 E3 (by omega) (by omega) ha b.n (V.same ho) hk hl o27
        ·rw[if_neg (by simp[ho];omega)];exact Jm pb po A n aA B op a b M w hB aZ hc hM E4 E3 (by omega) (by omega) Iq Ip ha b.n (V.same ho) hk hl (by omega) NS NR Ie Ic
    ·rw[if_pos (aH ho)];have hne:¬(a.obj:Int)=(b.obj:Int):=by omega
     by_cases E4:op=12
     ·subst E4;exact Mx pb po A n aA B a b M w hB aZ hc hM ha hb hne
     ·by_cases E3:op=13
      ·subst E3;exact Mw pb po A n aA B a b M w hB aZ hc hM ha hb hne
      ·exact Pg pb po A n aA B op a b M w hB aZ hc hM E4 E3 (by omega) (by omega) ha hb hne
end Go.Proofs.YtikbdplllopjlaaGreat
