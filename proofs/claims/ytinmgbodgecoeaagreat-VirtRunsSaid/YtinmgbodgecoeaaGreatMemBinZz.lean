/- The page's memory: an op of two values. Conditions: as stated. -/
import Derived.Test.YtinmgbodgecoeaaGreatMemCmpZz
import Derived.Test.YtinmgbodgecoeaaGreatQ02Zz
set_option linter.unusedSimpArgs false
set_option linter.unusedVariables false
set_option maxHeartbeats 8000000
set_option maxRecDepth 100000
open Go.Proofs.Tryz
namespace Go.Proofs.YtinmgbodgecoeaaGreat
open Go.RowKit
theorem gq(t:Bool):-9223372036854775808<=vH t/\vH t<=9223372036854775807:=by cases t<;>decide
theorem gp(t:Bool)(w:World):
  Calls prog 89 #[.bool t] w λe w'=>e= .returned (.int .i64 (vH t))/\w=w':=by
 cases t
 all_goals
  go_enter func89,ntmps89;go_wp2;go_ret;exact⟨rfl,rfl⟩
theorem Qq(pb po:Nat)(A:Option Addr)(n aA B:Nat)(op:Int)(a b:V)(M:List MO)(w:World)(_hB:B<=w.heap.size)(_hpb:pb<w.heap.size)(_hc:w.cell? ⟨pb,po,none⟩=some (.slice A n aA))(_hM:cK w B A n M)(Kh:12<=op)(Kg:op<=30)(ha:a.obj=0)(hb:b.obj=0)(Pg:-9223372036854775808<=a.n)(Pe:a.n<=9223372036854775807)(J6:-9223372036854775808<=b.n)(J5:b.n<=9223372036854775807):
  Calls prog 67 #[.pointer (some ⟨pb,po,none⟩),.int .i64 op,.agg #[.int .i64 a.obj,.int .i64 a.n],.agg #[.int .i64 b.obj,.int .i64 b.n]] w λe w'=>e= .returned (aO (some ⟨0,bF op a.n b.n⟩))/\Below w.heap.size w w':=by
 have g1:(((a.obj:Int)==0))=true:=beq_iff_eq.2 (by omega);have g2:(((b.obj:Int)==0))=true:=beq_iff_eq.2 (by omega);clear _hM _hc ha hb;go_enter func67,ntmps67;go_wp2_with(first|(go_at_call 86;refine(cY _ _ _ _ Kh Kg Pg Pe J6 J5).mono ?_;rintro e w' ⟨rfl,rfl⟩));refine aS (v:=aO (some ⟨0,bF op a.n b.n⟩)) ?_ rfl ⟨rfl,?_⟩
 ·simp[results,results67,go_sem,aO]
 ·exact aN _ _ _ _
theorem NB(pb po:Nat)(A:Option Addr)(n aA B:Nat)(a b:V)(M:List MO)(w:World)(hB:B<=w.heap.size)(hpb:pb<w.heap.size)(hc:w.cell? ⟨pb,po,none⟩=some (.slice A n aA))(hM:cK w B A n M)(ha:a.obj=0)(hb:¬b.obj=0)(hk:b.obj<n)(hx0:0<=b.n)(hx1:b.n<=512)(hr:cT M b a.n=none):
  Calls prog 67 #[.pointer (some ⟨pb,po,none⟩),.int .i64 12,.agg #[.int .i64 a.obj,.int .i64 a.n],.agg #[.int .i64 b.obj,.int .i64 b.n]] w λe w'=>e= .returned (aO (none))/\Below w.heap.size w w':=by
 have g3:(((a.obj:Int)==0))=true:=beq_iff_eq.2 (by omega);have g4:(((b.obj:Int)==0))=false:=beq_eq_false_iff_ne.2 (by omega);have HC:=ae (λW(hb:Below w.heap.size w W)=>(hr▸o7 pb po A n aA w.heap.size b a.n M W hb.size (fQ hpb hb.size) (ag hc hb hpb) (hM.below (hb.mono hB) hB) hk hx0 hx1:Calls prog 87 #[.pointer (some ⟨pb,po,none⟩),.agg #[.int .i64 b.obj,.int .i64 b.n],.int .i64 a.n] W λe w'=>e= .returned (aO (none))/\Below W.heap.size W w'));simp only[aO]at HC;clear hM hc hr;go_enter func67,ntmps67;go_wp2_with fail;refine(HC _ (aN _ _ _ _)).mono ?_;rintro e w1 ⟨rfl,hb1⟩;obtain⟨hc1,hf1⟩:=bL hb1;have hz1:=hb1.size;simp only[World.size_alloc]at hz1;go_wp2_with fail;refine aS (v:=aO (none)) ?_ rfl ⟨rfl,?_⟩
 ·simp[results,results67,go_sem,aO,hc1]
 ·exact(((aN _ _ _ _).trans (hb1.mono (by simp;omega))).setCell (by show w.heap.size<=w.heap.size+1+1;omega) _).setCell (by show w.heap.size<=w.heap.size+1+1;omega) _
theorem NA(pb po:Nat)(A:Option Addr)(n aA B:Nat)(a b:V)(M:List MO)(w:World)(hB:B<=w.heap.size)(hpb:pb<w.heap.size)(hc:w.cell? ⟨pb,po,none⟩=some (.slice A n aA))(hM:cK w B A n M)(ha:a.obj=0)(hb:¬b.obj=0)(hk:b.obj<n)(hx0:0<=b.n)(hx1:b.n<=512)(r:V)(hr:cT M b a.n=some r):
  Calls prog 67 #[.pointer (some ⟨pb,po,none⟩),.int .i64 12,.agg #[.int .i64 a.obj,.int .i64 a.n],.agg #[.int .i64 b.obj,.int .i64 b.n]] w λe w'=>e= .returned (aO (some r))/\Below w.heap.size w w':=by
 have g5:(((a.obj:Int)==0))=true:=beq_iff_eq.2 (by omega);have g6:(((b.obj:Int)==0))=false:=beq_eq_false_iff_ne.2 (by omega);have HC:=ae (λW(hb:Below w.heap.size w W)=>(hr▸o7 pb po A n aA w.heap.size b a.n M W hb.size (fQ hpb hb.size) (ag hc hb hpb) (hM.below (hb.mono hB) hB) hk hx0 hx1:Calls prog 87 #[.pointer (some ⟨pb,po,none⟩),.agg #[.int .i64 b.obj,.int .i64 b.n],.int .i64 a.n] W λe w'=>e= .returned (aO (some r))/\Below W.heap.size W w'));simp only[aO]at HC;clear hM hc hr;go_enter func67,ntmps67;go_wp2_with fail;refine(HC _ (aN _ _ _ _)).mono ?_;rintro e w1 ⟨rfl,hb1⟩;obtain⟨hc1,hf1⟩:=bL hb1;have hz1:=hb1.size;simp only[World.size_alloc]at hz1;go_wp2_with fail;refine aS (v:=aO (some r)) ?_ rfl ⟨rfl,?_⟩
 ·simp[results,results67,go_sem,aO,hc1]
 ·exact(((aN _ _ _ _).trans (hb1.mono (by simp;omega))).setCell (by show w.heap.size<=w.heap.size+1+1;omega) _).setCell (by show w.heap.size<=w.heap.size+1+1;omega) _
theorem Nz(pb po:Nat)(A:Option Addr)(n aA B:Nat)(a b:V)(M:List MO)(w:World)(hB:B<=w.heap.size)(hpb:pb<w.heap.size)(hc:w.cell? ⟨pb,po,none⟩=some (.slice A n aA))(hM:cK w B A n M)(ha:¬a.obj=0)(hb:b.obj=0)(hk:a.obj<n)(hx0:0<=a.n)(hx1:a.n<=512)(hr:cT M a b.n=none):
  Calls prog 67 #[.pointer (some ⟨pb,po,none⟩),.int .i64 12,.agg #[.int .i64 a.obj,.int .i64 a.n],.agg #[.int .i64 b.obj,.int .i64 b.n]] w λe w'=>e= .returned (aO (none))/\Below w.heap.size w w':=by
 have g7:(((a.obj:Int)==0))=false:=beq_eq_false_iff_ne.2 (by omega);have g8:(((b.obj:Int)==0))=true:=beq_iff_eq.2 (by omega);have HC:=ae (λW(hb:Below w.heap.size w W)=>(hr▸o7 pb po A n aA w.heap.size a b.n M W hb.size (fQ hpb hb.size) (ag hc hb hpb) (hM.below (hb.mono hB) hB) hk hx0 hx1:Calls prog 87 #[.pointer (some ⟨pb,po,none⟩),.agg #[.int .i64 a.obj,.int .i64 a.n],.int .i64 b.n] W λe w'=>e= .returned (aO (none))/\Below W.heap.size W w'));simp only[aO]at HC;clear hM hc hr;go_enter func67,ntmps67;go_wp2_with fail;refine(HC _ (aN _ _ _ _)).mono ?_;rintro e w1 ⟨rfl,hb1⟩;obtain⟨hc1,hf1⟩:=bL hb1;have hz1:=hb1.size;simp only[World.size_alloc]at hz1;go_wp2_with fail;refine aS (v:=aO (none)) ?_ rfl ⟨rfl,?_⟩
 ·simp[results,results67,go_sem,aO,hc1]
 ·exact(((aN _ _ _ _).trans (hb1.mono (by simp;omega))).setCell (by show w.heap.size<=w.heap.size+1+1;omega) _).setCell (by show w.heap.size<=w.heap.size+1+1;omega) _
theorem Ny(pb po:Nat)(A:Option Addr)(n aA B:Nat)(a b:V)(M:List MO)(w:World)(hB:B<=w.heap.size)(hpb:pb<w.heap.size)(hc:w.cell? ⟨pb,po,none⟩=some (.slice A n aA))(hM:cK w B A n M)(ha:¬a.obj=0)(hb:b.obj=0)(hk:a.obj<n)(hx0:0<=a.n)(hx1:a.n<=512)(r:V)(hr:cT M a b.n=some r):
  Calls prog 67 #[.pointer (some ⟨pb,po,none⟩),.int .i64 12,.agg #[.int .i64 a.obj,.int .i64 a.n],.agg #[.int .i64 b.obj,.int .i64 b.n]] w λe w'=>e= .returned (aO (some r))/\Below w.heap.size w w':=by
 have g9:(((a.obj:Int)==0))=false:=beq_eq_false_iff_ne.2 (by omega);have g10:(((b.obj:Int)==0))=true:=beq_iff_eq.2 (by omega);have HC:=ae (λW(hb:Below w.heap.size w W)=>(hr▸o7 pb po A n aA w.heap.size a b.n M W hb.size (fQ hpb hb.size) (ag hc hb hpb) (hM.below (hb.mono hB) hB) hk hx0 hx1:Calls prog 87 #[.pointer (some ⟨pb,po,none⟩),.agg #[.int .i64 a.obj,.int .i64 a.n],.int .i64 b.n] W λe w'=>e= .returned (aO (some r))/\Below W.heap.size W w'));simp only[aO]at HC;clear hM hc hr;go_enter func67,ntmps67;go_wp2_with fail;refine(HC _ (aN _ _ _ _)).mono ?_;rintro e w1 ⟨rfl,hb1⟩;obtain⟨hc1,hf1⟩:=bL hb1;have hz1:=hb1.size;simp only[World.size_alloc]at hz1;go_wp2_with fail;refine aS (v:=aO (some r)) ?_ rfl ⟨rfl,?_⟩
 ·simp[results,results67,go_sem,aO,hc1]
 ·exact(((aN _ _ _ _).trans (hb1.mono (by simp;omega))).setCell (by show w.heap.size<=w.heap.size+1+1;omega) _).setCell (by show w.heap.size<=w.heap.size+1+1;omega) _
theorem Qp(pb po:Nat)(A:Option Addr)(n aA B:Nat)(a b:V)(M:List MO)(w:World)(hB:B<=w.heap.size)(hpb:pb<w.heap.size)(hc:w.cell? ⟨pb,po,none⟩=some (.slice A n aA))(hM:cK w B A n M)(ha:¬a.obj=0)(hb:b.obj=0)(hk:a.obj<n)(hx0:0<=a.n)(hx1:a.n<=512)(hm:¬b.n= -9223372036854775808)(J6:-9223372036854775808<=b.n)(J5:b.n<=9223372036854775807)(hr:cT M a (-b.n)=none):
  Calls prog 67 #[.pointer (some ⟨pb,po,none⟩),.int .i64 13,.agg #[.int .i64 a.obj,.int .i64 a.n],.agg #[.int .i64 b.obj,.int .i64 b.n]] w λe w'=>e= .returned (aO (none))/\Below w.heap.size w w':=by
 have g11:(((a.obj:Int)==0))=false:=beq_eq_false_iff_ne.2 (by omega);have g12:(((b.obj:Int)==0))=true:=beq_iff_eq.2 (by omega);have g13:(b.n== -9223372036854775808)=false:=beq_eq_false_iff_ne.2 (by omega);have HC:=ae (λW(hb:Below w.heap.size w W)=>(hr▸o7 pb po A n aA w.heap.size a (-b.n) M W hb.size (fQ hpb hb.size) (ag hc hb hpb) (hM.below (hb.mono hB) hB) hk hx0 hx1:Calls prog 87 #[.pointer (some ⟨pb,po,none⟩),.agg #[.int .i64 a.obj,.int .i64 a.n],.int .i64 (-b.n)] W λe w'=>e= .returned (aO (none))/\Below W.heap.size W w'));simp only[aO]at HC;clear hM hc hr;go_enter func67,ntmps67;go_wp2_with fail;refine(HC _ (aN _ _ _ _)).mono ?_;rintro e w1 ⟨rfl,hb1⟩;obtain⟨hc1,hf1⟩:=bL hb1;have hz1:=hb1.size;simp only[World.size_alloc]at hz1;go_wp2_with fail
 refine aS (v:=aO (none)) ?_ rfl ⟨rfl,?_⟩
 ·simp[results,results67,go_sem,aO,hc1]
 ·exact(((aN _ _ _ _).trans (hb1.mono (by simp;omega))).setCell (by show w.heap.size<=w.heap.size+1+1;omega) _).setCell (by show w.heap.size<=w.heap.size+1+1;omega) _
theorem Qo(pb po:Nat)(A:Option Addr)(n aA B:Nat)(a b:V)(M:List MO)(w:World)(hB:B<=w.heap.size)(hpb:pb<w.heap.size)(hc:w.cell? ⟨pb,po,none⟩=some (.slice A n aA))(hM:cK w B A n M)(ha:¬a.obj=0)(hb:b.obj=0)(hk:a.obj<n)(hx0:0<=a.n)(hx1:a.n<=512)(hm:¬b.n= -9223372036854775808)(J6:-9223372036854775808<=b.n)(J5:b.n<=9223372036854775807)(r:V)(hr:cT M a (-b.n)=some r):
  Calls prog 67 #[.pointer (some ⟨pb,po,none⟩),.int .i64 13,.agg #[.int .i64 a.obj,.int .i64 a.n],.agg #[.int .i64 b.obj,.int .i64 b.n]] w λe w'=>e= .returned (aO (some r))/\Below w.heap.size w w':=by
 have g14:(((a.obj:Int)==0))=false:=beq_eq_false_iff_ne.2 (by omega);have g15:(((b.obj:Int)==0))=true:=beq_iff_eq.2 (by omega);have g16:(b.n== -9223372036854775808)=false:=beq_eq_false_iff_ne.2 (by omega);have HC:=ae (λW(hb:Below w.heap.size w W)=>(hr▸o7 pb po A n aA w.heap.size a (-b.n) M W hb.size (fQ hpb hb.size) (ag hc hb hpb) (hM.below (hb.mono hB) hB) hk hx0 hx1:Calls prog 87 #[.pointer (some ⟨pb,po,none⟩),.agg #[.int .i64 a.obj,.int .i64 a.n],.int .i64 (-b.n)] W λe w'=>e= .returned (aO (some r))/\Below W.heap.size W w'));simp only[aO]at HC;clear hM hc hr;go_enter func67,ntmps67;go_wp2_with fail;refine(HC _ (aN _ _ _ _)).mono ?_;rintro e w1 ⟨rfl,hb1⟩;obtain⟨hc1,hf1⟩:=bL hb1;have hz1:=hb1.size;simp only[World.size_alloc]at hz1;go_wp2_with fail
 refine aS (v:=aO (some r)) ?_ rfl ⟨rfl,?_⟩
 ·simp[results,results67,go_sem,aO,hc1]
 ·exact(((aN _ _ _ _).trans (hb1.mono (by simp;omega))).setCell (by show w.heap.size<=w.heap.size+1+1;omega) _).setCell (by show w.heap.size<=w.heap.size+1+1;omega) _
theorem Ib(pb po:Nat)(A:Option Addr)(n aA B:Nat)(a b:V)(M:List MO)(w:World)(_hB:B<=w.heap.size)(_hpb:pb<w.heap.size)(_hc:w.cell? ⟨pb,po,none⟩=some (.slice A n aA))(_hM:cK w B A n M)(ha:¬a.obj=0)(hb:b.obj=0)(hm:b.n= -9223372036854775808):
  Calls prog 67 #[.pointer (some ⟨pb,po,none⟩),.int .i64 13,.agg #[.int .i64 a.obj,.int .i64 a.n],.agg #[.int .i64 b.obj,.int .i64 b.n]] w λe w'=>e= .returned (aO (none))/\Below w.heap.size w w':=by
 have g17:(((a.obj:Int)==0))=false:=beq_eq_false_iff_ne.2 (by omega);have g18:(((b.obj:Int)==0))=true:=beq_iff_eq.2 (by omega);have g19:(b.n== -9223372036854775808)=true:=beq_iff_eq.2 (by omega);clear _hM _hc hm;go_enter func67,ntmps67;go_wp2_with fail;refine aS (v:=aO (none)) ?_ rfl ⟨rfl,?_⟩
 ·simp[results,results67,go_sem,aO]
 ·exact aN _ _ _ _
theorem ES(pb po:Nat)(A:Option Addr)(n aA B:Nat)(a b:V)(M:List MO)(w:World)(_hB:B<=w.heap.size)(_hpb:pb<w.heap.size)(_hc:w.cell? ⟨pb,po,none⟩=some (.slice A n aA))(_hM:cK w B A n M)(ha:a.obj=0)(hb:¬b.obj=0)(hm:¬a.n=0):
  Calls prog 67 #[.pointer (some ⟨pb,po,none⟩),.int .i64 25,.agg #[.int .i64 a.obj,.int .i64 a.n],.agg #[.int .i64 b.obj,.int .i64 b.n]] w λe w'=>e= .returned (aO (none))/\Below w.heap.size w w':=by
 have g20:(((a.obj:Int)==0))=true:=beq_iff_eq.2 (by omega);have g21:(((b.obj:Int)==0))=false:=beq_eq_false_iff_ne.2 (by omega);have g22:(a.n !=0)=true:=by rw[bne_iff_ne];omega
 clear _hM _hc;go_enter func67,ntmps67;go_wp2_with fail;refine aS (v:=aO (none)) ?_ rfl ⟨rfl,?_⟩
 ·simp[results,results67,go_sem,aO]
 ·exact aN _ _ _ _
theorem Dc(pb po:Nat)(A:Option Addr)(n aA B:Nat)(a b:V)(M:List MO)(w:World)(_hB:B<=w.heap.size)(_hpb:pb<w.heap.size)(_hc:w.cell? ⟨pb,po,none⟩=some (.slice A n aA))(_hM:cK w B A n M)(ha:¬a.obj=0)(hb:b.obj=0)(hm:¬b.n=0):
  Calls prog 67 #[.pointer (some ⟨pb,po,none⟩),.int .i64 25,.agg #[.int .i64 a.obj,.int .i64 a.n],.agg #[.int .i64 b.obj,.int .i64 b.n]] w λe w'=>e= .returned (aO (none))/\Below w.heap.size w w':=by
 have g23:(((a.obj:Int)==0))=false:=beq_eq_false_iff_ne.2 (by omega);have g24:(((b.obj:Int)==0))=true:=beq_iff_eq.2 (by omega);have g25:(b.n !=0)=true:=by rw[bne_iff_ne];omega
 clear _hM _hc;go_enter func67,ntmps67;go_wp2_with fail;refine aS (v:=aO (none)) ?_ rfl ⟨rfl,?_⟩
 ·simp[results,results67,go_sem,aO]
 ·exact aN _ _ _ _
theorem Ih(pb po:Nat)(A:Option Addr)(n aA B:Nat)(a b:V)(M:List MO)(w:World)(hB:B<=w.heap.size)(hpb:pb<w.heap.size)(hc:w.cell? ⟨pb,po,none⟩=some (.slice A n aA))(hM:cK w B A n M)(hk:a.obj<n)(hk':b.obj<n)(ha:¬a.obj=0)(hb:¬b.obj=0)(og:qf M a b=false):
  Calls prog 67 #[.pointer (some ⟨pb,po,none⟩),.int .i64 25,.agg #[.int .i64 a.obj,.int .i64 a.n],.agg #[.int .i64 b.obj,.int .i64 b.n]] w λe w'=>e= .returned (aO (none))/\Below w.heap.size w w':=by
 have g26:(((a.obj:Int)==0))=false:=beq_eq_false_iff_ne.2 (by omega);have g27:(((b.obj:Int)==0))=false:=beq_eq_false_iff_ne.2 (by omega);have g28:(decide ((0:Int)<(a.obj:Int)))=true:=decide_eq_true (by omega);have g29:(decide ((0:Int)<(b.obj:Int)))=true:=decide_eq_true (by omega);have HC:=ae (λW(hb:Below w.heap.size w W)=>qy pb po A n aA w.heap.size a b M W hb.size (fQ hpb hb.size) (ag hc hb hpb) (hM.below (hb.mono hB) hB) hk hk');rw[og]at HC;clear hM hc;go_enter func67,ntmps67;go_wp2_with fail;refine(HC _ (aN _ _ _ _)).mono ?_;rintro e w1 ⟨rfl,hb1⟩;obtain⟨hc1,hf1⟩:=bL hb1;have hz1:=hb1.size;simp only[World.size_alloc]at hz1;go_wp2_with fail;refine aS (v:=aO (none)) ?_ rfl ⟨rfl,?_⟩
 ·simp[results,results67,go_sem,aO,hc1]
 ·exact(((aN _ _ _ _).trans (hb1.mono (by simp;omega))).setCell (by show w.heap.size<=w.heap.size+1+1;omega) _).setCell (by show w.heap.size<=w.heap.size+1+1;omega) _
theorem Da(pb po:Nat)(A:Option Addr)(n aA B:Nat)(a b:V)(M:List MO)(w:World)(hB:B<=w.heap.size)(hpb:pb<w.heap.size)(hc:w.cell? ⟨pb,po,none⟩=some (.slice A n aA))(hM:cK w B A n M)(hk:a.obj<n)(hk':b.obj<n)(ha:¬a.obj=0)(hb:¬b.obj=0)(og:qf M a b=true)(he:a=b):
  Calls prog 67 #[.pointer (some ⟨pb,po,none⟩),.int .i64 25,.agg #[.int .i64 a.obj,.int .i64 a.n],.agg #[.int .i64 b.obj,.int .i64 b.n]] w λe w'=>e= .returned (aO (some ⟨0,bF 25 (vH true) 1⟩))/\Below w.heap.size w w':=by
 have g30:(((a.obj:Int)==0))=false:=beq_eq_false_iff_ne.2 (by omega);have g31:(((b.obj:Int)==0))=false:=beq_eq_false_iff_ne.2 (by omega);have g32:(decide ((0:Int)<(a.obj:Int)))=true:=decide_eq_true (by omega);have g33:(decide ((0:Int)<(b.obj:Int)))=true:=decide_eq_true (by omega);have HC:=ae (λW(hb:Below w.heap.size w W)=>qy pb po A n aA w.heap.size a b M W hb.size (fQ hpb hb.size) (ag hc hb hpb) (hM.below (hb.mono hB) hB) hk hk');rw[og]at HC;subst he;clear hM hc;go_enter func67,ntmps67;go_wp2_with fail;refine(HC _ (aN _ _ _ _)).mono ?_;rintro e w1 ⟨rfl,hb1⟩;obtain⟨hc1,hf1⟩:=bL hb1;have hz1:=hb1.size;simp only[World.size_alloc]at hz1
 go_wp2_with(first|(go_at_call 89;refine(gp _ _).mono ?_;rintro e w' ⟨rfl,rfl⟩)|(go_at_call 86;refine(cY _ _ _ _ (by decide) (by decide) (gq _).1 (gq _).2 (by decide) (by decide)).mono ?_;rintro e w' ⟨rfl,rfl⟩));refine aS (v:=aO (some ⟨0,bF 25 (vH true) 1⟩)) ?_ rfl ⟨rfl,?_⟩
 ·simp[results,results67,go_sem,aO,hc1]
 ·exact(((aN _ _ _ _).trans (hb1.mono (by simp;omega))).setCell (by show w.heap.size<=w.heap.size+1+1;omega) _).setCell (by show w.heap.size<=w.heap.size+1+1;omega) _
theorem EP(pb po:Nat)(A:Option Addr)(n aA B:Nat)(a b:V)(M:List MO)(w:World)(hB:B<=w.heap.size)(hpb:pb<w.heap.size)(hc:w.cell? ⟨pb,po,none⟩=some (.slice A n aA))(hM:cK w B A n M)(hk:a.obj<n)(hk':b.obj<n)(ha:¬a.obj=0)(hb:¬b.obj=0)(og:qf M a b=true)(he:¬(a.obj:Int)=(b.obj:Int)):
  Calls prog 67 #[.pointer (some ⟨pb,po,none⟩),.int .i64 25,.agg #[.int .i64 a.obj,.int .i64 a.n],.agg #[.int .i64 b.obj,.int .i64 b.n]] w λe w'=>e= .returned (aO (some ⟨0,bF 25 (vH false) 1⟩))/\Below w.heap.size w w':=by
 have g34:(((a.obj:Int)==0))=false:=beq_eq_false_iff_ne.2 (by omega);have g35:(((b.obj:Int)==0))=false:=beq_eq_false_iff_ne.2 (by omega);have g36:(decide ((0:Int)<(a.obj:Int)))=true:=decide_eq_true (by omega);have g37:(decide ((0:Int)<(b.obj:Int)))=true:=decide_eq_true (by omega);have HC:=ae (λW(hb:Below w.heap.size w W)=>qy pb po A n aA w.heap.size a b M W hb.size (fQ hpb hb.size) (ag hc hb hpb) (hM.below (hb.mono hB) hB) hk hk');rw[og]at HC;clear hM hc;go_enter func67,ntmps67;go_wp2_with fail;refine(HC _ (aN _ _ _ _)).mono ?_;rintro e w1 ⟨rfl,hb1⟩;obtain⟨hc1,hf1⟩:=bL hb1;have hz1:=hb1.size;simp only[World.size_alloc]at hz1
 go_wp2_with(first|(go_at_call 89;refine(gp _ _).mono ?_;rintro e w' ⟨rfl,rfl⟩)|(go_at_call 86;refine(cY _ _ _ _ (by decide) (by decide) (gq _).1 (gq _).2 (by decide) (by decide)).mono ?_;rintro e w' ⟨rfl,rfl⟩));refine aS (v:=aO (some ⟨0,bF 25 (vH false) 1⟩)) ?_ rfl ⟨rfl,?_⟩
 ·simp[results,results67,go_sem,aO,hc1]
 ·exact(((aN _ _ _ _).trans (hb1.mono (by simp;omega))).setCell (by show w.heap.size<=w.heap.size+1+1;omega) _).setCell (by show w.heap.size<=w.heap.size+1+1;omega) _
theorem KQ(pb po:Nat)(A:Option Addr)(n aA B:Nat)(a b:V)(M:List MO)(w:World)(hB:B<=w.heap.size)(hpb:pb<w.heap.size)(hc:w.cell? ⟨pb,po,none⟩=some (.slice A n aA))(hM:cK w B A n M)(hk:a.obj<n)(hk':b.obj<n)(ha:¬a.obj=0)(hb:¬b.obj=0)(og:qf M a b=true)(y:Int)(he:b=⟨a.obj,y⟩)(he':¬a.n=y):
  Calls prog 67 #[.pointer (some ⟨pb,po,none⟩),.int .i64 25,.agg #[.int .i64 a.obj,.int .i64 a.n],.agg #[.int .i64 b.obj,.int .i64 b.n]] w λe w'=>e= .returned (aO (some ⟨0,bF 25 (vH false) 1⟩))/\Below w.heap.size w w':=by
 have g38:(((a.obj:Int)==0))=false:=beq_eq_false_iff_ne.2 (by omega);have g39:(((b.obj:Int)==0))=false:=beq_eq_false_iff_ne.2 (by omega);have g40:(decide ((0:Int)<(a.obj:Int)))=true:=decide_eq_true (by omega);have g41:(decide ((0:Int)<(b.obj:Int)))=true:=decide_eq_true (by omega);have HC:=ae (λW(hb:Below w.heap.size w W)=>qy pb po A n aA w.heap.size a b M W hb.size (fQ hpb hb.size) (ag hc hb hpb) (hM.below (hb.mono hB) hB) hk hk');rw[og]at HC;subst he;clear og;simp only at*;clear hM hc;go_enter func67,ntmps67;go_wp2_with fail;refine(HC _ (aN _ _ _ _)).mono ?_;rintro e w1 ⟨rfl,hb1⟩;obtain⟨hc1,hf1⟩:=bL hb1;have hz1:=hb1.size;simp only[World.size_alloc]at hz1
 go_wp2_with(first|(go_at_call 89;refine(gp _ _).mono ?_;rintro e w' ⟨rfl,rfl⟩)|(go_at_call 86;refine(cY _ _ _ _ (by decide) (by decide) (gq _).1 (gq _).2 (by decide) (by decide)).mono ?_;rintro e w' ⟨rfl,rfl⟩));refine aS (v:=aO (some ⟨0,bF 25 (vH false) 1⟩)) ?_ rfl ⟨rfl,?_⟩
 ·simp[results,results67,go_sem,aO,hc1]
 ·exact(((aN _ _ _ _).trans (hb1.mono (by simp;omega))).setCell (by show w.heap.size<=w.heap.size+1+1;omega) _).setCell (by show w.heap.size<=w.heap.size+1+1;omega) _
theorem KO(pb po:Nat)(A:Option Addr)(n aA B:Nat)(a b:V)(M:List MO)(w:World)(_hB:B<=w.heap.size)(_hpb:pb<w.heap.size)(_hc:w.cell? ⟨pb,po,none⟩=some (.slice A n aA))(_hM:cK w B A n M)(ha:a.obj=0)(hb:¬b.obj=0)(hz:a.n=0)(he:¬(a.obj:Int)=(b.obj:Int)):
  Calls prog 67 #[.pointer (some ⟨pb,po,none⟩),.int .i64 25,.agg #[.int .i64 a.obj,.int .i64 a.n],.agg #[.int .i64 b.obj,.int .i64 b.n]] w λe w'=>e= .returned (aO (some ⟨0,bF 25 (vH false) 1⟩))/\Below w.heap.size w w':=by
 have g42:(((a.obj:Int)==0))=true:=beq_iff_eq.2 (by omega);have g43:(((b.obj:Int)==0))=false:=beq_eq_false_iff_ne.2 (by omega);have g44:(decide ((0:Int)<(a.obj:Int)))=false:=decide_eq_false (by omega);have g45:(decide ((0:Int)<(b.obj:Int)))=true:=decide_eq_true (by omega);have g46:(a.n !=0)=false:=by rw[bne_eq_false_iff_eq];omega
 clear _hM _hc hz;go_enter func67,ntmps67;go_wp2_with(first|(go_at_call 89;refine(gp _ _).mono ?_;rintro e w' ⟨rfl,rfl⟩)|(go_at_call 86;refine(cY _ _ _ _ (by decide) (by decide) (gq _).1 (gq _).2 (by decide) (by decide)).mono ?_;rintro e w' ⟨rfl,rfl⟩));refine aS (v:=aO (some ⟨0,bF 25 (vH false) 1⟩)) ?_ rfl ⟨rfl,?_⟩
 ·simp[results,results67,go_sem,aO]
 ·exact aN _ _ _ _
theorem Ie(pb po:Nat)(A:Option Addr)(n aA B:Nat)(a b:V)(M:List MO)(w:World)(_hB:B<=w.heap.size)(_hpb:pb<w.heap.size)(_hc:w.cell? ⟨pb,po,none⟩=some (.slice A n aA))(_hM:cK w B A n M)(ha:¬a.obj=0)(hb:b.obj=0)(hz:b.n=0)(he:¬(a.obj:Int)=(b.obj:Int)):
  Calls prog 67 #[.pointer (some ⟨pb,po,none⟩),.int .i64 25,.agg #[.int .i64 a.obj,.int .i64 a.n],.agg #[.int .i64 b.obj,.int .i64 b.n]] w λe w'=>e= .returned (aO (some ⟨0,bF 25 (vH false) 1⟩))/\Below w.heap.size w w':=by
 have g47:(((a.obj:Int)==0))=false:=beq_eq_false_iff_ne.2 (by omega);have g48:(((b.obj:Int)==0))=true:=beq_iff_eq.2 (by omega);have g49:(decide ((0:Int)<(a.obj:Int)))=true:=decide_eq_true (by omega);have g50:(decide ((0:Int)<(b.obj:Int)))=false:=decide_eq_false (by omega);have g51:(b.n !=0)=false:=by rw[bne_eq_false_iff_eq];omega
 clear _hM _hc hz;go_enter func67,ntmps67;go_wp2_with(first|(go_at_call 89;refine(gp _ _).mono ?_;rintro e w' ⟨rfl,rfl⟩)|(go_at_call 86;refine(cY _ _ _ _ (by decide) (by decide) (gq _).1 (gq _).2 (by decide) (by decide)).mono ?_;rintro e w' ⟨rfl,rfl⟩));refine aS (v:=aO (some ⟨0,bF 25 (vH false) 1⟩)) ?_ rfl ⟨rfl,?_⟩
 ·simp[results,results67,go_sem,aO]
 ·exact aN _ _ _ _
theorem ER(pb po:Nat)(A:Option Addr)(n aA B:Nat)(a b:V)(M:List MO)(w:World)(_hB:B<=w.heap.size)(_hpb:pb<w.heap.size)(_hc:w.cell? ⟨pb,po,none⟩=some (.slice A n aA))(_hM:cK w B A n M)(ha:a.obj=0)(hb:¬b.obj=0)(hm:¬a.n=0):
  Calls prog 67 #[.pointer (some ⟨pb,po,none⟩),.int .i64 26,.agg #[.int .i64 a.obj,.int .i64 a.n],.agg #[.int .i64 b.obj,.int .i64 b.n]] w λe w'=>e= .returned (aO (none))/\Below w.heap.size w w':=by
 have g52:(((a.obj:Int)==0))=true:=beq_iff_eq.2 (by omega);have g53:(((b.obj:Int)==0))=false:=beq_eq_false_iff_ne.2 (by omega);have g54:(a.n !=0)=true:=by rw[bne_iff_ne];omega
 clear _hM _hc;go_enter func67,ntmps67;go_wp2_with fail;refine aS (v:=aO (none)) ?_ rfl ⟨rfl,?_⟩
 ·simp[results,results67,go_sem,aO]
 ·exact aN _ _ _ _
theorem Db(pb po:Nat)(A:Option Addr)(n aA B:Nat)(a b:V)(M:List MO)(w:World)(_hB:B<=w.heap.size)(_hpb:pb<w.heap.size)(_hc:w.cell? ⟨pb,po,none⟩=some (.slice A n aA))(_hM:cK w B A n M)(ha:¬a.obj=0)(hb:b.obj=0)(hm:¬b.n=0):
  Calls prog 67 #[.pointer (some ⟨pb,po,none⟩),.int .i64 26,.agg #[.int .i64 a.obj,.int .i64 a.n],.agg #[.int .i64 b.obj,.int .i64 b.n]] w λe w'=>e= .returned (aO (none))/\Below w.heap.size w w':=by
 have g55:(((a.obj:Int)==0))=false:=beq_eq_false_iff_ne.2 (by omega);have g56:(((b.obj:Int)==0))=true:=beq_iff_eq.2 (by omega);have g57:(b.n !=0)=true:=by rw[bne_iff_ne];omega
 clear _hM _hc;go_enter func67,ntmps67;go_wp2_with fail;refine aS (v:=aO (none)) ?_ rfl ⟨rfl,?_⟩
 ·simp[results,results67,go_sem,aO]
 ·exact aN _ _ _ _
theorem Ig(pb po:Nat)(A:Option Addr)(n aA B:Nat)(a b:V)(M:List MO)(w:World)(hB:B<=w.heap.size)(hpb:pb<w.heap.size)(hc:w.cell? ⟨pb,po,none⟩=some (.slice A n aA))(hM:cK w B A n M)(hk:a.obj<n)(hk':b.obj<n)(ha:¬a.obj=0)(hb:¬b.obj=0)(og:qf M a b=false):
  Calls prog 67 #[.pointer (some ⟨pb,po,none⟩),.int .i64 26,.agg #[.int .i64 a.obj,.int .i64 a.n],.agg #[.int .i64 b.obj,.int .i64 b.n]] w λe w'=>e= .returned (aO (none))/\Below w.heap.size w w':=by
 have g58:(((a.obj:Int)==0))=false:=beq_eq_false_iff_ne.2 (by omega);have g59:(((b.obj:Int)==0))=false:=beq_eq_false_iff_ne.2 (by omega);have g60:(decide ((0:Int)<(a.obj:Int)))=true:=decide_eq_true (by omega);have g61:(decide ((0:Int)<(b.obj:Int)))=true:=decide_eq_true (by omega);have HC:=ae (λW(hb:Below w.heap.size w W)=>qy pb po A n aA w.heap.size a b M W hb.size (fQ hpb hb.size) (ag hc hb hpb) (hM.below (hb.mono hB) hB) hk hk');rw[og]at HC;clear hM hc;go_enter func67,ntmps67;go_wp2_with fail;refine(HC _ (aN _ _ _ _)).mono ?_;rintro e w1 ⟨rfl,hb1⟩;obtain⟨hc1,hf1⟩:=bL hb1;have hz1:=hb1.size;simp only[World.size_alloc]at hz1;go_wp2_with fail;refine aS (v:=aO (none)) ?_ rfl ⟨rfl,?_⟩
 ·simp[results,results67,go_sem,aO,hc1]
 ·exact(((aN _ _ _ _).trans (hb1.mono (by simp;omega))).setCell (by show w.heap.size<=w.heap.size+1+1;omega) _).setCell (by show w.heap.size<=w.heap.size+1+1;omega) _
theorem C9(pb po:Nat)(A:Option Addr)(n aA B:Nat)(a b:V)(M:List MO)(w:World)(hB:B<=w.heap.size)(hpb:pb<w.heap.size)(hc:w.cell? ⟨pb,po,none⟩=some (.slice A n aA))(hM:cK w B A n M)(hk:a.obj<n)(hk':b.obj<n)(ha:¬a.obj=0)(hb:¬b.obj=0)(og:qf M a b=true)(he:a=b):
  Calls prog 67 #[.pointer (some ⟨pb,po,none⟩),.int .i64 26,.agg #[.int .i64 a.obj,.int .i64 a.n],.agg #[.int .i64 b.obj,.int .i64 b.n]] w λe w'=>e= .returned (aO (some ⟨0,bF 26 (vH true) 1⟩))/\Below w.heap.size w w':=by
 have g62:(((a.obj:Int)==0))=false:=beq_eq_false_iff_ne.2 (by omega);have g63:(((b.obj:Int)==0))=false:=beq_eq_false_iff_ne.2 (by omega);have g64:(decide ((0:Int)<(a.obj:Int)))=true:=decide_eq_true (by omega);have g65:(decide ((0:Int)<(b.obj:Int)))=true:=decide_eq_true (by omega);have HC:=ae (λW(hb:Below w.heap.size w W)=>qy pb po A n aA w.heap.size a b M W hb.size (fQ hpb hb.size) (ag hc hb hpb) (hM.below (hb.mono hB) hB) hk hk');rw[og]at HC;subst he;clear hM hc;go_enter func67,ntmps67;go_wp2_with fail;refine(HC _ (aN _ _ _ _)).mono ?_;rintro e w1 ⟨rfl,hb1⟩;obtain⟨hc1,hf1⟩:=bL hb1;have hz1:=hb1.size;simp only[World.size_alloc]at hz1
 go_wp2_with(first|(go_at_call 89;refine(gp _ _).mono ?_;rintro e w' ⟨rfl,rfl⟩)|(go_at_call 86;refine(cY _ _ _ _ (by decide) (by decide) (gq _).1 (gq _).2 (by decide) (by decide)).mono ?_;rintro e w' ⟨rfl,rfl⟩));refine aS (v:=aO (some ⟨0,bF 26 (vH true) 1⟩)) ?_ rfl ⟨rfl,?_⟩
 ·simp[results,results67,go_sem,aO,hc1]
 ·exact(((aN _ _ _ _).trans (hb1.mono (by simp;omega))).setCell (by show w.heap.size<=w.heap.size+1+1;omega) _).setCell (by show w.heap.size<=w.heap.size+1+1;omega) _
theorem EO(pb po:Nat)(A:Option Addr)(n aA B:Nat)(a b:V)(M:List MO)(w:World)(hB:B<=w.heap.size)(hpb:pb<w.heap.size)(hc:w.cell? ⟨pb,po,none⟩=some (.slice A n aA))(hM:cK w B A n M)(hk:a.obj<n)(hk':b.obj<n)(ha:¬a.obj=0)(hb:¬b.obj=0)(og:qf M a b=true)(he:¬(a.obj:Int)=(b.obj:Int)):
  Calls prog 67 #[.pointer (some ⟨pb,po,none⟩),.int .i64 26,.agg #[.int .i64 a.obj,.int .i64 a.n],.agg #[.int .i64 b.obj,.int .i64 b.n]] w λe w'=>e= .returned (aO (some ⟨0,bF 26 (vH false) 1⟩))/\Below w.heap.size w w':=by
 have g66:(((a.obj:Int)==0))=false:=beq_eq_false_iff_ne.2 (by omega);have g67:(((b.obj:Int)==0))=false:=beq_eq_false_iff_ne.2 (by omega);have g68:(decide ((0:Int)<(a.obj:Int)))=true:=decide_eq_true (by omega);have g69:(decide ((0:Int)<(b.obj:Int)))=true:=decide_eq_true (by omega);have HC:=ae (λW(hb:Below w.heap.size w W)=>qy pb po A n aA w.heap.size a b M W hb.size (fQ hpb hb.size) (ag hc hb hpb) (hM.below (hb.mono hB) hB) hk hk');rw[og]at HC;clear hM hc;go_enter func67,ntmps67;go_wp2_with fail;refine(HC _ (aN _ _ _ _)).mono ?_;rintro e w1 ⟨rfl,hb1⟩;obtain⟨hc1,hf1⟩:=bL hb1;have hz1:=hb1.size;simp only[World.size_alloc]at hz1
 go_wp2_with(first|(go_at_call 89;refine(gp _ _).mono ?_;rintro e w' ⟨rfl,rfl⟩)|(go_at_call 86;refine(cY _ _ _ _ (by decide) (by decide) (gq _).1 (gq _).2 (by decide) (by decide)).mono ?_;rintro e w' ⟨rfl,rfl⟩));refine aS (v:=aO (some ⟨0,bF 26 (vH false) 1⟩)) ?_ rfl ⟨rfl,?_⟩
 ·simp[results,results67,go_sem,aO,hc1]
 ·exact(((aN _ _ _ _).trans (hb1.mono (by simp;omega))).setCell (by show w.heap.size<=w.heap.size+1+1;omega) _).setCell (by show w.heap.size<=w.heap.size+1+1;omega) _
theorem KP(pb po:Nat)(A:Option Addr)(n aA B:Nat)(a b:V)(M:List MO)(w:World)(hB:B<=w.heap.size)(hpb:pb<w.heap.size)(hc:w.cell? ⟨pb,po,none⟩=some (.slice A n aA))(hM:cK w B A n M)(hk:a.obj<n)(hk':b.obj<n)(ha:¬a.obj=0)(hb:¬b.obj=0)(og:qf M a b=true)(y:Int)(he:b=⟨a.obj,y⟩)(he':¬a.n=y):
  Calls prog 67 #[.pointer (some ⟨pb,po,none⟩),.int .i64 26,.agg #[.int .i64 a.obj,.int .i64 a.n],.agg #[.int .i64 b.obj,.int .i64 b.n]] w λe w'=>e= .returned (aO (some ⟨0,bF 26 (vH false) 1⟩))/\Below w.heap.size w w':=by
 have g70:(((a.obj:Int)==0))=false:=beq_eq_false_iff_ne.2 (by omega);have g71:(((b.obj:Int)==0))=false:=beq_eq_false_iff_ne.2 (by omega);have g72:(decide ((0:Int)<(a.obj:Int)))=true:=decide_eq_true (by omega);have g73:(decide ((0:Int)<(b.obj:Int)))=true:=decide_eq_true (by omega);have HC:=ae (λW(hb:Below w.heap.size w W)=>qy pb po A n aA w.heap.size a b M W hb.size (fQ hpb hb.size) (ag hc hb hpb) (hM.below (hb.mono hB) hB) hk hk');rw[og]at HC;subst he;clear og;simp only at*;clear hM hc;go_enter func67,ntmps67;go_wp2_with fail;refine(HC _ (aN _ _ _ _)).mono ?_;rintro e w1 ⟨rfl,hb1⟩;obtain⟨hc1,hf1⟩:=bL hb1;have hz1:=hb1.size;simp only[World.size_alloc]at hz1
 go_wp2_with(first|(go_at_call 89;refine(gp _ _).mono ?_;rintro e w' ⟨rfl,rfl⟩)|(go_at_call 86;refine(cY _ _ _ _ (by decide) (by decide) (gq _).1 (gq _).2 (by decide) (by decide)).mono ?_;rintro e w' ⟨rfl,rfl⟩));refine aS (v:=aO (some ⟨0,bF 26 (vH false) 1⟩)) ?_ rfl ⟨rfl,?_⟩
 ·simp[results,results67,go_sem,aO,hc1]
 ·exact(((aN _ _ _ _).trans (hb1.mono (by simp;omega))).setCell (by show w.heap.size<=w.heap.size+1+1;omega) _).setCell (by show w.heap.size<=w.heap.size+1+1;omega) _
theorem KN(pb po:Nat)(A:Option Addr)(n aA B:Nat)(a b:V)(M:List MO)(w:World)(_hB:B<=w.heap.size)(_hpb:pb<w.heap.size)(_hc:w.cell? ⟨pb,po,none⟩=some (.slice A n aA))(_hM:cK w B A n M)(ha:a.obj=0)(hb:¬b.obj=0)(hz:a.n=0)(he:¬(a.obj:Int)=(b.obj:Int)):
  Calls prog 67 #[.pointer (some ⟨pb,po,none⟩),.int .i64 26,.agg #[.int .i64 a.obj,.int .i64 a.n],.agg #[.int .i64 b.obj,.int .i64 b.n]] w λe w'=>e= .returned (aO (some ⟨0,bF 26 (vH false) 1⟩))/\Below w.heap.size w w':=by
 have g74:(((a.obj:Int)==0))=true:=beq_iff_eq.2 (by omega);have g75:(((b.obj:Int)==0))=false:=beq_eq_false_iff_ne.2 (by omega);have g76:(decide ((0:Int)<(a.obj:Int)))=false:=decide_eq_false (by omega);have g77:(decide ((0:Int)<(b.obj:Int)))=true:=decide_eq_true (by omega);have g78:(a.n !=0)=false:=by rw[bne_eq_false_iff_eq];omega
 clear _hM _hc hz;go_enter func67,ntmps67;go_wp2_with(first|(go_at_call 89;refine(gp _ _).mono ?_;rintro e w' ⟨rfl,rfl⟩)|(go_at_call 86;refine(cY _ _ _ _ (by decide) (by decide) (gq _).1 (gq _).2 (by decide) (by decide)).mono ?_;rintro e w' ⟨rfl,rfl⟩));refine aS (v:=aO (some ⟨0,bF 26 (vH false) 1⟩)) ?_ rfl ⟨rfl,?_⟩
 ·simp[results,results67,go_sem,aO]
 ·exact aN _ _ _ _
theorem Ic(pb po:Nat)(A:Option Addr)(n aA B:Nat)(a b:V)(M:List MO)(w:World)(_hB:B<=w.heap.size)(_hpb:pb<w.heap.size)(_hc:w.cell? ⟨pb,po,none⟩=some (.slice A n aA))(_hM:cK w B A n M)(ha:¬a.obj=0)(hb:b.obj=0)(hz:b.n=0)(he:¬(a.obj:Int)=(b.obj:Int)):
  Calls prog 67 #[.pointer (some ⟨pb,po,none⟩),.int .i64 26,.agg #[.int .i64 a.obj,.int .i64 a.n],.agg #[.int .i64 b.obj,.int .i64 b.n]] w λe w'=>e= .returned (aO (some ⟨0,bF 26 (vH false) 1⟩))/\Below w.heap.size w w':=by
 have g79:(((a.obj:Int)==0))=false:=beq_eq_false_iff_ne.2 (by omega);have g80:(((b.obj:Int)==0))=true:=beq_iff_eq.2 (by omega);have g81:(decide ((0:Int)<(a.obj:Int)))=true:=decide_eq_true (by omega);have g82:(decide ((0:Int)<(b.obj:Int)))=false:=decide_eq_false (by omega);have g83:(b.n !=0)=false:=by rw[bne_eq_false_iff_eq];omega
 clear _hM _hc hz;go_enter func67,ntmps67;go_wp2_with(first|(go_at_call 89;refine(gp _ _).mono ?_;rintro e w' ⟨rfl,rfl⟩)|(go_at_call 86;refine(cY _ _ _ _ (by decide) (by decide) (gq _).1 (gq _).2 (by decide) (by decide)).mono ?_;rintro e w' ⟨rfl,rfl⟩));refine aS (v:=aO (some ⟨0,bF 26 (vH false) 1⟩)) ?_ rfl ⟨rfl,?_⟩
 ·simp[results,results67,go_sem,aO]
 ·exact aN _ _ _ _
theorem ND(pb po:Nat)(A:Option Addr)(n aA B:Nat)(a b:V)(M:List MO)(w:World)(_hB:B<=w.heap.size)(_hpb:pb<w.heap.size)(_hc:w.cell? ⟨pb,po,none⟩=some (.slice A n aA))(_hM:cK w B A n M)(ha:¬a.obj=0)(hb:¬b.obj=0)(he:¬(a.obj:Int)=(b.obj:Int)):
  Calls prog 67 #[.pointer (some ⟨pb,po,none⟩),.int .i64 12,.agg #[.int .i64 a.obj,.int .i64 a.n],.agg #[.int .i64 b.obj,.int .i64 b.n]] w λe w'=>e= .returned (aO (none))/\Below w.heap.size w w':=by
 have g84:(((a.obj:Int)==0))=false:=beq_eq_false_iff_ne.2 (by omega);have g85:(((b.obj:Int)==0))=false:=beq_eq_false_iff_ne.2 (by omega);have g86:(((a.obj:Int) !=(b.obj:Int)))=true:=by rw[bne_iff_ne];omega
 clear _hM _hc;go_enter func67,ntmps67;go_wp2_with fail;go_quiet (fail);go_wp2_with fail;refine aS (v:=aO (none)) ?_ rfl ⟨rfl,?_⟩
 ·simp[results,results67,go_sem,aO]
 ·exact((below_drewN (aN _ _ _ _) _).setCell (by show w.heap.size<=w.heap.size+1+1;omega) _).setCell (by show w.heap.size<=w.heap.size+1+1;omega) _
theorem Il(pb po:Nat)(A:Option Addr)(n aA B:Nat)(a b:V)(M:List MO)(w:World)(hB:B<=w.heap.size)(hpb:pb<w.heap.size)(hc:w.cell? ⟨pb,po,none⟩=some (.slice A n aA))(hM:cK w B A n M)(ha:¬a.obj=0)(hb:¬b.obj=0)(y:Int)(he:b=⟨a.obj,y⟩)(hk:a.obj<n)(hl:(aG M a.obj).live=false):
  Calls prog 67 #[.pointer (some ⟨pb,po,none⟩),.int .i64 12,.agg #[.int .i64 a.obj,.int .i64 a.n],.agg #[.int .i64 b.obj,.int .i64 b.n]] w λe w'=>e= .returned (aO (none))/\Below w.heap.size w w':=by
 subst he;simp only at*;have g87:(((a.obj:Int)==0))=false:=beq_eq_false_iff_ne.2 (by omega);have g88:(((a.obj:Int) !=(a.obj:Int)))=false:=by simp
 obtain⟨mb,mo,rfl,gV,_,_,_,_,_,c2,_⟩:=hM.get hk;rw[hl]at c2;have hmb:mb<w.heap.size:=by omega
 have hk1:(a.obj:Int)<(n:Int):=by omega
 have hn:=hM.2.1;have hp1:pb<w.heap.size+1:=by omega
 have hp2:pb<w.heap.size+1+1:=by omega
 have hm1:mb<w.heap.size+1:=by omega
 have hm2:mb<w.heap.size+1+1:=by omega
 clear hM hl;go_enter func67,ntmps67;go_wp2_with fail;go_quiet (fail);go_wp2_with fail;refine aS (v:=aO (none)) ?_ rfl ⟨rfl,?_⟩
 ·simp[results,results67,go_sem,aO]
 ·exact((below_drewN (aN _ _ _ _) _).setCell (by show w.heap.size<=w.heap.size+1+1;omega) _).setCell (by show w.heap.size<=w.heap.size+1+1;omega) _
theorem Ik(pb po:Nat)(A:Option Addr)(n aA B:Nat)(a b:V)(M:List MO)(w:World)(hB:B<=w.heap.size)(hpb:pb<w.heap.size)(hc:w.cell? ⟨pb,po,none⟩=some (.slice A n aA))(hM:cK w B A n M)(ha:¬a.obj=0)(hb:¬b.obj=0)(y:Int)(he:b=⟨a.obj,y⟩)(hk:a.obj<n)(hl:(aG M a.obj).live=true):
  Calls prog 67 #[.pointer (some ⟨pb,po,none⟩),.int .i64 12,.agg #[.int .i64 a.obj,.int .i64 a.n],.agg #[.int .i64 b.obj,.int .i64 b.n]] w λe w'=>e= .returned (aO (none))/\Below w.heap.size w w':=by
 subst he;simp only at*;have g89:(((a.obj:Int)==0))=false:=beq_eq_false_iff_ne.2 (by omega);have g90:(((a.obj:Int) !=(a.obj:Int)))=false:=by simp
 obtain⟨mb,mo,rfl,gV,_,_,_,_,_,c2,_⟩:=hM.get hk;rw[hl]at c2;have hmb:mb<w.heap.size:=by omega
 have hk1:(a.obj:Int)<(n:Int):=by omega
 have hn:=hM.2.1;have hp1:pb<w.heap.size+1:=by omega
 have hp2:pb<w.heap.size+1+1:=by omega
 have hm1:mb<w.heap.size+1:=by omega
 have hm2:mb<w.heap.size+1+1:=by omega
 clear hM hl;go_enter func67,ntmps67;go_wp2_with fail;go_quiet (fail);go_wp2_with fail;refine aS (v:=aO (none)) ?_ rfl ⟨rfl,?_⟩
 ·simp[results,results67,go_sem,aO]
 ·exact((below_drewN (aN _ _ _ _) _).setCell (by show w.heap.size<=w.heap.size+1+1;omega) _).setCell (by show w.heap.size<=w.heap.size+1+1;omega) _
theorem NC(pb po:Nat)(A:Option Addr)(n aA B:Nat)(a b:V)(M:List MO)(w:World)(_hB:B<=w.heap.size)(_hpb:pb<w.heap.size)(_hc:w.cell? ⟨pb,po,none⟩=some (.slice A n aA))(_hM:cK w B A n M)(ha:¬a.obj=0)(hb:¬b.obj=0)(he:¬(a.obj:Int)=(b.obj:Int)):
  Calls prog 67 #[.pointer (some ⟨pb,po,none⟩),.int .i64 13,.agg #[.int .i64 a.obj,.int .i64 a.n],.agg #[.int .i64 b.obj,.int .i64 b.n]] w λe w'=>e= .returned (aO (none))/\Below w.heap.size w w':=by
 have g91:(((a.obj:Int)==0))=false:=beq_eq_false_iff_ne.2 (by omega);have g92:(((b.obj:Int)==0))=false:=beq_eq_false_iff_ne.2 (by omega);have g93:(((a.obj:Int) !=(b.obj:Int)))=true:=by rw[bne_iff_ne];omega
 clear _hM _hc;go_enter func67,ntmps67;go_wp2_with fail;go_quiet (fail);go_wp2_with fail;refine aS (v:=aO (none)) ?_ rfl ⟨rfl,?_⟩
 ·simp[results,results67,go_sem,aO]
 ·exact((below_drewN (aN _ _ _ _) _).setCell (by show w.heap.size<=w.heap.size+1+1;omega) _).setCell (by show w.heap.size<=w.heap.size+1+1;omega) _
theorem KR(pb po:Nat)(A:Option Addr)(n aA B:Nat)(a b:V)(M:List MO)(w:World)(_hB:B<=w.heap.size)(_hpb:pb<w.heap.size)(_hc:w.cell? ⟨pb,po,none⟩=some (.slice A n aA))(_hM:cK w B A n M)(ha:a.obj=0)(hb:¬b.obj=0)(he:¬(a.obj:Int)=(b.obj:Int)):
  Calls prog 67 #[.pointer (some ⟨pb,po,none⟩),.int .i64 13,.agg #[.int .i64 a.obj,.int .i64 a.n],.agg #[.int .i64 b.obj,.int .i64 b.n]] w λe w'=>e= .returned (aO (none))/\Below w.heap.size w w':=by
 have g94:(((a.obj:Int)==0))=true:=beq_iff_eq.2 (by omega);have g95:(((b.obj:Int)==0))=false:=beq_eq_false_iff_ne.2 (by omega);have g96:(((a.obj:Int) !=(b.obj:Int)))=true:=by rw[bne_iff_ne];omega
 clear _hM _hc ha;go_enter func67,ntmps67;go_wp2_with fail;go_quiet (fail);go_wp2_with fail;refine aS (v:=aO (none)) ?_ rfl ⟨rfl,?_⟩
 ·simp[results,results67,go_sem,aO]
 ·exact((below_drewN (aN _ _ _ _) _).setCell (by show w.heap.size<=w.heap.size+1+1;omega) _).setCell (by show w.heap.size<=w.heap.size+1+1;omega) _
theorem Ij(pb po:Nat)(A:Option Addr)(n aA B:Nat)(a b:V)(M:List MO)(w:World)(hB:B<=w.heap.size)(hpb:pb<w.heap.size)(hc:w.cell? ⟨pb,po,none⟩=some (.slice A n aA))(hM:cK w B A n M)(hb:¬a.obj=0)(y:Int)(he:b=⟨a.obj,y⟩)(hk:a.obj<n)(hl:(aG M a.obj).live=false):
  Calls prog 67 #[.pointer (some ⟨pb,po,none⟩),.int .i64 13,.agg #[.int .i64 a.obj,.int .i64 a.n],.agg #[.int .i64 b.obj,.int .i64 b.n]] w λe w'=>e= .returned (aO (none))/\Below w.heap.size w w':=by
 subst he;simp only at*;have g97:(((a.obj:Int)==0))=false:=beq_eq_false_iff_ne.2 (by omega);have g98:(((a.obj:Int) !=(a.obj:Int)))=false:=by simp
 obtain⟨mb,mo,rfl,gV,_,_,_,_,_,c2,_⟩:=hM.get hk;rw[hl]at c2;have hmb:mb<w.heap.size:=by omega
 have hk1:(a.obj:Int)<(n:Int):=by omega
 have hn:=hM.2.1;have hp1:pb<w.heap.size+1:=by omega
 have hp2:pb<w.heap.size+1+1:=by omega
 have hm1:mb<w.heap.size+1:=by omega
 have hm2:mb<w.heap.size+1+1:=by omega
 clear hM hl;go_enter func67,ntmps67;go_wp2_with fail;go_quiet (fail);go_wp2_with fail;refine aS (v:=aO (none)) ?_ rfl ⟨rfl,?_⟩
 ·simp[results,results67,go_sem,aO]
 ·exact((below_drewN (aN _ _ _ _) _).setCell (by show w.heap.size<=w.heap.size+1+1;omega) _).setCell (by show w.heap.size<=w.heap.size+1+1;omega) _
theorem Ii(pb po:Nat)(A:Option Addr)(n aA B:Nat)(a b:V)(M:List MO)(w:World)(hB:B<=w.heap.size)(hpb:pb<w.heap.size)(hc:w.cell? ⟨pb,po,none⟩=some (.slice A n aA))(hM:cK w B A n M)(hb:¬a.obj=0)(y:Int)(he:b=⟨a.obj,y⟩)(hk:a.obj<n)(hl:(aG M a.obj).live=true)(Pg:-9223372036854775808<=a.n)(Pe:a.n<=9223372036854775807)(J6:-9223372036854775808<=y)(J5:y<=9223372036854775807):
  Calls prog 67 #[.pointer (some ⟨pb,po,none⟩),.int .i64 13,.agg #[.int .i64 a.obj,.int .i64 a.n],.agg #[.int .i64 b.obj,.int .i64 b.n]] w λe w'=>e= .returned (aO (some ⟨0,bF 13 a.n y⟩))/\Below w.heap.size w w':=by
 subst he;simp only at*;have g99:(((a.obj:Int)==0))=false:=beq_eq_false_iff_ne.2 (by omega);have g100:(((a.obj:Int) !=(a.obj:Int)))=false:=by simp
 obtain⟨mb,mo,rfl,gV,_,_,_,_,_,c2,_⟩:=hM.get hk;rw[hl]at c2;have hmb:mb<w.heap.size:=by omega
 have hk1:(a.obj:Int)<(n:Int):=by omega
 have hn:=hM.2.1;have hp1:pb<w.heap.size+1:=by omega
 have hp2:pb<w.heap.size+1+1:=by omega
 have hm1:mb<w.heap.size+1:=by omega
 have hm2:mb<w.heap.size+1+1:=by omega
 clear hM hl;go_enter func67,ntmps67;go_wp2_with(first|(go_at_call 86;refine(cY _ _ _ _ (by decide) (by decide) Pg Pe J6 J5).mono ?_;rintro e w' ⟨rfl,rfl⟩));go_quiet (fail);go_wp2_with(first|(go_at_call 86;refine(cY _ _ _ _ (by decide) (by decide) Pg Pe J6 J5).mono ?_;rintro e w' ⟨rfl,rfl⟩));refine aS (v:=aO (some ⟨0,bF 13 a.n y⟩)) ?_ rfl ⟨rfl,?_⟩
 ·simp[results,results67,go_sem,aO]
 ·exact((below_drewN (aN _ _ _ _) _).setCell (by show w.heap.size<=w.heap.size+1+1;omega) _).setCell (by show w.heap.size<=w.heap.size+1+1;omega) _
theorem Qn(pb po:Nat)(A:Option Addr)(n aA B:Nat)(op:Int)(a b:V)(M:List MO)(w:World)(_hB:B<=w.heap.size)(_hpb:pb<w.heap.size)(_hc:w.cell? ⟨pb,po,none⟩=some (.slice A n aA))(_hM:cK w B A n M)(YQ:¬op=12)(YP:¬op=13)(YO:¬op=25)(YN:¬op=26)(ha:¬a.obj=0)(hb:¬b.obj=0)(he:¬(a.obj:Int)=(b.obj:Int)):
  Calls prog 67 #[.pointer (some ⟨pb,po,none⟩),.int .i64 op,.agg #[.int .i64 a.obj,.int .i64 a.n],.agg #[.int .i64 b.obj,.int .i64 b.n]] w λe w'=>e= .returned (aO (none))/\Below w.heap.size w w':=by
 have g101:(op==12)=false:=beq_eq_false_iff_ne.2 (by omega);have g102:(op==13)=false:=beq_eq_false_iff_ne.2 (by omega);have g103:(op==25)=false:=beq_eq_false_iff_ne.2 (by omega);have g104:(op==26)=false:=beq_eq_false_iff_ne.2 (by omega);have g105:(op !=13)=true:=by rw[bne_iff_ne];omega
 have g106:(((a.obj:Int)==0))=false:=beq_eq_false_iff_ne.2 (by omega);have g107:(((b.obj:Int)==0))=false:=beq_eq_false_iff_ne.2 (by omega);have g108:(((a.obj:Int) !=(b.obj:Int)))=true:=by rw[bne_iff_ne];omega
 clear _hM _hc;go_enter func67,ntmps67;go_wp2_with fail;go_quiet (fail);go_wp2_with fail;refine aS (v:=aO (none)) ?_ rfl ⟨rfl,?_⟩
 ·simp[results,results67,go_sem,aO]
 ·exact((below_drewN (aN _ _ _ _) _).setCell (by show w.heap.size<=w.heap.size+1+1;omega) _).setCell (by show w.heap.size<=w.heap.size+1+1;omega) _
theorem Nv(pb po:Nat)(A:Option Addr)(n aA B:Nat)(op:Int)(a b:V)(M:List MO)(w:World)(_hB:B<=w.heap.size)(_hpb:pb<w.heap.size)(_hc:w.cell? ⟨pb,po,none⟩=some (.slice A n aA))(_hM:cK w B A n M)(YQ:¬op=12)(YP:¬op=13)(YO:¬op=25)(YN:¬op=26)(ha:a.obj=0)(hb:¬b.obj=0)(he:¬(a.obj:Int)=(b.obj:Int)):
  Calls prog 67 #[.pointer (some ⟨pb,po,none⟩),.int .i64 op,.agg #[.int .i64 a.obj,.int .i64 a.n],.agg #[.int .i64 b.obj,.int .i64 b.n]] w λe w'=>e= .returned (aO (none))/\Below w.heap.size w w':=by
 have g109:(op==12)=false:=beq_eq_false_iff_ne.2 (by omega);have g110:(op==13)=false:=beq_eq_false_iff_ne.2 (by omega);have g111:(op==25)=false:=beq_eq_false_iff_ne.2 (by omega);have g112:(op==26)=false:=beq_eq_false_iff_ne.2 (by omega);have g113:(op !=13)=true:=by rw[bne_iff_ne];omega
 have g114:(((a.obj:Int)==0))=true:=beq_iff_eq.2 (by omega);have g115:(((b.obj:Int)==0))=false:=beq_eq_false_iff_ne.2 (by omega);have g116:(((a.obj:Int) !=(b.obj:Int)))=true:=by rw[bne_iff_ne];omega
 clear _hM _hc ha;go_enter func67,ntmps67;go_wp2_with fail;go_quiet (fail);go_wp2_with fail;refine aS (v:=aO (none)) ?_ rfl ⟨rfl,?_⟩
 ·simp[results,results67,go_sem,aO]
 ·exact((below_drewN (aN _ _ _ _) _).setCell (by show w.heap.size<=w.heap.size+1+1;omega) _).setCell (by show w.heap.size<=w.heap.size+1+1;omega) _
theorem Nu(pb po:Nat)(A:Option Addr)(n aA B:Nat)(op:Int)(a b:V)(M:List MO)(w:World)(_hB:B<=w.heap.size)(_hpb:pb<w.heap.size)(_hc:w.cell? ⟨pb,po,none⟩=some (.slice A n aA))(_hM:cK w B A n M)(YQ:¬op=12)(YP:¬op=13)(YO:¬op=25)(YN:¬op=26)(ha:¬a.obj=0)(hb:b.obj=0)(he:¬(a.obj:Int)=(b.obj:Int)):
  Calls prog 67 #[.pointer (some ⟨pb,po,none⟩),.int .i64 op,.agg #[.int .i64 a.obj,.int .i64 a.n],.agg #[.int .i64 b.obj,.int .i64 b.n]] w λe w'=>e= .returned (aO (none))/\Below w.heap.size w w':=by
 have g117:(op==12)=false:=beq_eq_false_iff_ne.2 (by omega);have g118:(op==13)=false:=beq_eq_false_iff_ne.2 (by omega);have g119:(op==25)=false:=beq_eq_false_iff_ne.2 (by omega);have g120:(op==26)=false:=beq_eq_false_iff_ne.2 (by omega);have g121:(op !=13)=true:=by rw[bne_iff_ne];omega
 have g122:(((a.obj:Int)==0))=false:=beq_eq_false_iff_ne.2 (by omega);have g123:(((b.obj:Int)==0))=true:=beq_iff_eq.2 (by omega);have g124:(((a.obj:Int) !=(b.obj:Int)))=true:=by rw[bne_iff_ne];omega
 clear _hM _hc hb;go_enter func67,ntmps67;go_wp2_with fail;go_quiet (fail);go_wp2_with fail;refine aS (v:=aO (none)) ?_ rfl ⟨rfl,?_⟩
 ·simp[results,results67,go_sem,aO]
 ·exact((below_drewN (aN _ _ _ _) _).setCell (by show w.heap.size<=w.heap.size+1+1;omega) _).setCell (by show w.heap.size<=w.heap.size+1+1;omega) _
theorem KM(pb po:Nat)(A:Option Addr)(n aA B:Nat)(op:Int)(a b:V)(M:List MO)(w:World)(hB:B<=w.heap.size)(hpb:pb<w.heap.size)(hc:w.cell? ⟨pb,po,none⟩=some (.slice A n aA))(hM:cK w B A n M)(YQ:¬op=12)(YP:¬op=13)(YO:¬op=25)(YN:¬op=26)(hb:¬a.obj=0)(y:Int)(he:b=⟨a.obj,y⟩)(hk:a.obj<n)(hl:(aG M a.obj).live=false):
  Calls prog 67 #[.pointer (some ⟨pb,po,none⟩),.int .i64 op,.agg #[.int .i64 a.obj,.int .i64 a.n],.agg #[.int .i64 b.obj,.int .i64 b.n]] w λe w'=>e= .returned (aO (none))/\Below w.heap.size w w':=by
 subst he;simp only at*;have g125:(((a.obj:Int)==0))=false:=beq_eq_false_iff_ne.2 (by omega);have g126:(((a.obj:Int) !=(a.obj:Int)))=false:=by simp
 have g127:(op==12)=false:=beq_eq_false_iff_ne.2 (by omega);have g128:(op==13)=false:=beq_eq_false_iff_ne.2 (by omega);have g129:(op==25)=false:=beq_eq_false_iff_ne.2 (by omega);have g130:(op==26)=false:=beq_eq_false_iff_ne.2 (by omega);have g131:(op !=13)=true:=by rw[bne_iff_ne];omega
 obtain⟨mb,mo,rfl,gV,_,_,_,_,_,c2,_⟩:=hM.get hk;rw[hl]at c2;have hmb:mb<w.heap.size:=by omega
 have hk1:(a.obj:Int)<(n:Int):=by omega
 have hn:=hM.2.1;have hp1:pb<w.heap.size+1:=by omega
 have hp2:pb<w.heap.size+1+1:=by omega
 have hm1:mb<w.heap.size+1:=by omega
 have hm2:mb<w.heap.size+1+1:=by omega
 clear hM hl;go_enter func67,ntmps67;go_wp2_with fail;go_quiet (fail);go_wp2_with fail;refine aS (v:=aO (none)) ?_ rfl ⟨rfl,?_⟩
 ·simp[results,results67,go_sem,aO]
 ·exact((below_drewN (aN _ _ _ _) _).setCell (by show w.heap.size<=w.heap.size+1+1;omega) _).setCell (by show w.heap.size<=w.heap.size+1+1;omega) _
theorem Nw(pb po:Nat)(A:Option Addr)(n aA B:Nat)(op:Int)(a b:V)(M:List MO)(w:World)(hB:B<=w.heap.size)(hpb:pb<w.heap.size)(hc:w.cell? ⟨pb,po,none⟩=some (.slice A n aA))(hM:cK w B A n M)(YQ:¬op=12)(YP:¬op=13)(YO:¬op=25)(YN:¬op=26)(hb:¬a.obj=0)(y:Int)(he:b=⟨a.obj,y⟩)(hk:a.obj<n)(hl:(aG M a.obj).live=true)(hop:op<27):
  Calls prog 67 #[.pointer (some ⟨pb,po,none⟩),.int .i64 op,.agg #[.int .i64 a.obj,.int .i64 a.n],.agg #[.int .i64 b.obj,.int .i64 b.n]] w λe w'=>e= .returned (aO (none))/\Below w.heap.size w w':=by
 subst he;simp only at*;have g132:(((a.obj:Int)==0))=false:=beq_eq_false_iff_ne.2 (by omega);have g133:(((a.obj:Int) !=(a.obj:Int)))=false:=by simp
 have g134:(decide (27<=op))=false:=decide_eq_false (by omega);have g135:(op==12)=false:=beq_eq_false_iff_ne.2 (by omega);have g136:(op==13)=false:=beq_eq_false_iff_ne.2 (by omega);have g137:(op==25)=false:=beq_eq_false_iff_ne.2 (by omega);have g138:(op==26)=false:=beq_eq_false_iff_ne.2 (by omega);have g139:(op !=13)=true:=by rw[bne_iff_ne];omega
 obtain⟨mb,mo,rfl,gV,_,_,_,_,_,c2,_⟩:=hM.get hk;rw[hl]at c2;have hmb:mb<w.heap.size:=by omega
 have hk1:(a.obj:Int)<(n:Int):=by omega
 have hn:=hM.2.1;have hp1:pb<w.heap.size+1:=by omega
 have hp2:pb<w.heap.size+1+1:=by omega
 have hm1:mb<w.heap.size+1:=by omega
 have hm2:mb<w.heap.size+1+1:=by omega
 clear hM hl;go_enter func67,ntmps67;go_wp2_with fail;go_quiet (fail);go_wp2_with fail;refine aS (v:=aO (none)) ?_ rfl ⟨rfl,?_⟩
 ·simp[results,results67,go_sem,aO]
 ·exact((below_drewN (aN _ _ _ _) _).setCell (by show w.heap.size<=w.heap.size+1+1;omega) _).setCell (by show w.heap.size<=w.heap.size+1+1;omega) _
theorem KL(pb po:Nat)(A:Option Addr)(n aA B:Nat)(op:Int)(a b:V)(M:List MO)(w:World)(hB:B<=w.heap.size)(hpb:pb<w.heap.size)(hc:w.cell? ⟨pb,po,none⟩=some (.slice A n aA))(hM:cK w B A n M)(YQ:¬op=12)(YP:¬op=13)(YO:¬op=25)(YN:¬op=26)(Kh:12<=op)(Kg:op<=30)(hb:¬a.obj=0)(y:Int)(he:b=⟨a.obj,y⟩)(hk:a.obj<n)(hl:(aG M a.obj).live=true)(hop:27<=op)(Pg:-9223372036854775808<=a.n)(Pe:a.n<=9223372036854775807)(J6:-9223372036854775808<=y)(J5:y<=9223372036854775807):
  Calls prog 67 #[.pointer (some ⟨pb,po,none⟩),.int .i64 op,.agg #[.int .i64 a.obj,.int .i64 a.n],.agg #[.int .i64 b.obj,.int .i64 b.n]] w λe w'=>e= .returned (aO (some ⟨0,bF op a.n y⟩))/\Below w.heap.size w w':=by
 subst he;simp only at*;have g149:(((a.obj:Int)==0))=false:=beq_eq_false_iff_ne.2 (by omega);have g150:(((a.obj:Int) !=(a.obj:Int)))=false:=by simp
 have g151:(decide (27<=op))=true:=decide_eq_true (by omega);have g152:(decide (op<=30))=true:=decide_eq_true (by omega);have g153:(op==12)=false:=beq_eq_false_iff_ne.2 (by omega);have g154:(op==13)=false:=beq_eq_false_iff_ne.2 (by omega);have g155:(op==25)=false:=beq_eq_false_iff_ne.2 (by omega);have g156:(op==26)=false:=beq_eq_false_iff_ne.2 (by omega);have g157:(op !=13)=true:=by rw[bne_iff_ne];omega
 obtain⟨mb,mo,rfl,gV,_,_,_,_,_,c2,_⟩:=hM.get hk;rw[hl]at c2;have hmb:mb<w.heap.size:=by omega
 have hk1:(a.obj:Int)<(n:Int):=by omega
 have hn:=hM.2.1;have hp1:pb<w.heap.size+1:=by omega
 have hp2:pb<w.heap.size+1+1:=by omega
 have hm1:mb<w.heap.size+1:=by omega
 have hm2:mb<w.heap.size+1+1:=by omega
 clear hM hl;go_enter func67,ntmps67;go_wp2_with(first|(go_at_call 86;refine(cY _ _ _ _ Kh Kg Pg Pe J6 J5).mono ?_;rintro e w' ⟨rfl,rfl⟩));go_quiet (fail);go_wp2_with(first|(go_at_call 86;refine(cY _ _ _ _ Kh Kg Pg Pe J6 J5).mono ?_;rintro e w' ⟨rfl,rfl⟩));refine aS (v:=aO (some ⟨0,bF op a.n y⟩)) ?_ rfl ⟨rfl,?_⟩
 ·simp[results,results67,go_sem,aO]
 ·exact((below_drewN (aN _ _ _ _) _).setCell (by show w.heap.size<=w.heap.size+1+1;omega) _).setCell (by show w.heap.size<=w.heap.size+1+1;omega) _
theorem V.same{a b:V}(h:a.obj=b.obj):b=⟨a.obj,b.n⟩:=by cases a;cases b;simp_all
theorem wR(pb po:Nat)(A:Option Addr)(n aA B:Nat)(op:Int)(a b:V)(M:List MO)(w:World)(hB:B<=w.heap.size)(hpb:pb<w.heap.size)(hc:w.cell? ⟨pb,po,none⟩=some (.slice A n aA))(hM:cK w B A n M)(hk:a.obj≠0->a.obj<n)(hk':b.obj≠0->b.obj<n)
  (hx:a.obj≠0->0<=a.n/\a.n<=512)(hy:b.obj≠0->0<=b.n/\b.n<=512)(ia:In64 a.n)(ib:In64 b.n)(Kh:12<=op)(Kg:op<=30):
  Calls prog 67 #[.pointer (some ⟨pb,po,none⟩),.int .i64 op,.agg #[.int .i64 a.obj,.int .i64 a.n],.agg #[.int .i64 b.obj,.int .i64 b.n]] w λe w'=>e= .returned (aO (dm bF M op a b))/\Below w.heap.size w w':=by
 obtain⟨Pg,Pe⟩:=ia;obtain⟨J6,J5⟩:=ib;unfold dm;by_cases ha:a.obj=0
 ·by_cases hb:b.obj=0
  ·rw[if_pos ⟨ha,hb⟩];exact Qq pb po A n aA B op a b M w hB hpb hc hM Kh Kg ha hb Pg Pe J6 J5
  ·obtain⟨hy0,hy1⟩:=hy hb;have hk':=hk' hb;rw[if_neg (by omega)];have hne:¬(a.obj:Int)=(b.obj:Int):=by omega
   by_cases Ga:op=12
   ·rw[if_pos ⟨Ga,ha⟩];subst Ga;cases hm:cT M b a.n with
    |none=>exact NB pb po A n aA B a b M w hB hpb hc hM ha hb hk' hy0 hy1 hm
    |some r=>exact NA pb po A n aA B a b M w hB hpb hc hM ha hb hk' hy0 hy1 r hm
   ·rw[if_neg (by omega),if_neg (by omega),if_neg (by omega)];by_cases IV:op=25\/op=26
    ·rw[if_pos IV];by_cases hz:a.n=0
     ·rw[if_neg (by omega),if_neg (by omega),if_neg (by intro h;exact hne (by rw[h]))];rcases IV with rfl|rfl
      ·exact KO pb po A n aA B a b M w hB hpb hc hM ha hb hz hne
      ·exact KN pb po A n aA B a b M w hB hpb hc hM ha hb hz hne
     ·rw[if_pos (by omega)];rcases IV with rfl|rfl
      ·exact ES pb po A n aA B a b M w hB hpb hc hM ha hb hz
      ·exact ER pb po A n aA B a b M w hB hpb hc hM ha hb hz
    ·rw[if_neg IV,if_pos (by omega)];by_cases F9:op=13
     ·subst F9;exact KR pb po A n aA B a b M w hB hpb hc hM ha hb hne
     ·exact Nv pb po A n aA B op a b M w hB hpb hc hM Ga F9 (by omega) (by omega) ha hb hne
 ·obtain⟨hx0,hx1⟩:=hx ha;have hk:=hk ha;rw[if_neg (by omega),if_neg (by omega)];by_cases hb:b.obj=0
  ·have hne:¬(a.obj:Int)=(b.obj:Int):=by omega
   by_cases Ga:op=12
   ·rw[if_pos ⟨Ga,hb⟩];subst Ga;cases hm:cT M a b.n with
    |none=>exact Nz pb po A n aA B a b M w hB hpb hc hM ha hb hk hx0 hx1 hm
    |some r=>exact Ny pb po A n aA B a b M w hB hpb hc hM ha hb hk hx0 hx1 r hm
   ·rw[if_neg (by omega)];by_cases F9:op=13
    ·rw[if_pos ⟨F9,hb⟩];subst F9;by_cases hmn:b.n= -9223372036854775808
     ·rw[if_pos hmn];exact Ib pb po A n aA B a b M w hB hpb hc hM ha hb hmn
     ·rw[if_neg hmn];cases hm:cT M a (-b.n)with
      |none=>exact Qp pb po A n aA B a b M w hB hpb hc hM ha hb hk hx0 hx1 hmn J6 J5 hm
      |some r=>exact Qo pb po A n aA B a b M w hB hpb hc hM ha hb hk hx0 hx1 hmn J6 J5 r hm
    ·rw[if_neg (by omega)];by_cases IV:op=25\/op=26
     ·rw[if_pos IV];by_cases hz:b.n=0
      ·rw[if_neg (by omega),if_neg (by omega),if_neg (by intro h;exact hne (by rw[h]))];rcases IV with rfl|rfl
       ·exact Ie pb po A n aA B a b M w hB hpb hc hM ha hb hz hne
       ·exact Ic pb po A n aA B a b M w hB hpb hc hM ha hb hz hne
      ·rw[if_pos (by omega)];rcases IV with rfl|rfl
       ·exact Dc pb po A n aA B a b M w hB hpb hc hM ha hb hz
       ·exact Db pb po A n aA B a b M w hB hpb hc hM ha hb hz
     ·rw[if_neg IV,if_pos (by omega)];exact Nu pb po A n aA B op a b M w hB hpb hc hM Ga F9 (by omega) (by omega) ha hb hne
  ·have hk':=hk' hb;rw[if_neg (by omega),if_neg (by omega)];by_cases IV:op=25\/op=26
   ·rw[if_pos IV,if_neg (by omega)];cases og:qf M a b with
    |false=>
     rw[if_pos ⟨by omega,by omega,rfl⟩];rcases IV with rfl|rfl
     ·exact Ih pb po A n aA B a b M w hB hpb hc hM hk hk' ha hb og
     ·exact Ig pb po A n aA B a b M w hB hpb hc hM hk hk' ha hb og
    |true=>
     rw[if_neg (by simp)];by_cases he:a=b
     ·rw[if_pos he];rcases IV with rfl|rfl
      ·exact Da pb po A n aA B a b M w hB hpb hc hM hk hk' ha hb og he
      ·exact C9 pb po A n aA B a b M w hB hpb hc hM hk hk' ha hb og he
     ·rw[if_neg he];by_cases ho:a.obj=b.obj
      ·have hn:¬a.n=b.n:=λh=>he (by cases a;cases b;simp_all);rcases IV with rfl|rfl
       ·exact KQ pb po A n aA B a b M w hB hpb hc hM hk hk' ha hb og b.n (V.same ho) hn
       ·exact KP pb po A n aA B a b M w hB hpb hc hM hk hk' ha hb og b.n (V.same ho) hn
      ·rcases IV with rfl|rfl
       ·exact EP pb po A n aA B a b M w hB hpb hc hM hk hk' ha hb og (by omega)
       ·exact EO pb po A n aA B a b M w hB hpb hc hM hk hk' ha hb og (by omega)
   ·rw[if_neg IV];by_cases ho:a.obj=b.obj
    ·cases hl:(aG M a.obj).live with
     |false=>
      rw[if_pos (by simp)];by_cases Ga:op=12
      ·subst Ga;exact Il pb po A n aA B a b M w hB hpb hc hM ha hb b.n (V.same ho) hk hl
      ·by_cases F9:op=13
       ·subst F9;exact Ij pb po A n aA B a b M w hB hpb hc hM ha b.n (V.same ho) hk hl
       ·exact KM pb po A n aA B op a b M w hB hpb hc hM Ga F9 (by omega) (by omega) ha b.n (V.same ho) hk hl
     |true=>
      by_cases Ga:op=12
      ·rw[if_pos (by omega)];subst Ga;exact Ik pb po A n aA B a b M w hB hpb hc hM ha hb b.n (V.same ho) hk hl
      ·by_cases F9:op=13
       ·rw[if_neg (by simp[ho,F9])];subst F9;exact Ii pb po A n aA B a b M w hB hpb hc hM ha b.n (V.same ho) hk hl Pg Pe J6 J5
       ·by_cases o27:op<27
        ·rw[if_pos (by omega)];exact Nw pb po A n aA B op a b M w hB hpb hc hM Ga F9 (by omega) (by omega) ha b.n (V.same ho) hk hl o27
        ·rw[if_neg (by simp[ho];omega)];exact KL pb po A n aA B op a b M w hB hpb hc hM Ga F9 (by omega) (by omega) Kh Kg ha b.n (V.same ho) hk hl (by omega) Pg Pe J6 J5
    ·rw[if_pos (aK ho)];have hne:¬(a.obj:Int)=(b.obj:Int):=by omega
     by_cases Ga:op=12
     ·subst Ga;exact ND pb po A n aA B a b M w hB hpb hc hM ha hb hne
     ·by_cases F9:op=13
      ·subst F9;exact NC pb po A n aA B a b M w hB hpb hc hM ha hb hne
      ·exact Qn pb po A n aA B op a b M w hB hpb hc hM Ga F9 (by omega) (by omega) ha hb hne
end Go.Proofs.YtinmgbodgecoeaaGreat
