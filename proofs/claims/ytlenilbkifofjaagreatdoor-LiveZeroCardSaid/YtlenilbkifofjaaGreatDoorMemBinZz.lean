/- The page's memory: an op of two values. Conditions: as stated. -/
import Derived.Test.YtlenilbkifofjaaGreatDoorMemCmpZz
import Derived.Test.YtlenilbkifofjaaGreatDoorMemLdZz
set_option linter.unusedVariables false
set_option linter.unusedSimpArgs false
set_option maxHeartbeats 8000000
set_option maxRecDepth 100000
namespace Go.Proofs.YtlenilbkifofjaaGreatDoor
open Go.RowKit
theorem tru_in(t:Bool):-9223372036854775808≤tru t∧tru t≤9223372036854775807:=by cases t<;>decide
theorem truth6_any(t:Bool)(w:World):
  Calls Tryz.prog 74 #[.bool t] w fun e w'=>e= .returned (.int .i64 (tru t))∧w=w':=by
 cases t
 all_goals
  go_enter Tryz.func74,Tryz.ntmps74;go_wp2;go_ret;exact⟨rfl,rfl⟩
theorem bin_nums(pb po:Nat)(A:Option Addr)(n cap B:Nat)(op:Int)(a b:V)(M:List MO)(w:World)(_hB:B≤w.heap.size)(_hpb:pb<w.heap.size)(_hc:w.cell? ⟨pb,po,none⟩=some (.slice A n cap))(_hM:MemR w B A n M)(hop0:12≤op)(hop1:op≤30)(ha:a.obj=0)(hb:b.obj=0)(ia0:-9223372036854775808≤a.n)(ia1:a.n≤9223372036854775807)(ib0:-9223372036854775808≤b.n)(ib1:b.n≤9223372036854775807):
  Calls Tryz.prog 56 #[.pointer (some ⟨pb,po,none⟩),.int .i64 op,.agg #[.int .i64 a.obj,.int .i64 a.n],.agg #[.int .i64 b.obj,.int .i64 b.n]] w fun e w'=>e= .returned (ansV (some ⟨0,twoR op a.n b.n⟩))∧Below w.heap.size w w':=by
 have g1:(((a.obj:Int)==0))=true:=beq_iff_eq.2 (by omega);have g2:(((b.obj:Int)==0))=true:=beq_iff_eq.2 (by omega);clear _hM _hc ha hb;go_enter Tryz.func56,Tryz.ntmps56;go_wp2_with(first|(go_at_call 71;refine(refBin_any _ _ _ _ hop0 hop1 ia0 ia1 ib0 ib1).mono ?_;rintro e w' ⟨rfl,rfl⟩));refine bodyPost_ret (v:=ansV (some ⟨0,twoR op a.n b.n⟩)) ?_ rfl ⟨rfl,?_⟩
 ·simp[results,Tryz.results56,go_sem,ansV]
 ·exact below3 _ _ _ _
theorem bin_add0n(pb po:Nat)(A:Option Addr)(n cap B:Nat)(a b:V)(M:List MO)(w:World)(hB:B≤w.heap.size)(hpb:pb<w.heap.size)(hc:w.cell? ⟨pb,po,none⟩=some (.slice A n cap))(hM:MemR w B A n M)(ha:a.obj=0)(hb:¬b.obj=0)(hk:b.obj<n)(hx0:0≤b.n)(hx1:b.n≤512)(hr:movedF M b a.n=none):
  Calls Tryz.prog 56 #[.pointer (some ⟨pb,po,none⟩),.int .i64 12,.agg #[.int .i64 a.obj,.int .i64 a.n],.agg #[.int .i64 b.obj,.int .i64 b.n]] w fun e w'=>e= .returned (ansV (none))∧Below w.heap.size w w':=by
 have g3:(((a.obj:Int)==0))=true:=beq_iff_eq.2 (by omega);have g4:(((b.obj:Int)==0))=false:=beq_eq_false_iff_ne.2 (by omega);have HC:=Lib.hid (fun W(hb:Below w.heap.size w W)=>(hr▸moved_any pb po A n cap w.heap.size b a.n M W hb.size (Nat.lt_of_lt_of_le hpb hb.size) (cell_below hc hb hpb) (hM.below (hb.mono hB) hB) hk hx0 hx1:Calls Tryz.prog 72 #[.pointer (some ⟨pb,po,none⟩),.agg #[.int .i64 b.obj,.int .i64 b.n],.int .i64 a.n] W fun e w'=>e= .returned (ansV (none))∧Below W.heap.size W w'));simp only[ansV]at HC;clear hM hc hr;go_enter Tryz.func56,Tryz.ntmps56;go_wp2_with fail;refine(HC.out _ (below3 _ _ _ _)).mono ?_;rintro e w1 ⟨rfl,hb1⟩;obtain⟨hc1,hf1⟩:=bcell hb1;have hz1:=hb1.size;simp only[World.size_alloc]at hz1;go_wp2_with fail;refine bodyPost_ret (v:=ansV (none)) ?_ rfl ⟨rfl,?_⟩
 ·simp[results,Tryz.results56,go_sem,ansV,hc1]
 ·exact(((below3 _ _ _ _).trans (hb1.mono (by simp;omega))).setCell (by show w.heap.size≤w.heap.size+1+1;omega) _).setCell (by show w.heap.size≤w.heap.size+1+1;omega) _
theorem bin_add0s(pb po:Nat)(A:Option Addr)(n cap B:Nat)(a b:V)(M:List MO)(w:World)(hB:B≤w.heap.size)(hpb:pb<w.heap.size)(hc:w.cell? ⟨pb,po,none⟩=some (.slice A n cap))(hM:MemR w B A n M)(ha:a.obj=0)(hb:¬b.obj=0)(hk:b.obj<n)(hx0:0≤b.n)(hx1:b.n≤512)(r:V)(hr:movedF M b a.n=some r):
  Calls Tryz.prog 56 #[.pointer (some ⟨pb,po,none⟩),.int .i64 12,.agg #[.int .i64 a.obj,.int .i64 a.n],.agg #[.int .i64 b.obj,.int .i64 b.n]] w fun e w'=>e= .returned (ansV (some r))∧Below w.heap.size w w':=by
 have g5:(((a.obj:Int)==0))=true:=beq_iff_eq.2 (by omega);have g6:(((b.obj:Int)==0))=false:=beq_eq_false_iff_ne.2 (by omega);have HC:=Lib.hid (fun W(hb:Below w.heap.size w W)=>(hr▸moved_any pb po A n cap w.heap.size b a.n M W hb.size (Nat.lt_of_lt_of_le hpb hb.size) (cell_below hc hb hpb) (hM.below (hb.mono hB) hB) hk hx0 hx1:Calls Tryz.prog 72 #[.pointer (some ⟨pb,po,none⟩),.agg #[.int .i64 b.obj,.int .i64 b.n],.int .i64 a.n] W fun e w'=>e= .returned (ansV (some r))∧Below W.heap.size W w'));simp only[ansV]at HC;clear hM hc hr;go_enter Tryz.func56,Tryz.ntmps56;go_wp2_with fail;refine(HC.out _ (below3 _ _ _ _)).mono ?_;rintro e w1 ⟨rfl,hb1⟩;obtain⟨hc1,hf1⟩:=bcell hb1;have hz1:=hb1.size;simp only[World.size_alloc]at hz1;go_wp2_with fail;refine bodyPost_ret (v:=ansV (some r)) ?_ rfl ⟨rfl,?_⟩
 ·simp[results,Tryz.results56,go_sem,ansV,hc1]
 ·exact(((below3 _ _ _ _).trans (hb1.mono (by simp;omega))).setCell (by show w.heap.size≤w.heap.size+1+1;omega) _).setCell (by show w.heap.size≤w.heap.size+1+1;omega) _
theorem bin_add1n(pb po:Nat)(A:Option Addr)(n cap B:Nat)(a b:V)(M:List MO)(w:World)(hB:B≤w.heap.size)(hpb:pb<w.heap.size)(hc:w.cell? ⟨pb,po,none⟩=some (.slice A n cap))(hM:MemR w B A n M)(ha:¬a.obj=0)(hb:b.obj=0)(hk:a.obj<n)(hx0:0≤a.n)(hx1:a.n≤512)(hr:movedF M a b.n=none):
  Calls Tryz.prog 56 #[.pointer (some ⟨pb,po,none⟩),.int .i64 12,.agg #[.int .i64 a.obj,.int .i64 a.n],.agg #[.int .i64 b.obj,.int .i64 b.n]] w fun e w'=>e= .returned (ansV (none))∧Below w.heap.size w w':=by
 have g7:(((a.obj:Int)==0))=false:=beq_eq_false_iff_ne.2 (by omega);have g8:(((b.obj:Int)==0))=true:=beq_iff_eq.2 (by omega);have HC:=Lib.hid (fun W(hb:Below w.heap.size w W)=>(hr▸moved_any pb po A n cap w.heap.size a b.n M W hb.size (Nat.lt_of_lt_of_le hpb hb.size) (cell_below hc hb hpb) (hM.below (hb.mono hB) hB) hk hx0 hx1:Calls Tryz.prog 72 #[.pointer (some ⟨pb,po,none⟩),.agg #[.int .i64 a.obj,.int .i64 a.n],.int .i64 b.n] W fun e w'=>e= .returned (ansV (none))∧Below W.heap.size W w'));simp only[ansV]at HC;clear hM hc hr;go_enter Tryz.func56,Tryz.ntmps56;go_wp2_with fail;refine(HC.out _ (below3 _ _ _ _)).mono ?_;rintro e w1 ⟨rfl,hb1⟩;obtain⟨hc1,hf1⟩:=bcell hb1;have hz1:=hb1.size;simp only[World.size_alloc]at hz1;go_wp2_with fail;refine bodyPost_ret (v:=ansV (none)) ?_ rfl ⟨rfl,?_⟩
 ·simp[results,Tryz.results56,go_sem,ansV,hc1]
 ·exact(((below3 _ _ _ _).trans (hb1.mono (by simp;omega))).setCell (by show w.heap.size≤w.heap.size+1+1;omega) _).setCell (by show w.heap.size≤w.heap.size+1+1;omega) _
theorem bin_add1s(pb po:Nat)(A:Option Addr)(n cap B:Nat)(a b:V)(M:List MO)(w:World)(hB:B≤w.heap.size)(hpb:pb<w.heap.size)(hc:w.cell? ⟨pb,po,none⟩=some (.slice A n cap))(hM:MemR w B A n M)(ha:¬a.obj=0)(hb:b.obj=0)(hk:a.obj<n)(hx0:0≤a.n)(hx1:a.n≤512)(r:V)(hr:movedF M a b.n=some r):
  Calls Tryz.prog 56 #[.pointer (some ⟨pb,po,none⟩),.int .i64 12,.agg #[.int .i64 a.obj,.int .i64 a.n],.agg #[.int .i64 b.obj,.int .i64 b.n]] w fun e w'=>e= .returned (ansV (some r))∧Below w.heap.size w w':=by
 have g9:(((a.obj:Int)==0))=false:=beq_eq_false_iff_ne.2 (by omega);have g10:(((b.obj:Int)==0))=true:=beq_iff_eq.2 (by omega);have HC:=Lib.hid (fun W(hb:Below w.heap.size w W)=>(hr▸moved_any pb po A n cap w.heap.size a b.n M W hb.size (Nat.lt_of_lt_of_le hpb hb.size) (cell_below hc hb hpb) (hM.below (hb.mono hB) hB) hk hx0 hx1:Calls Tryz.prog 72 #[.pointer (some ⟨pb,po,none⟩),.agg #[.int .i64 a.obj,.int .i64 a.n],.int .i64 b.n] W fun e w'=>e= .returned (ansV (some r))∧Below W.heap.size W w'));simp only[ansV]at HC;clear hM hc hr;go_enter Tryz.func56,Tryz.ntmps56;go_wp2_with fail;refine(HC.out _ (below3 _ _ _ _)).mono ?_;rintro e w1 ⟨rfl,hb1⟩;obtain⟨hc1,hf1⟩:=bcell hb1;have hz1:=hb1.size;simp only[World.size_alloc]at hz1;go_wp2_with fail;refine bodyPost_ret (v:=ansV (some r)) ?_ rfl ⟨rfl,?_⟩
 ·simp[results,Tryz.results56,go_sem,ansV,hc1]
 ·exact(((below3 _ _ _ _).trans (hb1.mono (by simp;omega))).setCell (by show w.heap.size≤w.heap.size+1+1;omega) _).setCell (by show w.heap.size≤w.heap.size+1+1;omega) _
theorem bin_subn(pb po:Nat)(A:Option Addr)(n cap B:Nat)(a b:V)(M:List MO)(w:World)(hB:B≤w.heap.size)(hpb:pb<w.heap.size)(hc:w.cell? ⟨pb,po,none⟩=some (.slice A n cap))(hM:MemR w B A n M)(ha:¬a.obj=0)(hb:b.obj=0)(hk:a.obj<n)(hx0:0≤a.n)(hx1:a.n≤512)(hm:¬b.n= -9223372036854775808)(ib0:-9223372036854775808≤b.n)(ib1:b.n≤9223372036854775807)(hr:movedF M a (-b.n)=none):
  Calls Tryz.prog 56 #[.pointer (some ⟨pb,po,none⟩),.int .i64 13,.agg #[.int .i64 a.obj,.int .i64 a.n],.agg #[.int .i64 b.obj,.int .i64 b.n]] w fun e w'=>e= .returned (ansV (none))∧Below w.heap.size w w':=by
 have g11:(((a.obj:Int)==0))=false:=beq_eq_false_iff_ne.2 (by omega);have g12:(((b.obj:Int)==0))=true:=beq_iff_eq.2 (by omega);have g13:(b.n== -9223372036854775808)=false:=beq_eq_false_iff_ne.2 (by omega);have HC:=Lib.hid (fun W(hb:Below w.heap.size w W)=>(hr▸moved_any pb po A n cap w.heap.size a (-b.n) M W hb.size (Nat.lt_of_lt_of_le hpb hb.size) (cell_below hc hb hpb) (hM.below (hb.mono hB) hB) hk hx0 hx1:Calls Tryz.prog 72 #[.pointer (some ⟨pb,po,none⟩),.agg #[.int .i64 a.obj,.int .i64 a.n],.int .i64 (-b.n)] W fun e w'=>e= .returned (ansV (none))∧Below W.heap.size W w'));simp only[ansV]at HC;clear hM hc hr;go_enter Tryz.func56,Tryz.ntmps56;go_wp2_with fail;refine(HC.out _ (below3 _ _ _ _)).mono ?_;rintro e w1 ⟨rfl,hb1⟩;obtain⟨hc1,hf1⟩:=bcell hb1;have hz1:=hb1.size;simp only[World.size_alloc]at hz1;go_wp2_with fail
 refine bodyPost_ret (v:=ansV (none)) ?_ rfl ⟨rfl,?_⟩
 ·simp[results,Tryz.results56,go_sem,ansV,hc1]
 ·exact(((below3 _ _ _ _).trans (hb1.mono (by simp;omega))).setCell (by show w.heap.size≤w.heap.size+1+1;omega) _).setCell (by show w.heap.size≤w.heap.size+1+1;omega) _
theorem bin_subs(pb po:Nat)(A:Option Addr)(n cap B:Nat)(a b:V)(M:List MO)(w:World)(hB:B≤w.heap.size)(hpb:pb<w.heap.size)(hc:w.cell? ⟨pb,po,none⟩=some (.slice A n cap))(hM:MemR w B A n M)(ha:¬a.obj=0)(hb:b.obj=0)(hk:a.obj<n)(hx0:0≤a.n)(hx1:a.n≤512)(hm:¬b.n= -9223372036854775808)(ib0:-9223372036854775808≤b.n)(ib1:b.n≤9223372036854775807)(r:V)(hr:movedF M a (-b.n)=some r):
  Calls Tryz.prog 56 #[.pointer (some ⟨pb,po,none⟩),.int .i64 13,.agg #[.int .i64 a.obj,.int .i64 a.n],.agg #[.int .i64 b.obj,.int .i64 b.n]] w fun e w'=>e= .returned (ansV (some r))∧Below w.heap.size w w':=by
 have g14:(((a.obj:Int)==0))=false:=beq_eq_false_iff_ne.2 (by omega);have g15:(((b.obj:Int)==0))=true:=beq_iff_eq.2 (by omega);have g16:(b.n== -9223372036854775808)=false:=beq_eq_false_iff_ne.2 (by omega);have HC:=Lib.hid (fun W(hb:Below w.heap.size w W)=>(hr▸moved_any pb po A n cap w.heap.size a (-b.n) M W hb.size (Nat.lt_of_lt_of_le hpb hb.size) (cell_below hc hb hpb) (hM.below (hb.mono hB) hB) hk hx0 hx1:Calls Tryz.prog 72 #[.pointer (some ⟨pb,po,none⟩),.agg #[.int .i64 a.obj,.int .i64 a.n],.int .i64 (-b.n)] W fun e w'=>e= .returned (ansV (some r))∧Below W.heap.size W w'));simp only[ansV]at HC;clear hM hc hr;go_enter Tryz.func56,Tryz.ntmps56;go_wp2_with fail;refine(HC.out _ (below3 _ _ _ _)).mono ?_;rintro e w1 ⟨rfl,hb1⟩;obtain⟨hc1,hf1⟩:=bcell hb1;have hz1:=hb1.size;simp only[World.size_alloc]at hz1;go_wp2_with fail
 refine bodyPost_ret (v:=ansV (some r)) ?_ rfl ⟨rfl,?_⟩
 ·simp[results,Tryz.results56,go_sem,ansV,hc1]
 ·exact(((below3 _ _ _ _).trans (hb1.mono (by simp;omega))).setCell (by show w.heap.size≤w.heap.size+1+1;omega) _).setCell (by show w.heap.size≤w.heap.size+1+1;omega) _
theorem bin_sub_min(pb po:Nat)(A:Option Addr)(n cap B:Nat)(a b:V)(M:List MO)(w:World)(_hB:B≤w.heap.size)(_hpb:pb<w.heap.size)(_hc:w.cell? ⟨pb,po,none⟩=some (.slice A n cap))(_hM:MemR w B A n M)(ha:¬a.obj=0)(hb:b.obj=0)(hm:b.n= -9223372036854775808):
  Calls Tryz.prog 56 #[.pointer (some ⟨pb,po,none⟩),.int .i64 13,.agg #[.int .i64 a.obj,.int .i64 a.n],.agg #[.int .i64 b.obj,.int .i64 b.n]] w fun e w'=>e= .returned (ansV (none))∧Below w.heap.size w w':=by
 have g17:(((a.obj:Int)==0))=false:=beq_eq_false_iff_ne.2 (by omega);have g18:(((b.obj:Int)==0))=true:=beq_iff_eq.2 (by omega);have g19:(b.n== -9223372036854775808)=true:=beq_iff_eq.2 (by omega);clear _hM _hc hm;go_enter Tryz.func56,Tryz.ntmps56;go_wp2_with fail;refine bodyPost_ret (v:=ansV (none)) ?_ rfl ⟨rfl,?_⟩
 ·simp[results,Tryz.results56,go_sem,ansV]
 ·exact below3 _ _ _ _
theorem bin_eq_num25(pb po:Nat)(A:Option Addr)(n cap B:Nat)(a b:V)(M:List MO)(w:World)(_hB:B≤w.heap.size)(_hpb:pb<w.heap.size)(_hc:w.cell? ⟨pb,po,none⟩=some (.slice A n cap))(_hM:MemR w B A n M)(ha:a.obj=0)(hb:¬b.obj=0)(hm:¬a.n=0):
  Calls Tryz.prog 56 #[.pointer (some ⟨pb,po,none⟩),.int .i64 25,.agg #[.int .i64 a.obj,.int .i64 a.n],.agg #[.int .i64 b.obj,.int .i64 b.n]] w fun e w'=>e= .returned (ansV (none))∧Below w.heap.size w w':=by
 have g20:(((a.obj:Int)==0))=true:=beq_iff_eq.2 (by omega);have g21:(((b.obj:Int)==0))=false:=beq_eq_false_iff_ne.2 (by omega);have g22:(a.n !=0)=true:=by rw[bne_iff_ne];omega
 clear _hM _hc;go_enter Tryz.func56,Tryz.ntmps56;go_wp2_with fail;refine bodyPost_ret (v:=ansV (none)) ?_ rfl ⟨rfl,?_⟩
 ·simp[results,Tryz.results56,go_sem,ansV]
 ·exact below3 _ _ _ _
theorem bin_eq_num'25(pb po:Nat)(A:Option Addr)(n cap B:Nat)(a b:V)(M:List MO)(w:World)(_hB:B≤w.heap.size)(_hpb:pb<w.heap.size)(_hc:w.cell? ⟨pb,po,none⟩=some (.slice A n cap))(_hM:MemR w B A n M)(ha:¬a.obj=0)(hb:b.obj=0)(hm:¬b.n=0):
  Calls Tryz.prog 56 #[.pointer (some ⟨pb,po,none⟩),.int .i64 25,.agg #[.int .i64 a.obj,.int .i64 a.n],.agg #[.int .i64 b.obj,.int .i64 b.n]] w fun e w'=>e= .returned (ansV (none))∧Below w.heap.size w w':=by
 have g23:(((a.obj:Int)==0))=false:=beq_eq_false_iff_ne.2 (by omega);have g24:(((b.obj:Int)==0))=true:=beq_iff_eq.2 (by omega);have g25:(b.n !=0)=true:=by rw[bne_iff_ne];omega
 clear _hM _hc;go_enter Tryz.func56,Tryz.ntmps56;go_wp2_with fail;refine bodyPost_ret (v:=ansV (none)) ?_ rfl ⟨rfl,?_⟩
 ·simp[results,Tryz.results56,go_sem,ansV]
 ·exact below3 _ _ _ _
theorem bin_eq_no25(pb po:Nat)(A:Option Addr)(n cap B:Nat)(a b:V)(M:List MO)(w:World)(hB:B≤w.heap.size)(hpb:pb<w.heap.size)(hc:w.cell? ⟨pb,po,none⟩=some (.slice A n cap))(hM:MemR w B A n M)(hk:a.obj<n)(hk':b.obj<n)(ha:¬a.obj=0)(hb:¬b.obj=0)(hcmp:cmpF M a b=false):
  Calls Tryz.prog 56 #[.pointer (some ⟨pb,po,none⟩),.int .i64 25,.agg #[.int .i64 a.obj,.int .i64 a.n],.agg #[.int .i64 b.obj,.int .i64 b.n]] w fun e w'=>e= .returned (ansV (none))∧Below w.heap.size w w':=by
 have g26:(((a.obj:Int)==0))=false:=beq_eq_false_iff_ne.2 (by omega);have g27:(((b.obj:Int)==0))=false:=beq_eq_false_iff_ne.2 (by omega);have g28:(decide ((0:Int)<(a.obj:Int)))=true:=decide_eq_true (by omega);have g29:(decide ((0:Int)<(b.obj:Int)))=true:=decide_eq_true (by omega);have HC:=Lib.hid (fun W(hb:Below w.heap.size w W)=>cmp_any pb po A n cap w.heap.size a b M W hb.size (Nat.lt_of_lt_of_le hpb hb.size) (cell_below hc hb hpb) (hM.below (hb.mono hB) hB) hk hk');rw[hcmp]at HC;clear hM hc;go_enter Tryz.func56,Tryz.ntmps56;go_wp2_with fail;refine(HC.out _ (below3 _ _ _ _)).mono ?_;rintro e w1 ⟨rfl,hb1⟩;obtain⟨hc1,hf1⟩:=bcell hb1;have hz1:=hb1.size;simp only[World.size_alloc]at hz1;go_wp2_with fail;refine bodyPost_ret (v:=ansV (none)) ?_ rfl ⟨rfl,?_⟩
 ·simp[results,Tryz.results56,go_sem,ansV,hc1]
 ·exact(((below3 _ _ _ _).trans (hb1.mono (by simp;omega))).setCell (by show w.heap.size≤w.heap.size+1+1;omega) _).setCell (by show w.heap.size≤w.heap.size+1+1;omega) _
theorem bin_eq_same25(pb po:Nat)(A:Option Addr)(n cap B:Nat)(a b:V)(M:List MO)(w:World)(hB:B≤w.heap.size)(hpb:pb<w.heap.size)(hc:w.cell? ⟨pb,po,none⟩=some (.slice A n cap))(hM:MemR w B A n M)(hk:a.obj<n)(hk':b.obj<n)(ha:¬a.obj=0)(hb:¬b.obj=0)(hcmp:cmpF M a b=true)(he:a=b):
  Calls Tryz.prog 56 #[.pointer (some ⟨pb,po,none⟩),.int .i64 25,.agg #[.int .i64 a.obj,.int .i64 a.n],.agg #[.int .i64 b.obj,.int .i64 b.n]] w fun e w'=>e= .returned (ansV (some ⟨0,twoR 25 (tru true) 1⟩))∧Below w.heap.size w w':=by
 have g30:(((a.obj:Int)==0))=false:=beq_eq_false_iff_ne.2 (by omega);have g31:(((b.obj:Int)==0))=false:=beq_eq_false_iff_ne.2 (by omega);have g32:(decide ((0:Int)<(a.obj:Int)))=true:=decide_eq_true (by omega);have g33:(decide ((0:Int)<(b.obj:Int)))=true:=decide_eq_true (by omega);have HC:=Lib.hid (fun W(hb:Below w.heap.size w W)=>cmp_any pb po A n cap w.heap.size a b M W hb.size (Nat.lt_of_lt_of_le hpb hb.size) (cell_below hc hb hpb) (hM.below (hb.mono hB) hB) hk hk');rw[hcmp]at HC;subst he;clear hM hc;go_enter Tryz.func56,Tryz.ntmps56;go_wp2_with fail;refine(HC.out _ (below3 _ _ _ _)).mono ?_;rintro e w1 ⟨rfl,hb1⟩;obtain⟨hc1,hf1⟩:=bcell hb1;have hz1:=hb1.size;simp only[World.size_alloc]at hz1
 go_wp2_with(first|(go_at_call 74;refine(truth6_any _ _).mono ?_;rintro e w' ⟨rfl,rfl⟩)|(go_at_call 71;refine(refBin_any _ _ _ _ (by decide) (by decide) (tru_in _).1 (tru_in _).2 (by decide) (by decide)).mono ?_;rintro e w' ⟨rfl,rfl⟩));refine bodyPost_ret (v:=ansV (some ⟨0,twoR 25 (tru true) 1⟩)) ?_ rfl ⟨rfl,?_⟩
 ·simp[results,Tryz.results56,go_sem,ansV,hc1]
 ·exact(((below3 _ _ _ _).trans (hb1.mono (by simp;omega))).setCell (by show w.heap.size≤w.heap.size+1+1;omega) _).setCell (by show w.heap.size≤w.heap.size+1+1;omega) _
theorem bin_eq_obj25(pb po:Nat)(A:Option Addr)(n cap B:Nat)(a b:V)(M:List MO)(w:World)(hB:B≤w.heap.size)(hpb:pb<w.heap.size)(hc:w.cell? ⟨pb,po,none⟩=some (.slice A n cap))(hM:MemR w B A n M)(hk:a.obj<n)(hk':b.obj<n)(ha:¬a.obj=0)(hb:¬b.obj=0)(hcmp:cmpF M a b=true)(he:¬(a.obj:Int)=(b.obj:Int)):
  Calls Tryz.prog 56 #[.pointer (some ⟨pb,po,none⟩),.int .i64 25,.agg #[.int .i64 a.obj,.int .i64 a.n],.agg #[.int .i64 b.obj,.int .i64 b.n]] w fun e w'=>e= .returned (ansV (some ⟨0,twoR 25 (tru false) 1⟩))∧Below w.heap.size w w':=by
 have g34:(((a.obj:Int)==0))=false:=beq_eq_false_iff_ne.2 (by omega);have g35:(((b.obj:Int)==0))=false:=beq_eq_false_iff_ne.2 (by omega);have g36:(decide ((0:Int)<(a.obj:Int)))=true:=decide_eq_true (by omega);have g37:(decide ((0:Int)<(b.obj:Int)))=true:=decide_eq_true (by omega);have HC:=Lib.hid (fun W(hb:Below w.heap.size w W)=>cmp_any pb po A n cap w.heap.size a b M W hb.size (Nat.lt_of_lt_of_le hpb hb.size) (cell_below hc hb hpb) (hM.below (hb.mono hB) hB) hk hk');rw[hcmp]at HC;clear hM hc;go_enter Tryz.func56,Tryz.ntmps56;go_wp2_with fail;refine(HC.out _ (below3 _ _ _ _)).mono ?_;rintro e w1 ⟨rfl,hb1⟩;obtain⟨hc1,hf1⟩:=bcell hb1;have hz1:=hb1.size;simp only[World.size_alloc]at hz1
 go_wp2_with(first|(go_at_call 74;refine(truth6_any _ _).mono ?_;rintro e w' ⟨rfl,rfl⟩)|(go_at_call 71;refine(refBin_any _ _ _ _ (by decide) (by decide) (tru_in _).1 (tru_in _).2 (by decide) (by decide)).mono ?_;rintro e w' ⟨rfl,rfl⟩));refine bodyPost_ret (v:=ansV (some ⟨0,twoR 25 (tru false) 1⟩)) ?_ rfl ⟨rfl,?_⟩
 ·simp[results,Tryz.results56,go_sem,ansV,hc1]
 ·exact(((below3 _ _ _ _).trans (hb1.mono (by simp;omega))).setCell (by show w.heap.size≤w.heap.size+1+1;omega) _).setCell (by show w.heap.size≤w.heap.size+1+1;omega) _
theorem bin_eq_n25(pb po:Nat)(A:Option Addr)(n cap B:Nat)(a b:V)(M:List MO)(w:World)(hB:B≤w.heap.size)(hpb:pb<w.heap.size)(hc:w.cell? ⟨pb,po,none⟩=some (.slice A n cap))(hM:MemR w B A n M)(hk:a.obj<n)(hk':b.obj<n)(ha:¬a.obj=0)(hb:¬b.obj=0)(hcmp:cmpF M a b=true)(y:Int)(he:b=⟨a.obj,y⟩)(he':¬a.n=y):
  Calls Tryz.prog 56 #[.pointer (some ⟨pb,po,none⟩),.int .i64 25,.agg #[.int .i64 a.obj,.int .i64 a.n],.agg #[.int .i64 b.obj,.int .i64 b.n]] w fun e w'=>e= .returned (ansV (some ⟨0,twoR 25 (tru false) 1⟩))∧Below w.heap.size w w':=by
 have g38:(((a.obj:Int)==0))=false:=beq_eq_false_iff_ne.2 (by omega);have g39:(((b.obj:Int)==0))=false:=beq_eq_false_iff_ne.2 (by omega);have g40:(decide ((0:Int)<(a.obj:Int)))=true:=decide_eq_true (by omega);have g41:(decide ((0:Int)<(b.obj:Int)))=true:=decide_eq_true (by omega);have HC:=Lib.hid (fun W(hb:Below w.heap.size w W)=>cmp_any pb po A n cap w.heap.size a b M W hb.size (Nat.lt_of_lt_of_le hpb hb.size) (cell_below hc hb hpb) (hM.below (hb.mono hB) hB) hk hk');rw[hcmp]at HC;subst he;clear hcmp;simp only at*;clear hM hc;go_enter Tryz.func56,Tryz.ntmps56;go_wp2_with fail;refine(HC.out _ (below3 _ _ _ _)).mono ?_;rintro e w1 ⟨rfl,hb1⟩;obtain⟨hc1,hf1⟩:=bcell hb1;have hz1:=hb1.size;simp only[World.size_alloc]at hz1
 go_wp2_with(first|(go_at_call 74;refine(truth6_any _ _).mono ?_;rintro e w' ⟨rfl,rfl⟩)|(go_at_call 71;refine(refBin_any _ _ _ _ (by decide) (by decide) (tru_in _).1 (tru_in _).2 (by decide) (by decide)).mono ?_;rintro e w' ⟨rfl,rfl⟩));refine bodyPost_ret (v:=ansV (some ⟨0,twoR 25 (tru false) 1⟩)) ?_ rfl ⟨rfl,?_⟩
 ·simp[results,Tryz.results56,go_sem,ansV,hc1]
 ·exact(((below3 _ _ _ _).trans (hb1.mono (by simp;omega))).setCell (by show w.heap.size≤w.heap.size+1+1;omega) _).setCell (by show w.heap.size≤w.heap.size+1+1;omega) _
theorem bin_eq_z25(pb po:Nat)(A:Option Addr)(n cap B:Nat)(a b:V)(M:List MO)(w:World)(_hB:B≤w.heap.size)(_hpb:pb<w.heap.size)(_hc:w.cell? ⟨pb,po,none⟩=some (.slice A n cap))(_hM:MemR w B A n M)(ha:a.obj=0)(hb:¬b.obj=0)(hz:a.n=0)(he:¬(a.obj:Int)=(b.obj:Int)):
  Calls Tryz.prog 56 #[.pointer (some ⟨pb,po,none⟩),.int .i64 25,.agg #[.int .i64 a.obj,.int .i64 a.n],.agg #[.int .i64 b.obj,.int .i64 b.n]] w fun e w'=>e= .returned (ansV (some ⟨0,twoR 25 (tru false) 1⟩))∧Below w.heap.size w w':=by
 have g42:(((a.obj:Int)==0))=true:=beq_iff_eq.2 (by omega);have g43:(((b.obj:Int)==0))=false:=beq_eq_false_iff_ne.2 (by omega);have g44:(decide ((0:Int)<(a.obj:Int)))=false:=decide_eq_false (by omega);have g45:(decide ((0:Int)<(b.obj:Int)))=true:=decide_eq_true (by omega);have g46:(a.n !=0)=false:=by rw[bne_eq_false_iff_eq];omega
 clear _hM _hc hz;go_enter Tryz.func56,Tryz.ntmps56;go_wp2_with(first|(go_at_call 74;refine(truth6_any _ _).mono ?_;rintro e w' ⟨rfl,rfl⟩)|(go_at_call 71;refine(refBin_any _ _ _ _ (by decide) (by decide) (tru_in _).1 (tru_in _).2 (by decide) (by decide)).mono ?_;rintro e w' ⟨rfl,rfl⟩));refine bodyPost_ret (v:=ansV (some ⟨0,twoR 25 (tru false) 1⟩)) ?_ rfl ⟨rfl,?_⟩
 ·simp[results,Tryz.results56,go_sem,ansV]
 ·exact below3 _ _ _ _
theorem bin_eq_z'25(pb po:Nat)(A:Option Addr)(n cap B:Nat)(a b:V)(M:List MO)(w:World)(_hB:B≤w.heap.size)(_hpb:pb<w.heap.size)(_hc:w.cell? ⟨pb,po,none⟩=some (.slice A n cap))(_hM:MemR w B A n M)(ha:¬a.obj=0)(hb:b.obj=0)(hz:b.n=0)(he:¬(a.obj:Int)=(b.obj:Int)):
  Calls Tryz.prog 56 #[.pointer (some ⟨pb,po,none⟩),.int .i64 25,.agg #[.int .i64 a.obj,.int .i64 a.n],.agg #[.int .i64 b.obj,.int .i64 b.n]] w fun e w'=>e= .returned (ansV (some ⟨0,twoR 25 (tru false) 1⟩))∧Below w.heap.size w w':=by
 have g47:(((a.obj:Int)==0))=false:=beq_eq_false_iff_ne.2 (by omega);have g48:(((b.obj:Int)==0))=true:=beq_iff_eq.2 (by omega);have g49:(decide ((0:Int)<(a.obj:Int)))=true:=decide_eq_true (by omega);have g50:(decide ((0:Int)<(b.obj:Int)))=false:=decide_eq_false (by omega);have g51:(b.n !=0)=false:=by rw[bne_eq_false_iff_eq];omega
 clear _hM _hc hz;go_enter Tryz.func56,Tryz.ntmps56;go_wp2_with(first|(go_at_call 74;refine(truth6_any _ _).mono ?_;rintro e w' ⟨rfl,rfl⟩)|(go_at_call 71;refine(refBin_any _ _ _ _ (by decide) (by decide) (tru_in _).1 (tru_in _).2 (by decide) (by decide)).mono ?_;rintro e w' ⟨rfl,rfl⟩));refine bodyPost_ret (v:=ansV (some ⟨0,twoR 25 (tru false) 1⟩)) ?_ rfl ⟨rfl,?_⟩
 ·simp[results,Tryz.results56,go_sem,ansV]
 ·exact below3 _ _ _ _
theorem bin_eq_num26(pb po:Nat)(A:Option Addr)(n cap B:Nat)(a b:V)(M:List MO)(w:World)(_hB:B≤w.heap.size)(_hpb:pb<w.heap.size)(_hc:w.cell? ⟨pb,po,none⟩=some (.slice A n cap))(_hM:MemR w B A n M)(ha:a.obj=0)(hb:¬b.obj=0)(hm:¬a.n=0):
  Calls Tryz.prog 56 #[.pointer (some ⟨pb,po,none⟩),.int .i64 26,.agg #[.int .i64 a.obj,.int .i64 a.n],.agg #[.int .i64 b.obj,.int .i64 b.n]] w fun e w'=>e= .returned (ansV (none))∧Below w.heap.size w w':=by
 have g52:(((a.obj:Int)==0))=true:=beq_iff_eq.2 (by omega);have g53:(((b.obj:Int)==0))=false:=beq_eq_false_iff_ne.2 (by omega);have g54:(a.n !=0)=true:=by rw[bne_iff_ne];omega
 clear _hM _hc;go_enter Tryz.func56,Tryz.ntmps56;go_wp2_with fail;refine bodyPost_ret (v:=ansV (none)) ?_ rfl ⟨rfl,?_⟩
 ·simp[results,Tryz.results56,go_sem,ansV]
 ·exact below3 _ _ _ _
theorem bin_eq_num'26(pb po:Nat)(A:Option Addr)(n cap B:Nat)(a b:V)(M:List MO)(w:World)(_hB:B≤w.heap.size)(_hpb:pb<w.heap.size)(_hc:w.cell? ⟨pb,po,none⟩=some (.slice A n cap))(_hM:MemR w B A n M)(ha:¬a.obj=0)(hb:b.obj=0)(hm:¬b.n=0):
  Calls Tryz.prog 56 #[.pointer (some ⟨pb,po,none⟩),.int .i64 26,.agg #[.int .i64 a.obj,.int .i64 a.n],.agg #[.int .i64 b.obj,.int .i64 b.n]] w fun e w'=>e= .returned (ansV (none))∧Below w.heap.size w w':=by
 have g55:(((a.obj:Int)==0))=false:=beq_eq_false_iff_ne.2 (by omega);have g56:(((b.obj:Int)==0))=true:=beq_iff_eq.2 (by omega);have g57:(b.n !=0)=true:=by rw[bne_iff_ne];omega
 clear _hM _hc;go_enter Tryz.func56,Tryz.ntmps56;go_wp2_with fail;refine bodyPost_ret (v:=ansV (none)) ?_ rfl ⟨rfl,?_⟩
 ·simp[results,Tryz.results56,go_sem,ansV]
 ·exact below3 _ _ _ _
theorem bin_eq_no26(pb po:Nat)(A:Option Addr)(n cap B:Nat)(a b:V)(M:List MO)(w:World)(hB:B≤w.heap.size)(hpb:pb<w.heap.size)(hc:w.cell? ⟨pb,po,none⟩=some (.slice A n cap))(hM:MemR w B A n M)(hk:a.obj<n)(hk':b.obj<n)(ha:¬a.obj=0)(hb:¬b.obj=0)(hcmp:cmpF M a b=false):
  Calls Tryz.prog 56 #[.pointer (some ⟨pb,po,none⟩),.int .i64 26,.agg #[.int .i64 a.obj,.int .i64 a.n],.agg #[.int .i64 b.obj,.int .i64 b.n]] w fun e w'=>e= .returned (ansV (none))∧Below w.heap.size w w':=by
 have g58:(((a.obj:Int)==0))=false:=beq_eq_false_iff_ne.2 (by omega);have g59:(((b.obj:Int)==0))=false:=beq_eq_false_iff_ne.2 (by omega);have g60:(decide ((0:Int)<(a.obj:Int)))=true:=decide_eq_true (by omega);have g61:(decide ((0:Int)<(b.obj:Int)))=true:=decide_eq_true (by omega);have HC:=Lib.hid (fun W(hb:Below w.heap.size w W)=>cmp_any pb po A n cap w.heap.size a b M W hb.size (Nat.lt_of_lt_of_le hpb hb.size) (cell_below hc hb hpb) (hM.below (hb.mono hB) hB) hk hk');rw[hcmp]at HC;clear hM hc;go_enter Tryz.func56,Tryz.ntmps56;go_wp2_with fail;refine(HC.out _ (below3 _ _ _ _)).mono ?_;rintro e w1 ⟨rfl,hb1⟩;obtain⟨hc1,hf1⟩:=bcell hb1;have hz1:=hb1.size;simp only[World.size_alloc]at hz1;go_wp2_with fail;refine bodyPost_ret (v:=ansV (none)) ?_ rfl ⟨rfl,?_⟩
 ·simp[results,Tryz.results56,go_sem,ansV,hc1]
 ·exact(((below3 _ _ _ _).trans (hb1.mono (by simp;omega))).setCell (by show w.heap.size≤w.heap.size+1+1;omega) _).setCell (by show w.heap.size≤w.heap.size+1+1;omega) _
theorem bin_eq_same26(pb po:Nat)(A:Option Addr)(n cap B:Nat)(a b:V)(M:List MO)(w:World)(hB:B≤w.heap.size)(hpb:pb<w.heap.size)(hc:w.cell? ⟨pb,po,none⟩=some (.slice A n cap))(hM:MemR w B A n M)(hk:a.obj<n)(hk':b.obj<n)(ha:¬a.obj=0)(hb:¬b.obj=0)(hcmp:cmpF M a b=true)(he:a=b):
  Calls Tryz.prog 56 #[.pointer (some ⟨pb,po,none⟩),.int .i64 26,.agg #[.int .i64 a.obj,.int .i64 a.n],.agg #[.int .i64 b.obj,.int .i64 b.n]] w fun e w'=>e= .returned (ansV (some ⟨0,twoR 26 (tru true) 1⟩))∧Below w.heap.size w w':=by
 have g62:(((a.obj:Int)==0))=false:=beq_eq_false_iff_ne.2 (by omega);have g63:(((b.obj:Int)==0))=false:=beq_eq_false_iff_ne.2 (by omega);have g64:(decide ((0:Int)<(a.obj:Int)))=true:=decide_eq_true (by omega);have g65:(decide ((0:Int)<(b.obj:Int)))=true:=decide_eq_true (by omega);have HC:=Lib.hid (fun W(hb:Below w.heap.size w W)=>cmp_any pb po A n cap w.heap.size a b M W hb.size (Nat.lt_of_lt_of_le hpb hb.size) (cell_below hc hb hpb) (hM.below (hb.mono hB) hB) hk hk');rw[hcmp]at HC;subst he;clear hM hc;go_enter Tryz.func56,Tryz.ntmps56;go_wp2_with fail;refine(HC.out _ (below3 _ _ _ _)).mono ?_;rintro e w1 ⟨rfl,hb1⟩;obtain⟨hc1,hf1⟩:=bcell hb1;have hz1:=hb1.size;simp only[World.size_alloc]at hz1
 go_wp2_with(first|(go_at_call 74;refine(truth6_any _ _).mono ?_;rintro e w' ⟨rfl,rfl⟩)|(go_at_call 71;refine(refBin_any _ _ _ _ (by decide) (by decide) (tru_in _).1 (tru_in _).2 (by decide) (by decide)).mono ?_;rintro e w' ⟨rfl,rfl⟩));refine bodyPost_ret (v:=ansV (some ⟨0,twoR 26 (tru true) 1⟩)) ?_ rfl ⟨rfl,?_⟩
 ·simp[results,Tryz.results56,go_sem,ansV,hc1]
 ·exact(((below3 _ _ _ _).trans (hb1.mono (by simp;omega))).setCell (by show w.heap.size≤w.heap.size+1+1;omega) _).setCell (by show w.heap.size≤w.heap.size+1+1;omega) _
theorem bin_eq_obj26(pb po:Nat)(A:Option Addr)(n cap B:Nat)(a b:V)(M:List MO)(w:World)(hB:B≤w.heap.size)(hpb:pb<w.heap.size)(hc:w.cell? ⟨pb,po,none⟩=some (.slice A n cap))(hM:MemR w B A n M)(hk:a.obj<n)(hk':b.obj<n)(ha:¬a.obj=0)(hb:¬b.obj=0)(hcmp:cmpF M a b=true)(he:¬(a.obj:Int)=(b.obj:Int)):
  Calls Tryz.prog 56 #[.pointer (some ⟨pb,po,none⟩),.int .i64 26,.agg #[.int .i64 a.obj,.int .i64 a.n],.agg #[.int .i64 b.obj,.int .i64 b.n]] w fun e w'=>e= .returned (ansV (some ⟨0,twoR 26 (tru false) 1⟩))∧Below w.heap.size w w':=by
 have g66:(((a.obj:Int)==0))=false:=beq_eq_false_iff_ne.2 (by omega);have g67:(((b.obj:Int)==0))=false:=beq_eq_false_iff_ne.2 (by omega);have g68:(decide ((0:Int)<(a.obj:Int)))=true:=decide_eq_true (by omega);have g69:(decide ((0:Int)<(b.obj:Int)))=true:=decide_eq_true (by omega);have HC:=Lib.hid (fun W(hb:Below w.heap.size w W)=>cmp_any pb po A n cap w.heap.size a b M W hb.size (Nat.lt_of_lt_of_le hpb hb.size) (cell_below hc hb hpb) (hM.below (hb.mono hB) hB) hk hk');rw[hcmp]at HC;clear hM hc;go_enter Tryz.func56,Tryz.ntmps56;go_wp2_with fail;refine(HC.out _ (below3 _ _ _ _)).mono ?_;rintro e w1 ⟨rfl,hb1⟩;obtain⟨hc1,hf1⟩:=bcell hb1;have hz1:=hb1.size;simp only[World.size_alloc]at hz1
 go_wp2_with(first|(go_at_call 74;refine(truth6_any _ _).mono ?_;rintro e w' ⟨rfl,rfl⟩)|(go_at_call 71;refine(refBin_any _ _ _ _ (by decide) (by decide) (tru_in _).1 (tru_in _).2 (by decide) (by decide)).mono ?_;rintro e w' ⟨rfl,rfl⟩));refine bodyPost_ret (v:=ansV (some ⟨0,twoR 26 (tru false) 1⟩)) ?_ rfl ⟨rfl,?_⟩
 ·simp[results,Tryz.results56,go_sem,ansV,hc1]
 ·exact(((below3 _ _ _ _).trans (hb1.mono (by simp;omega))).setCell (by show w.heap.size≤w.heap.size+1+1;omega) _).setCell (by show w.heap.size≤w.heap.size+1+1;omega) _
theorem bin_eq_n26(pb po:Nat)(A:Option Addr)(n cap B:Nat)(a b:V)(M:List MO)(w:World)(hB:B≤w.heap.size)(hpb:pb<w.heap.size)(hc:w.cell? ⟨pb,po,none⟩=some (.slice A n cap))(hM:MemR w B A n M)(hk:a.obj<n)(hk':b.obj<n)(ha:¬a.obj=0)(hb:¬b.obj=0)(hcmp:cmpF M a b=true)(y:Int)(he:b=⟨a.obj,y⟩)(he':¬a.n=y):
  Calls Tryz.prog 56 #[.pointer (some ⟨pb,po,none⟩),.int .i64 26,.agg #[.int .i64 a.obj,.int .i64 a.n],.agg #[.int .i64 b.obj,.int .i64 b.n]] w fun e w'=>e= .returned (ansV (some ⟨0,twoR 26 (tru false) 1⟩))∧Below w.heap.size w w':=by
 have g70:(((a.obj:Int)==0))=false:=beq_eq_false_iff_ne.2 (by omega);have g71:(((b.obj:Int)==0))=false:=beq_eq_false_iff_ne.2 (by omega);have g72:(decide ((0:Int)<(a.obj:Int)))=true:=decide_eq_true (by omega);have g73:(decide ((0:Int)<(b.obj:Int)))=true:=decide_eq_true (by omega);have HC:=Lib.hid (fun W(hb:Below w.heap.size w W)=>cmp_any pb po A n cap w.heap.size a b M W hb.size (Nat.lt_of_lt_of_le hpb hb.size) (cell_below hc hb hpb) (hM.below (hb.mono hB) hB) hk hk');rw[hcmp]at HC;subst he;clear hcmp;simp only at*;clear hM hc;go_enter Tryz.func56,Tryz.ntmps56;go_wp2_with fail;refine(HC.out _ (below3 _ _ _ _)).mono ?_;rintro e w1 ⟨rfl,hb1⟩;obtain⟨hc1,hf1⟩:=bcell hb1;have hz1:=hb1.size;simp only[World.size_alloc]at hz1
 go_wp2_with(first|(go_at_call 74;refine(truth6_any _ _).mono ?_;rintro e w' ⟨rfl,rfl⟩)|(go_at_call 71;refine(refBin_any _ _ _ _ (by decide) (by decide) (tru_in _).1 (tru_in _).2 (by decide) (by decide)).mono ?_;rintro e w' ⟨rfl,rfl⟩));refine bodyPost_ret (v:=ansV (some ⟨0,twoR 26 (tru false) 1⟩)) ?_ rfl ⟨rfl,?_⟩
 ·simp[results,Tryz.results56,go_sem,ansV,hc1]
 ·exact(((below3 _ _ _ _).trans (hb1.mono (by simp;omega))).setCell (by show w.heap.size≤w.heap.size+1+1;omega) _).setCell (by show w.heap.size≤w.heap.size+1+1;omega) _
theorem bin_eq_z26(pb po:Nat)(A:Option Addr)(n cap B:Nat)(a b:V)(M:List MO)(w:World)(_hB:B≤w.heap.size)(_hpb:pb<w.heap.size)(_hc:w.cell? ⟨pb,po,none⟩=some (.slice A n cap))(_hM:MemR w B A n M)(ha:a.obj=0)(hb:¬b.obj=0)(hz:a.n=0)(he:¬(a.obj:Int)=(b.obj:Int)):
  Calls Tryz.prog 56 #[.pointer (some ⟨pb,po,none⟩),.int .i64 26,.agg #[.int .i64 a.obj,.int .i64 a.n],.agg #[.int .i64 b.obj,.int .i64 b.n]] w fun e w'=>e= .returned (ansV (some ⟨0,twoR 26 (tru false) 1⟩))∧Below w.heap.size w w':=by
 have g74:(((a.obj:Int)==0))=true:=beq_iff_eq.2 (by omega);have g75:(((b.obj:Int)==0))=false:=beq_eq_false_iff_ne.2 (by omega);have g76:(decide ((0:Int)<(a.obj:Int)))=false:=decide_eq_false (by omega);have g77:(decide ((0:Int)<(b.obj:Int)))=true:=decide_eq_true (by omega);have g78:(a.n !=0)=false:=by rw[bne_eq_false_iff_eq];omega
 clear _hM _hc hz;go_enter Tryz.func56,Tryz.ntmps56;go_wp2_with(first|(go_at_call 74;refine(truth6_any _ _).mono ?_;rintro e w' ⟨rfl,rfl⟩)|(go_at_call 71;refine(refBin_any _ _ _ _ (by decide) (by decide) (tru_in _).1 (tru_in _).2 (by decide) (by decide)).mono ?_;rintro e w' ⟨rfl,rfl⟩));refine bodyPost_ret (v:=ansV (some ⟨0,twoR 26 (tru false) 1⟩)) ?_ rfl ⟨rfl,?_⟩
 ·simp[results,Tryz.results56,go_sem,ansV]
 ·exact below3 _ _ _ _
theorem bin_eq_z'26(pb po:Nat)(A:Option Addr)(n cap B:Nat)(a b:V)(M:List MO)(w:World)(_hB:B≤w.heap.size)(_hpb:pb<w.heap.size)(_hc:w.cell? ⟨pb,po,none⟩=some (.slice A n cap))(_hM:MemR w B A n M)(ha:¬a.obj=0)(hb:b.obj=0)(hz:b.n=0)(he:¬(a.obj:Int)=(b.obj:Int)):
  Calls Tryz.prog 56 #[.pointer (some ⟨pb,po,none⟩),.int .i64 26,.agg #[.int .i64 a.obj,.int .i64 a.n],.agg #[.int .i64 b.obj,.int .i64 b.n]] w fun e w'=>e= .returned (ansV (some ⟨0,twoR 26 (tru false) 1⟩))∧Below w.heap.size w w':=by
 have g79:(((a.obj:Int)==0))=false:=beq_eq_false_iff_ne.2 (by omega);have g80:(((b.obj:Int)==0))=true:=beq_iff_eq.2 (by omega);have g81:(decide ((0:Int)<(a.obj:Int)))=true:=decide_eq_true (by omega);have g82:(decide ((0:Int)<(b.obj:Int)))=false:=decide_eq_false (by omega);have g83:(b.n !=0)=false:=by rw[bne_eq_false_iff_eq];omega
 clear _hM _hc hz;go_enter Tryz.func56,Tryz.ntmps56;go_wp2_with(first|(go_at_call 74;refine(truth6_any _ _).mono ?_;rintro e w' ⟨rfl,rfl⟩)|(go_at_call 71;refine(refBin_any _ _ _ _ (by decide) (by decide) (tru_in _).1 (tru_in _).2 (by decide) (by decide)).mono ?_;rintro e w' ⟨rfl,rfl⟩));refine bodyPost_ret (v:=ansV (some ⟨0,twoR 26 (tru false) 1⟩)) ?_ rfl ⟨rfl,?_⟩
 ·simp[results,Tryz.results56,go_sem,ansV]
 ·exact below3 _ _ _ _
theorem bin_12_ne(pb po:Nat)(A:Option Addr)(n cap B:Nat)(a b:V)(M:List MO)(w:World)(_hB:B≤w.heap.size)(_hpb:pb<w.heap.size)(_hc:w.cell? ⟨pb,po,none⟩=some (.slice A n cap))(_hM:MemR w B A n M)(ha:¬a.obj=0)(hb:¬b.obj=0)(he:¬(a.obj:Int)=(b.obj:Int)):
  Calls Tryz.prog 56 #[.pointer (some ⟨pb,po,none⟩),.int .i64 12,.agg #[.int .i64 a.obj,.int .i64 a.n],.agg #[.int .i64 b.obj,.int .i64 b.n]] w fun e w'=>e= .returned (ansV (none))∧Below w.heap.size w w':=by
 have g84:(((a.obj:Int)==0))=false:=beq_eq_false_iff_ne.2 (by omega);have g85:(((b.obj:Int)==0))=false:=beq_eq_false_iff_ne.2 (by omega);have g86:(((a.obj:Int) !=(b.obj:Int)))=true:=by rw[bne_iff_ne];omega
 clear _hM _hc;go_enter Tryz.func56,Tryz.ntmps56;go_wp2_with fail;go_quiet (fail);go_wp2_with fail;refine bodyPost_ret (v:=ansV (none)) ?_ rfl ⟨rfl,?_⟩
 ·simp[results,Tryz.results56,go_sem,ansV]
 ·exact((below_drewN (below3 _ _ _ _) _).setCell (by show w.heap.size≤w.heap.size+1+1;omega) _).setCell (by show w.heap.size≤w.heap.size+1+1;omega) _
theorem bin_12_dead(pb po:Nat)(A:Option Addr)(n cap B:Nat)(a b:V)(M:List MO)(w:World)(hB:B≤w.heap.size)(hpb:pb<w.heap.size)(hc:w.cell? ⟨pb,po,none⟩=some (.slice A n cap))(hM:MemR w B A n M)(ha:¬a.obj=0)(hb:¬b.obj=0)(y:Int)(he:b=⟨a.obj,y⟩)(hk:a.obj<n)(hl:(mget M a.obj).live=false):
  Calls Tryz.prog 56 #[.pointer (some ⟨pb,po,none⟩),.int .i64 12,.agg #[.int .i64 a.obj,.int .i64 a.n],.agg #[.int .i64 b.obj,.int .i64 b.n]] w fun e w'=>e= .returned (ansV (none))∧Below w.heap.size w w':=by
 subst he;simp only at*;have g87:(((a.obj:Int)==0))=false:=beq_eq_false_iff_ne.2 (by omega);have g88:(((a.obj:Int) !=(a.obj:Int)))=false:=by simp
 obtain⟨mb,mo,rfl,hmb',_,_,_,_,_,c2,_⟩:=hM.get hk;rw[hl]at c2;have hmb:mb<w.heap.size:=by omega
 have hk1:(a.obj:Int)<(n:Int):=by omega
 have hn:=hM.2.1;have hp1:pb<w.heap.size+1:=by omega
 have hp2:pb<w.heap.size+1+1:=by omega
 have hm1:mb<w.heap.size+1:=by omega
 have hm2:mb<w.heap.size+1+1:=by omega
 clear hM hl;go_enter Tryz.func56,Tryz.ntmps56;go_wp2_with fail;go_quiet (fail);go_wp2_with fail;refine bodyPost_ret (v:=ansV (none)) ?_ rfl ⟨rfl,?_⟩
 ·simp[results,Tryz.results56,go_sem,ansV]
 ·exact((below_drewN (below3 _ _ _ _) _).setCell (by show w.heap.size≤w.heap.size+1+1;omega) _).setCell (by show w.heap.size≤w.heap.size+1+1;omega) _
theorem bin_12_live(pb po:Nat)(A:Option Addr)(n cap B:Nat)(a b:V)(M:List MO)(w:World)(hB:B≤w.heap.size)(hpb:pb<w.heap.size)(hc:w.cell? ⟨pb,po,none⟩=some (.slice A n cap))(hM:MemR w B A n M)(ha:¬a.obj=0)(hb:¬b.obj=0)(y:Int)(he:b=⟨a.obj,y⟩)(hk:a.obj<n)(hl:(mget M a.obj).live=true):
  Calls Tryz.prog 56 #[.pointer (some ⟨pb,po,none⟩),.int .i64 12,.agg #[.int .i64 a.obj,.int .i64 a.n],.agg #[.int .i64 b.obj,.int .i64 b.n]] w fun e w'=>e= .returned (ansV (none))∧Below w.heap.size w w':=by
 subst he;simp only at*;have g89:(((a.obj:Int)==0))=false:=beq_eq_false_iff_ne.2 (by omega);have g90:(((a.obj:Int) !=(a.obj:Int)))=false:=by simp
 obtain⟨mb,mo,rfl,hmb',_,_,_,_,_,c2,_⟩:=hM.get hk;rw[hl]at c2;have hmb:mb<w.heap.size:=by omega
 have hk1:(a.obj:Int)<(n:Int):=by omega
 have hn:=hM.2.1;have hp1:pb<w.heap.size+1:=by omega
 have hp2:pb<w.heap.size+1+1:=by omega
 have hm1:mb<w.heap.size+1:=by omega
 have hm2:mb<w.heap.size+1+1:=by omega
 clear hM hl;go_enter Tryz.func56,Tryz.ntmps56;go_wp2_with fail;go_quiet (fail);go_wp2_with fail;refine bodyPost_ret (v:=ansV (none)) ?_ rfl ⟨rfl,?_⟩
 ·simp[results,Tryz.results56,go_sem,ansV]
 ·exact((below_drewN (below3 _ _ _ _) _).setCell (by show w.heap.size≤w.heap.size+1+1;omega) _).setCell (by show w.heap.size≤w.heap.size+1+1;omega) _
theorem bin_13_ne(pb po:Nat)(A:Option Addr)(n cap B:Nat)(a b:V)(M:List MO)(w:World)(_hB:B≤w.heap.size)(_hpb:pb<w.heap.size)(_hc:w.cell? ⟨pb,po,none⟩=some (.slice A n cap))(_hM:MemR w B A n M)(ha:¬a.obj=0)(hb:¬b.obj=0)(he:¬(a.obj:Int)=(b.obj:Int)):
  Calls Tryz.prog 56 #[.pointer (some ⟨pb,po,none⟩),.int .i64 13,.agg #[.int .i64 a.obj,.int .i64 a.n],.agg #[.int .i64 b.obj,.int .i64 b.n]] w fun e w'=>e= .returned (ansV (none))∧Below w.heap.size w w':=by
 have g91:(((a.obj:Int)==0))=false:=beq_eq_false_iff_ne.2 (by omega);have g92:(((b.obj:Int)==0))=false:=beq_eq_false_iff_ne.2 (by omega);have g93:(((a.obj:Int) !=(b.obj:Int)))=true:=by rw[bne_iff_ne];omega
 clear _hM _hc;go_enter Tryz.func56,Tryz.ntmps56;go_wp2_with fail;go_quiet (fail);go_wp2_with fail;refine bodyPost_ret (v:=ansV (none)) ?_ rfl ⟨rfl,?_⟩
 ·simp[results,Tryz.results56,go_sem,ansV]
 ·exact((below_drewN (below3 _ _ _ _) _).setCell (by show w.heap.size≤w.heap.size+1+1;omega) _).setCell (by show w.heap.size≤w.heap.size+1+1;omega) _
theorem bin_13_ne0(pb po:Nat)(A:Option Addr)(n cap B:Nat)(a b:V)(M:List MO)(w:World)(_hB:B≤w.heap.size)(_hpb:pb<w.heap.size)(_hc:w.cell? ⟨pb,po,none⟩=some (.slice A n cap))(_hM:MemR w B A n M)(ha:a.obj=0)(hb:¬b.obj=0)(he:¬(a.obj:Int)=(b.obj:Int)):
  Calls Tryz.prog 56 #[.pointer (some ⟨pb,po,none⟩),.int .i64 13,.agg #[.int .i64 a.obj,.int .i64 a.n],.agg #[.int .i64 b.obj,.int .i64 b.n]] w fun e w'=>e= .returned (ansV (none))∧Below w.heap.size w w':=by
 have g94:(((a.obj:Int)==0))=true:=beq_iff_eq.2 (by omega);have g95:(((b.obj:Int)==0))=false:=beq_eq_false_iff_ne.2 (by omega);have g96:(((a.obj:Int) !=(b.obj:Int)))=true:=by rw[bne_iff_ne];omega
 clear _hM _hc ha;go_enter Tryz.func56,Tryz.ntmps56;go_wp2_with fail;go_quiet (fail);go_wp2_with fail;refine bodyPost_ret (v:=ansV (none)) ?_ rfl ⟨rfl,?_⟩
 ·simp[results,Tryz.results56,go_sem,ansV]
 ·exact((below_drewN (below3 _ _ _ _) _).setCell (by show w.heap.size≤w.heap.size+1+1;omega) _).setCell (by show w.heap.size≤w.heap.size+1+1;omega) _
theorem bin_13_dead(pb po:Nat)(A:Option Addr)(n cap B:Nat)(a b:V)(M:List MO)(w:World)(hB:B≤w.heap.size)(hpb:pb<w.heap.size)(hc:w.cell? ⟨pb,po,none⟩=some (.slice A n cap))(hM:MemR w B A n M)(hb:¬a.obj=0)(y:Int)(he:b=⟨a.obj,y⟩)(hk:a.obj<n)(hl:(mget M a.obj).live=false):
  Calls Tryz.prog 56 #[.pointer (some ⟨pb,po,none⟩),.int .i64 13,.agg #[.int .i64 a.obj,.int .i64 a.n],.agg #[.int .i64 b.obj,.int .i64 b.n]] w fun e w'=>e= .returned (ansV (none))∧Below w.heap.size w w':=by
 subst he;simp only at*;have g97:(((a.obj:Int)==0))=false:=beq_eq_false_iff_ne.2 (by omega);have g98:(((a.obj:Int) !=(a.obj:Int)))=false:=by simp
 obtain⟨mb,mo,rfl,hmb',_,_,_,_,_,c2,_⟩:=hM.get hk;rw[hl]at c2;have hmb:mb<w.heap.size:=by omega
 have hk1:(a.obj:Int)<(n:Int):=by omega
 have hn:=hM.2.1;have hp1:pb<w.heap.size+1:=by omega
 have hp2:pb<w.heap.size+1+1:=by omega
 have hm1:mb<w.heap.size+1:=by omega
 have hm2:mb<w.heap.size+1+1:=by omega
 clear hM hl;go_enter Tryz.func56,Tryz.ntmps56;go_wp2_with fail;go_quiet (fail);go_wp2_with fail;refine bodyPost_ret (v:=ansV (none)) ?_ rfl ⟨rfl,?_⟩
 ·simp[results,Tryz.results56,go_sem,ansV]
 ·exact((below_drewN (below3 _ _ _ _) _).setCell (by show w.heap.size≤w.heap.size+1+1;omega) _).setCell (by show w.heap.size≤w.heap.size+1+1;omega) _
theorem bin_13_live(pb po:Nat)(A:Option Addr)(n cap B:Nat)(a b:V)(M:List MO)(w:World)(hB:B≤w.heap.size)(hpb:pb<w.heap.size)(hc:w.cell? ⟨pb,po,none⟩=some (.slice A n cap))(hM:MemR w B A n M)(hb:¬a.obj=0)(y:Int)(he:b=⟨a.obj,y⟩)(hk:a.obj<n)(hl:(mget M a.obj).live=true)(ia0:-9223372036854775808≤a.n)(ia1:a.n≤9223372036854775807)(ib0:-9223372036854775808≤y)(ib1:y≤9223372036854775807):
  Calls Tryz.prog 56 #[.pointer (some ⟨pb,po,none⟩),.int .i64 13,.agg #[.int .i64 a.obj,.int .i64 a.n],.agg #[.int .i64 b.obj,.int .i64 b.n]] w fun e w'=>e= .returned (ansV (some ⟨0,twoR 13 a.n y⟩))∧Below w.heap.size w w':=by
 subst he;simp only at*;have g99:(((a.obj:Int)==0))=false:=beq_eq_false_iff_ne.2 (by omega);have g100:(((a.obj:Int) !=(a.obj:Int)))=false:=by simp
 obtain⟨mb,mo,rfl,hmb',_,_,_,_,_,c2,_⟩:=hM.get hk;rw[hl]at c2;have hmb:mb<w.heap.size:=by omega
 have hk1:(a.obj:Int)<(n:Int):=by omega
 have hn:=hM.2.1;have hp1:pb<w.heap.size+1:=by omega
 have hp2:pb<w.heap.size+1+1:=by omega
 have hm1:mb<w.heap.size+1:=by omega
 have hm2:mb<w.heap.size+1+1:=by omega
 clear hM hl;go_enter Tryz.func56,Tryz.ntmps56;go_wp2_with(first|(go_at_call 71;refine(refBin_any _ _ _ _ (by decide) (by decide) ia0 ia1 ib0 ib1).mono ?_;rintro e w' ⟨rfl,rfl⟩));go_quiet (fail);go_wp2_with(first|(go_at_call 71;refine(refBin_any _ _ _ _ (by decide) (by decide) ia0 ia1 ib0 ib1).mono ?_;rintro e w' ⟨rfl,rfl⟩));refine bodyPost_ret (v:=ansV (some ⟨0,twoR 13 a.n y⟩)) ?_ rfl ⟨rfl,?_⟩
 ·simp[results,Tryz.results56,go_sem,ansV]
 ·exact((below_drewN (below3 _ _ _ _) _).setCell (by show w.heap.size≤w.heap.size+1+1;omega) _).setCell (by show w.heap.size≤w.heap.size+1+1;omega) _
theorem bin_x_ne(pb po:Nat)(A:Option Addr)(n cap B:Nat)(op:Int)(a b:V)(M:List MO)(w:World)(_hB:B≤w.heap.size)(_hpb:pb<w.heap.size)(_hc:w.cell? ⟨pb,po,none⟩=some (.slice A n cap))(_hM:MemR w B A n M)(op0:¬op=12)(op1:¬op=13)(op2:¬op=25)(op3:¬op=26)(ha:¬a.obj=0)(hb:¬b.obj=0)(he:¬(a.obj:Int)=(b.obj:Int)):
  Calls Tryz.prog 56 #[.pointer (some ⟨pb,po,none⟩),.int .i64 op,.agg #[.int .i64 a.obj,.int .i64 a.n],.agg #[.int .i64 b.obj,.int .i64 b.n]] w fun e w'=>e= .returned (ansV (none))∧Below w.heap.size w w':=by
 have g101:(op==12)=false:=beq_eq_false_iff_ne.2 (by omega);have g102:(op==13)=false:=beq_eq_false_iff_ne.2 (by omega);have g103:(op==25)=false:=beq_eq_false_iff_ne.2 (by omega);have g104:(op==26)=false:=beq_eq_false_iff_ne.2 (by omega);have g105:(op !=13)=true:=by rw[bne_iff_ne];omega
 have g106:(((a.obj:Int)==0))=false:=beq_eq_false_iff_ne.2 (by omega);have g107:(((b.obj:Int)==0))=false:=beq_eq_false_iff_ne.2 (by omega);have g108:(((a.obj:Int) !=(b.obj:Int)))=true:=by rw[bne_iff_ne];omega
 clear _hM _hc;go_enter Tryz.func56,Tryz.ntmps56;go_wp2_with fail;go_quiet (fail);go_wp2_with fail;refine bodyPost_ret (v:=ansV (none)) ?_ rfl ⟨rfl,?_⟩
 ·simp[results,Tryz.results56,go_sem,ansV]
 ·exact((below_drewN (below3 _ _ _ _) _).setCell (by show w.heap.size≤w.heap.size+1+1;omega) _).setCell (by show w.heap.size≤w.heap.size+1+1;omega) _
theorem bin_x_ne0(pb po:Nat)(A:Option Addr)(n cap B:Nat)(op:Int)(a b:V)(M:List MO)(w:World)(_hB:B≤w.heap.size)(_hpb:pb<w.heap.size)(_hc:w.cell? ⟨pb,po,none⟩=some (.slice A n cap))(_hM:MemR w B A n M)(op0:¬op=12)(op1:¬op=13)(op2:¬op=25)(op3:¬op=26)(ha:a.obj=0)(hb:¬b.obj=0)(he:¬(a.obj:Int)=(b.obj:Int)):
  Calls Tryz.prog 56 #[.pointer (some ⟨pb,po,none⟩),.int .i64 op,.agg #[.int .i64 a.obj,.int .i64 a.n],.agg #[.int .i64 b.obj,.int .i64 b.n]] w fun e w'=>e= .returned (ansV (none))∧Below w.heap.size w w':=by
 have g109:(op==12)=false:=beq_eq_false_iff_ne.2 (by omega);have g110:(op==13)=false:=beq_eq_false_iff_ne.2 (by omega);have g111:(op==25)=false:=beq_eq_false_iff_ne.2 (by omega);have g112:(op==26)=false:=beq_eq_false_iff_ne.2 (by omega);have g113:(op !=13)=true:=by rw[bne_iff_ne];omega
 have g114:(((a.obj:Int)==0))=true:=beq_iff_eq.2 (by omega);have g115:(((b.obj:Int)==0))=false:=beq_eq_false_iff_ne.2 (by omega);have g116:(((a.obj:Int) !=(b.obj:Int)))=true:=by rw[bne_iff_ne];omega
 clear _hM _hc ha;go_enter Tryz.func56,Tryz.ntmps56;go_wp2_with fail;go_quiet (fail);go_wp2_with fail;refine bodyPost_ret (v:=ansV (none)) ?_ rfl ⟨rfl,?_⟩
 ·simp[results,Tryz.results56,go_sem,ansV]
 ·exact((below_drewN (below3 _ _ _ _) _).setCell (by show w.heap.size≤w.heap.size+1+1;omega) _).setCell (by show w.heap.size≤w.heap.size+1+1;omega) _
theorem bin_x_ne1(pb po:Nat)(A:Option Addr)(n cap B:Nat)(op:Int)(a b:V)(M:List MO)(w:World)(_hB:B≤w.heap.size)(_hpb:pb<w.heap.size)(_hc:w.cell? ⟨pb,po,none⟩=some (.slice A n cap))(_hM:MemR w B A n M)(op0:¬op=12)(op1:¬op=13)(op2:¬op=25)(op3:¬op=26)(ha:¬a.obj=0)(hb:b.obj=0)(he:¬(a.obj:Int)=(b.obj:Int)):
  Calls Tryz.prog 56 #[.pointer (some ⟨pb,po,none⟩),.int .i64 op,.agg #[.int .i64 a.obj,.int .i64 a.n],.agg #[.int .i64 b.obj,.int .i64 b.n]] w fun e w'=>e= .returned (ansV (none))∧Below w.heap.size w w':=by
 have g117:(op==12)=false:=beq_eq_false_iff_ne.2 (by omega);have g118:(op==13)=false:=beq_eq_false_iff_ne.2 (by omega);have g119:(op==25)=false:=beq_eq_false_iff_ne.2 (by omega);have g120:(op==26)=false:=beq_eq_false_iff_ne.2 (by omega);have g121:(op !=13)=true:=by rw[bne_iff_ne];omega
 have g122:(((a.obj:Int)==0))=false:=beq_eq_false_iff_ne.2 (by omega);have g123:(((b.obj:Int)==0))=true:=beq_iff_eq.2 (by omega);have g124:(((a.obj:Int) !=(b.obj:Int)))=true:=by rw[bne_iff_ne];omega
 clear _hM _hc hb;go_enter Tryz.func56,Tryz.ntmps56;go_wp2_with fail;go_quiet (fail);go_wp2_with fail;refine bodyPost_ret (v:=ansV (none)) ?_ rfl ⟨rfl,?_⟩
 ·simp[results,Tryz.results56,go_sem,ansV]
 ·exact((below_drewN (below3 _ _ _ _) _).setCell (by show w.heap.size≤w.heap.size+1+1;omega) _).setCell (by show w.heap.size≤w.heap.size+1+1;omega) _
theorem bin_x_dead(pb po:Nat)(A:Option Addr)(n cap B:Nat)(op:Int)(a b:V)(M:List MO)(w:World)(hB:B≤w.heap.size)(hpb:pb<w.heap.size)(hc:w.cell? ⟨pb,po,none⟩=some (.slice A n cap))(hM:MemR w B A n M)(op0:¬op=12)(op1:¬op=13)(op2:¬op=25)(op3:¬op=26)(hb:¬a.obj=0)(y:Int)(he:b=⟨a.obj,y⟩)(hk:a.obj<n)(hl:(mget M a.obj).live=false):
  Calls Tryz.prog 56 #[.pointer (some ⟨pb,po,none⟩),.int .i64 op,.agg #[.int .i64 a.obj,.int .i64 a.n],.agg #[.int .i64 b.obj,.int .i64 b.n]] w fun e w'=>e= .returned (ansV (none))∧Below w.heap.size w w':=by
 subst he;simp only at*;have g125:(((a.obj:Int)==0))=false:=beq_eq_false_iff_ne.2 (by omega);have g126:(((a.obj:Int) !=(a.obj:Int)))=false:=by simp
 have g127:(op==12)=false:=beq_eq_false_iff_ne.2 (by omega);have g128:(op==13)=false:=beq_eq_false_iff_ne.2 (by omega);have g129:(op==25)=false:=beq_eq_false_iff_ne.2 (by omega);have g130:(op==26)=false:=beq_eq_false_iff_ne.2 (by omega);have g131:(op !=13)=true:=by rw[bne_iff_ne];omega
 obtain⟨mb,mo,rfl,hmb',_,_,_,_,_,c2,_⟩:=hM.get hk;rw[hl]at c2;have hmb:mb<w.heap.size:=by omega
 have hk1:(a.obj:Int)<(n:Int):=by omega
 have hn:=hM.2.1;have hp1:pb<w.heap.size+1:=by omega
 have hp2:pb<w.heap.size+1+1:=by omega
 have hm1:mb<w.heap.size+1:=by omega
 have hm2:mb<w.heap.size+1+1:=by omega
 clear hM hl;go_enter Tryz.func56,Tryz.ntmps56;go_wp2_with fail;go_quiet (fail);go_wp2_with fail;refine bodyPost_ret (v:=ansV (none)) ?_ rfl ⟨rfl,?_⟩
 ·simp[results,Tryz.results56,go_sem,ansV]
 ·exact((below_drewN (below3 _ _ _ _) _).setCell (by show w.heap.size≤w.heap.size+1+1;omega) _).setCell (by show w.heap.size≤w.heap.size+1+1;omega) _
theorem bin_x_low(pb po:Nat)(A:Option Addr)(n cap B:Nat)(op:Int)(a b:V)(M:List MO)(w:World)(hB:B≤w.heap.size)(hpb:pb<w.heap.size)(hc:w.cell? ⟨pb,po,none⟩=some (.slice A n cap))(hM:MemR w B A n M)(op0:¬op=12)(op1:¬op=13)(op2:¬op=25)(op3:¬op=26)(hb:¬a.obj=0)(y:Int)(he:b=⟨a.obj,y⟩)(hk:a.obj<n)(hl:(mget M a.obj).live=true)(hop:op<27):
  Calls Tryz.prog 56 #[.pointer (some ⟨pb,po,none⟩),.int .i64 op,.agg #[.int .i64 a.obj,.int .i64 a.n],.agg #[.int .i64 b.obj,.int .i64 b.n]] w fun e w'=>e= .returned (ansV (none))∧Below w.heap.size w w':=by
 subst he;simp only at*;have g132:(((a.obj:Int)==0))=false:=beq_eq_false_iff_ne.2 (by omega);have g133:(((a.obj:Int) !=(a.obj:Int)))=false:=by simp
 have g134:(decide (27≤op))=false:=decide_eq_false (by omega);have g135:(op==12)=false:=beq_eq_false_iff_ne.2 (by omega);have g136:(op==13)=false:=beq_eq_false_iff_ne.2 (by omega);have g137:(op==25)=false:=beq_eq_false_iff_ne.2 (by omega);have g138:(op==26)=false:=beq_eq_false_iff_ne.2 (by omega);have g139:(op !=13)=true:=by rw[bne_iff_ne];omega
 obtain⟨mb,mo,rfl,hmb',_,_,_,_,_,c2,_⟩:=hM.get hk;rw[hl]at c2;have hmb:mb<w.heap.size:=by omega
 have hk1:(a.obj:Int)<(n:Int):=by omega
 have hn:=hM.2.1;have hp1:pb<w.heap.size+1:=by omega
 have hp2:pb<w.heap.size+1+1:=by omega
 have hm1:mb<w.heap.size+1:=by omega
 have hm2:mb<w.heap.size+1+1:=by omega
 clear hM hl;go_enter Tryz.func56,Tryz.ntmps56;go_wp2_with fail;go_quiet (fail);go_wp2_with fail;refine bodyPost_ret (v:=ansV (none)) ?_ rfl ⟨rfl,?_⟩
 ·simp[results,Tryz.results56,go_sem,ansV]
 ·exact((below_drewN (below3 _ _ _ _) _).setCell (by show w.heap.size≤w.heap.size+1+1;omega) _).setCell (by show w.heap.size≤w.heap.size+1+1;omega) _
theorem bin_x_high(pb po:Nat)(A:Option Addr)(n cap B:Nat)(op:Int)(a b:V)(M:List MO)(w:World)(hB:B≤w.heap.size)(hpb:pb<w.heap.size)(hc:w.cell? ⟨pb,po,none⟩=some (.slice A n cap))(hM:MemR w B A n M)(op0:¬op=12)(op1:¬op=13)(op2:¬op=25)(op3:¬op=26)(hb:¬a.obj=0)(y:Int)(he:b=⟨a.obj,y⟩)(hk:a.obj<n)(hl:(mget M a.obj).live=true)(hop:27≤op)(hop':30<op):
  Calls Tryz.prog 56 #[.pointer (some ⟨pb,po,none⟩),.int .i64 op,.agg #[.int .i64 a.obj,.int .i64 a.n],.agg #[.int .i64 b.obj,.int .i64 b.n]] w fun e w'=>e= .returned (ansV (none))∧Below w.heap.size w w':=by
 subst he;simp only at*;have g140:(((a.obj:Int)==0))=false:=beq_eq_false_iff_ne.2 (by omega);have g141:(((a.obj:Int) !=(a.obj:Int)))=false:=by simp
 have g142:(decide (27≤op))=true:=decide_eq_true (by omega);have g143:(decide (op≤30))=false:=decide_eq_false (by omega);have g144:(op==12)=false:=beq_eq_false_iff_ne.2 (by omega);have g145:(op==13)=false:=beq_eq_false_iff_ne.2 (by omega);have g146:(op==25)=false:=beq_eq_false_iff_ne.2 (by omega);have g147:(op==26)=false:=beq_eq_false_iff_ne.2 (by omega);have g148:(op !=13)=true:=by rw[bne_iff_ne];omega
 obtain⟨mb,mo,rfl,hmb',_,_,_,_,_,c2,_⟩:=hM.get hk;rw[hl]at c2;have hmb:mb<w.heap.size:=by omega
 have hk1:(a.obj:Int)<(n:Int):=by omega
 have hn:=hM.2.1;have hp1:pb<w.heap.size+1:=by omega
 have hp2:pb<w.heap.size+1+1:=by omega
 have hm1:mb<w.heap.size+1:=by omega
 have hm2:mb<w.heap.size+1+1:=by omega
 clear hM hl;go_enter Tryz.func56,Tryz.ntmps56;go_wp2_with fail;go_quiet (fail);go_wp2_with fail;refine bodyPost_ret (v:=ansV (none)) ?_ rfl ⟨rfl,?_⟩
 ·simp[results,Tryz.results56,go_sem,ansV]
 ·exact((below_drewN (below3 _ _ _ _) _).setCell (by show w.heap.size≤w.heap.size+1+1;omega) _).setCell (by show w.heap.size≤w.heap.size+1+1;omega) _
theorem bin_x_live(pb po:Nat)(A:Option Addr)(n cap B:Nat)(op:Int)(a b:V)(M:List MO)(w:World)(hB:B≤w.heap.size)(hpb:pb<w.heap.size)(hc:w.cell? ⟨pb,po,none⟩=some (.slice A n cap))(hM:MemR w B A n M)(op0:¬op=12)(op1:¬op=13)(op2:¬op=25)(op3:¬op=26)(hop0:12≤op)(hop1:op≤30)(hb:¬a.obj=0)(y:Int)(he:b=⟨a.obj,y⟩)(hk:a.obj<n)(hl:(mget M a.obj).live=true)(hop:27≤op)(ia0:-9223372036854775808≤a.n)(ia1:a.n≤9223372036854775807)(ib0:-9223372036854775808≤y)(ib1:y≤9223372036854775807):
  Calls Tryz.prog 56 #[.pointer (some ⟨pb,po,none⟩),.int .i64 op,.agg #[.int .i64 a.obj,.int .i64 a.n],.agg #[.int .i64 b.obj,.int .i64 b.n]] w fun e w'=>e= .returned (ansV (some ⟨0,twoR op a.n y⟩))∧Below w.heap.size w w':=by
 subst he;simp only at*;have g149:(((a.obj:Int)==0))=false:=beq_eq_false_iff_ne.2 (by omega);have g150:(((a.obj:Int) !=(a.obj:Int)))=false:=by simp
 have g151:(decide (27≤op))=true:=decide_eq_true (by omega);have g152:(decide (op≤30))=true:=decide_eq_true (by omega);have g153:(op==12)=false:=beq_eq_false_iff_ne.2 (by omega);have g154:(op==13)=false:=beq_eq_false_iff_ne.2 (by omega);have g155:(op==25)=false:=beq_eq_false_iff_ne.2 (by omega);have g156:(op==26)=false:=beq_eq_false_iff_ne.2 (by omega);have g157:(op !=13)=true:=by rw[bne_iff_ne];omega
 obtain⟨mb,mo,rfl,hmb',_,_,_,_,_,c2,_⟩:=hM.get hk;rw[hl]at c2;have hmb:mb<w.heap.size:=by omega
 have hk1:(a.obj:Int)<(n:Int):=by omega
 have hn:=hM.2.1;have hp1:pb<w.heap.size+1:=by omega
 have hp2:pb<w.heap.size+1+1:=by omega
 have hm1:mb<w.heap.size+1:=by omega
 have hm2:mb<w.heap.size+1+1:=by omega
 clear hM hl;go_enter Tryz.func56,Tryz.ntmps56;go_wp2_with(first|(go_at_call 71;refine(refBin_any _ _ _ _ hop0 hop1 ia0 ia1 ib0 ib1).mono ?_;rintro e w' ⟨rfl,rfl⟩));go_quiet (fail);go_wp2_with(first|(go_at_call 71;refine(refBin_any _ _ _ _ hop0 hop1 ia0 ia1 ib0 ib1).mono ?_;rintro e w' ⟨rfl,rfl⟩));refine bodyPost_ret (v:=ansV (some ⟨0,twoR op a.n y⟩)) ?_ rfl ⟨rfl,?_⟩
 ·simp[results,Tryz.results56,go_sem,ansV]
 ·exact((below_drewN (below3 _ _ _ _) _).setCell (by show w.heap.size≤w.heap.size+1+1;omega) _).setCell (by show w.heap.size≤w.heap.size+1+1;omega) _
theorem V.same{a b:V}(h:a.obj=b.obj):b=⟨a.obj,b.n⟩:=by cases a;cases b;simp_all
theorem bin_any(pb po:Nat)(A:Option Addr)(n cap B:Nat)(op:Int)(a b:V)(M:List MO)(w:World)(hB:B≤w.heap.size)(hpb:pb<w.heap.size)(hc:w.cell? ⟨pb,po,none⟩=some (.slice A n cap))(hM:MemR w B A n M)(hk:a.obj≠0→a.obj<n)(hk':b.obj≠0→b.obj<n)
  (hx:a.obj≠0→0≤a.n∧a.n≤512)(hy:b.obj≠0→0≤b.n∧b.n≤512)(ia:In64 a.n)(ib:In64 b.n)(hop0:12≤op)(hop1:op≤30):
  Calls Tryz.prog 56 #[.pointer (some ⟨pb,po,none⟩),.int .i64 op,.agg #[.int .i64 a.obj,.int .i64 a.n],.agg #[.int .i64 b.obj,.int .i64 b.n]] w fun e w'=>e= .returned (ansV (binF twoR M op a b))∧Below w.heap.size w w':=by
 obtain⟨ia0,ia1⟩:=ia;obtain⟨ib0,ib1⟩:=ib;unfold binF;by_cases ha:a.obj=0
 ·by_cases hb:b.obj=0
  ·rw[if_pos ⟨ha,hb⟩];exact bin_nums pb po A n cap B op a b M w hB hpb hc hM hop0 hop1 ha hb ia0 ia1 ib0 ib1
  ·obtain⟨hy0,hy1⟩:=hy hb;have hk':=hk' hb;rw[if_neg (by omega)];have hne:¬(a.obj:Int)=(b.obj:Int):=by omega
   by_cases o12:op=12
   ·rw[if_pos ⟨o12,ha⟩];subst o12;cases hm:movedF M b a.n with
    |none=>exact bin_add0n pb po A n cap B a b M w hB hpb hc hM ha hb hk' hy0 hy1 hm
    |some r=>exact bin_add0s pb po A n cap B a b M w hB hpb hc hM ha hb hk' hy0 hy1 r hm
   ·rw[if_neg (by omega),if_neg (by omega),if_neg (by omega)];by_cases o25:op=25∨op=26
    ·rw[if_pos o25];by_cases hz:a.n=0
     ·rw[if_neg (by omega),if_neg (by omega),if_neg (by intro h;exact hne (by rw[h]))];rcases o25 with rfl|rfl
      ·exact bin_eq_z25 pb po A n cap B a b M w hB hpb hc hM ha hb hz hne
      ·exact bin_eq_z26 pb po A n cap B a b M w hB hpb hc hM ha hb hz hne
     ·rw[if_pos (by omega)];rcases o25 with rfl|rfl
      ·exact bin_eq_num25 pb po A n cap B a b M w hB hpb hc hM ha hb hz
      ·exact bin_eq_num26 pb po A n cap B a b M w hB hpb hc hM ha hb hz
    ·rw[if_neg o25,if_pos (by omega)];by_cases o13:op=13
     ·subst o13;exact bin_13_ne0 pb po A n cap B a b M w hB hpb hc hM ha hb hne
     ·exact bin_x_ne0 pb po A n cap B op a b M w hB hpb hc hM o12 o13 (by omega) (by omega) ha hb hne
 ·obtain⟨hx0,hx1⟩:=hx ha;have hk:=hk ha;rw[if_neg (by omega),if_neg (by omega)];by_cases hb:b.obj=0
  ·have hne:¬(a.obj:Int)=(b.obj:Int):=by omega
   by_cases o12:op=12
   ·rw[if_pos ⟨o12,hb⟩];subst o12;cases hm:movedF M a b.n with
    |none=>exact bin_add1n pb po A n cap B a b M w hB hpb hc hM ha hb hk hx0 hx1 hm
    |some r=>exact bin_add1s pb po A n cap B a b M w hB hpb hc hM ha hb hk hx0 hx1 r hm
   ·rw[if_neg (by omega)];by_cases o13:op=13
    ·rw[if_pos ⟨o13,hb⟩];subst o13;by_cases hmn:b.n= -9223372036854775808
     ·rw[if_pos hmn];exact bin_sub_min pb po A n cap B a b M w hB hpb hc hM ha hb hmn
     ·rw[if_neg hmn];cases hm:movedF M a (-b.n)with
      |none=>exact bin_subn pb po A n cap B a b M w hB hpb hc hM ha hb hk hx0 hx1 hmn ib0 ib1 hm
      |some r=>exact bin_subs pb po A n cap B a b M w hB hpb hc hM ha hb hk hx0 hx1 hmn ib0 ib1 r hm
    ·rw[if_neg (by omega)];by_cases o25:op=25∨op=26
     ·rw[if_pos o25];by_cases hz:b.n=0
      ·rw[if_neg (by omega),if_neg (by omega),if_neg (by intro h;exact hne (by rw[h]))];rcases o25 with rfl|rfl
       ·exact bin_eq_z'25 pb po A n cap B a b M w hB hpb hc hM ha hb hz hne
       ·exact bin_eq_z'26 pb po A n cap B a b M w hB hpb hc hM ha hb hz hne
      ·rw[if_pos (by omega)];rcases o25 with rfl|rfl
       ·exact bin_eq_num'25 pb po A n cap B a b M w hB hpb hc hM ha hb hz
       ·exact bin_eq_num'26 pb po A n cap B a b M w hB hpb hc hM ha hb hz
     ·rw[if_neg o25,if_pos (by omega)];exact bin_x_ne1 pb po A n cap B op a b M w hB hpb hc hM o12 o13 (by omega) (by omega) ha hb hne
  ·have hk':=hk' hb;rw[if_neg (by omega),if_neg (by omega)];by_cases o25:op=25∨op=26
   ·rw[if_pos o25,if_neg (by omega)];cases hcmp:cmpF M a b with
    |false=>
     rw[if_pos ⟨by omega,by omega,rfl⟩];rcases o25 with rfl|rfl
     ·exact bin_eq_no25 pb po A n cap B a b M w hB hpb hc hM hk hk' ha hb hcmp
     ·exact bin_eq_no26 pb po A n cap B a b M w hB hpb hc hM hk hk' ha hb hcmp
    |true=>
     rw[if_neg (by simp)];by_cases he:a=b
     ·rw[if_pos he];rcases o25 with rfl|rfl
      ·exact bin_eq_same25 pb po A n cap B a b M w hB hpb hc hM hk hk' ha hb hcmp he
      ·exact bin_eq_same26 pb po A n cap B a b M w hB hpb hc hM hk hk' ha hb hcmp he
     ·rw[if_neg he];by_cases ho:a.obj=b.obj
      ·have hn:¬a.n=b.n:=fun h=>he (by cases a;cases b;simp_all);rcases o25 with rfl|rfl
       ·exact bin_eq_n25 pb po A n cap B a b M w hB hpb hc hM hk hk' ha hb hcmp b.n (V.same ho) hn
       ·exact bin_eq_n26 pb po A n cap B a b M w hB hpb hc hM hk hk' ha hb hcmp b.n (V.same ho) hn
      ·rcases o25 with rfl|rfl
       ·exact bin_eq_obj25 pb po A n cap B a b M w hB hpb hc hM hk hk' ha hb hcmp (by omega)
       ·exact bin_eq_obj26 pb po A n cap B a b M w hB hpb hc hM hk hk' ha hb hcmp (by omega)
   ·rw[if_neg o25];by_cases ho:a.obj=b.obj
    ·cases hl:(mget M a.obj).live with
     |false=>
      rw[if_pos (by simp)];by_cases o12:op=12
      ·subst o12;exact bin_12_dead pb po A n cap B a b M w hB hpb hc hM ha hb b.n (V.same ho) hk hl
      ·by_cases o13:op=13
       ·subst o13;exact bin_13_dead pb po A n cap B a b M w hB hpb hc hM ha b.n (V.same ho) hk hl
       ·exact bin_x_dead pb po A n cap B op a b M w hB hpb hc hM o12 o13 (by omega) (by omega) ha b.n (V.same ho) hk hl
     |true=>
      by_cases o12:op=12
      ·rw[if_pos (by omega)];subst o12;exact bin_12_live pb po A n cap B a b M w hB hpb hc hM ha hb b.n (V.same ho) hk hl
      ·by_cases o13:op=13
       ·rw[if_neg (by simp[ho,o13])];subst o13;exact bin_13_live pb po A n cap B a b M w hB hpb hc hM ha b.n (V.same ho) hk hl ia0 ia1 ib0 ib1
       ·by_cases o27:op<27
        ·rw[if_pos (by omega)];exact bin_x_low pb po A n cap B op a b M w hB hpb hc hM o12 o13 (by omega) (by omega) ha b.n (V.same ho) hk hl o27
        ·rw[if_neg (by simp[ho];omega)];exact bin_x_live pb po A n cap B op a b M w hB hpb hc hM o12 o13 (by omega) (by omega) hop0 hop1 ha b.n (V.same ho) hk hl (by omega) ia0 ia1 ib0 ib1
    ·rw[if_pos (Or.inl ho)];have hne:¬(a.obj:Int)=(b.obj:Int):=by omega
     by_cases o12:op=12
     ·subst o12;exact bin_12_ne pb po A n cap B a b M w hB hpb hc hM ha hb hne
     ·by_cases o13:op=13
      ·subst o13;exact bin_13_ne pb po A n cap B a b M w hB hpb hc hM ha hb hne
      ·exact bin_x_ne pb po A n cap B op a b M w hB hpb hc hM o12 o13 (by omega) (by omega) ha hb hne
end Go.Proofs.YtlenilbkifofjaaGreatDoor
