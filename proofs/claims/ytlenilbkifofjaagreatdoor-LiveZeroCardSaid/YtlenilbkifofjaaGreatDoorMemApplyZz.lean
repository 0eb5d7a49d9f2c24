/- The page's memory: a number as it is stored; an op of values. Conditions: as stated. -/
import Derived.Test.YtlenilbkifofjaaGreatDoorMemBinZz
import Derived.Handy
set_option linter.unusedVariables false
set_option linter.unusedSimpArgs false
set_option maxHeartbeats 8000000
set_option maxRecDepth 100000
namespace Go.Proofs.YtlenilbkifofjaaGreatDoor
open Go.RowKit
def storedF(s:Nat)(n:Int):Int:=if s=8 then n else cutN (8*s) true n
theorem stored_any(s:Nat)(n:Int)(w:World)(hs:s=1∨s=2∨s=4∨s=8):
  Calls Tryz.prog 36 #[.int .i64 s,.int .i64 n] w fun e w'=>e= .returned (.int .i64 (storedF s n))∧w=w':=by
 rcases hs with rfl|rfl|rfl|rfl
 all_goals
  go_enter Tryz.func36,Tryz.ntmps36;go_wp2_with(first
   |(go_at_call 55;refine(refcut_any _ _ _ _ (by decide)).mono ?_;rintro e w' ⟨rfl,rfl⟩))
  go_ret;exact⟨ret_i (by simp[storedF]),rfl⟩
def applyF(M:List MO)(op:Int)(l:List V):Option V:=
 if 5≤op∧op≤11 then loadF M op (l.getD 0 ⟨0,0⟩)
 else if 31≤op∧op≤36 then if(l.getD 0 ⟨0,0⟩).obj=0 then some ⟨0,unR op (l.getD 0 ⟨0,0⟩).n⟩else none
 else binF twoR M op (l.getD 0 ⟨0,0⟩) (l.getD 1 ⟨0,0⟩)
theorem below_two{B b:Nat}{w w1:World}(h:Below B w w1)(hb:B≤b)(u v:Value):Below B w ((w1.setCell ⟨b,0,none⟩ u).setCell ⟨b,1,none⟩ v):=
 Below.setCell (p:=⟨b,1,none⟩) (Below.setCell (p:=⟨b,0,none⟩) h hb u) hb v
def VOk(n:Nat)(v:V):Prop:=v.obj<n∧(v.obj≠0→0≤v.n∧v.n≤512)∧In64 v.n
def VOkW(n:Nat)(v:V):Prop:=(v.obj≠0→v.obj<n)∧(v.obj≠0→0≤v.n∧v.n≤512)∧In64 v.n
theorem VOk.weak{n:Nat}{v:V}(h:VOk n v):VOkW n v:=⟨fun _=>h.1,h.2⟩
theorem apply_bin(pb po lb lo lc:Nat)(A:Option Addr)(n cap B:Nat)(op:Int)(a b:V)(r:Option V)(M:List MO)(w:World)(hB:B≤w.heap.size)(hpb:pb<w.heap.size)(hlb:lb<w.heap.size)(hc:w.cell? ⟨pb,po,none⟩=some (.slice A n cap))(hM:MemR w B A n M)(ha:VOkW n a)(hb:VOkW n b)(h0:12≤op)(h1:op≤30)(hla:ValCells w lb lo a)(hlb':ValCells w lb (lo+2) b)(hr:binF twoR M op a b=r):
  Calls Tryz.prog 57 #[.pointer (some ⟨pb,po,none⟩),.int .i64 op,.slice (some ⟨lb,lo,none⟩) 2 lc] w fun e w'=>e= .returned (ansV r)∧Below w.heap.size w w':=by
 obtain⟨l0,l1⟩:=hla;obtain⟨l2,l3⟩:=hlb';have g1:decide (5≤op∧op≤11)=false:=decide_eq_false (by omega);have g2:decide (31≤op∧op≤36)=false:=decide_eq_false (by omega);have HC:=Lib.hid (fun W(hw:Below w.heap.size w W)=>(hr▸bin_any pb po A n cap w.heap.size op a b M W hw.size (Nat.lt_of_lt_of_le hpb hw.size) (cell_below hc hw hpb) (hM.below (hw.mono hB) hB) ha.1 hb.1 ha.2.1 hb.2.1 ha.2.2 hb.2.2 h0 h1:Calls Tryz.prog 56 #[.pointer (some ⟨pb,po,none⟩),.int .i64 op,.agg #[.int .i64 a.obj,.int .i64 a.n],.agg #[.int .i64 b.obj,.int .i64 b.n]] W fun e w'=>e= .returned (ansV r)∧Below W.heap.size W w'));clear hM hc hr;go_enter Tryz.func57,Tryz.ntmps57;go_wp2_with(first
  |(go_at_call 62;refine(isLoad_any _ _).mono ?_;rintro e w' ⟨rfl,rfl⟩)
  |(go_at_call 61;refine(isUn_any _ _).mono ?_;rintro e w' ⟨rfl,rfl⟩))
 cases r with
 |none=>
  simp only[ansV]at HC ⊢;go_region_with ((go_at_call 56;refine(HC.out _ ((below1 _ _).drew)).mono ?_;rintro e w1 ⟨rfl,hb1⟩;have hz1:w.heap.size+1≤w1.heap.size:=(by have:=hb1.size;simpa using this);obtain⟨hc1,hf1⟩:=bcell hb1))
  all_goals go_wp2_with fail
  all_goals
   refine bodyPost_ret (v:=ansV none) ?_ rfl ⟨rfl,?_⟩
   ·simp[results,Tryz.results57,go_sem,ansV,hc1]
   ·exact below_two (((below1 _ _).drew.trans (hb1.mono (B':=w.heap.size) (by simp)))) (Nat.le_refl _) _ _
 |some r=>
  simp only[ansV]at HC ⊢;go_region_with ((go_at_call 56;refine(HC.out _ ((below1 _ _).drew)).mono ?_;rintro e w1 ⟨rfl,hb1⟩;have hz1:w.heap.size+1≤w1.heap.size:=(by have:=hb1.size;simpa using this);obtain⟨hc1,hf1⟩:=bcell hb1))
  all_goals go_wp2_with fail
  all_goals
   refine bodyPost_ret (v:=ansV (some r)) ?_ rfl ⟨rfl,?_⟩
   ·simp[results,Tryz.results57,go_sem,ansV,hc1]
   ·exact below_two (((below1 _ _).drew.trans (hb1.mono (B':=w.heap.size) (by simp)))) (Nat.le_refl _) _ _
theorem apply_load(pb po lb lo lc:Nat)(A:Option Addr)(n cap B:Nat)(op:Int)(a:V)(r:Option V)(M:List MO)(w:World)(hB:B≤w.heap.size)(hpb:pb<w.heap.size)(hlb:lb<w.heap.size)(hc:w.cell? ⟨pb,po,none⟩=some (.slice A n cap))(hM:MemR w B A n M)(ha:VOkW n a)(h0:5≤op)(h1:op≤11)(hla:ValCells w lb lo a)(hr:loadF M op a=r):
  Calls Tryz.prog 57 #[.pointer (some ⟨pb,po,none⟩),.int .i64 op,.slice (some ⟨lb,lo,none⟩) 1 lc] w fun e w'=>e= .returned (ansV r)∧Below w.heap.size w w':=by
 obtain⟨l0,l1⟩:=hla;have g1:decide (5≤op∧op≤11)=true:=decide_eq_true (by omega);have HC:=Lib.hid (fun W(hw:Below w.heap.size w W)=>(hr▸load_any pb po A n cap w.heap.size op a M W hw.size (Nat.lt_of_lt_of_le hpb hw.size) (cell_below hc hw hpb) (hM.below (hw.mono hB) hB) ha.1 ha.2.1 h0 h1:Calls Tryz.prog 59 #[.pointer (some ⟨pb,po,none⟩),.int .i64 op,.agg #[.int .i64 a.obj,.int .i64 a.n]] W fun e w'=>e= .returned (ansV r)∧Below W.heap.size W w'));clear hM hc hr;go_enter Tryz.func57,Tryz.ntmps57;go_wp2_with(first
  |(go_at_call 62;refine(isLoad_any _ _).mono ?_;rintro e w' ⟨rfl,rfl⟩)
  |(go_at_call 61;refine(isUn_any _ _).mono ?_;rintro e w' ⟨rfl,rfl⟩))
 cases r with
 |none=>
  simp only[ansV]at HC ⊢;go_wp2_with((go_at_call 59;refine(HC.out _ (below1 _ _)).mono ?_;rintro e w1 ⟨rfl,hb1⟩;have hz1:w.heap.size+1≤w1.heap.size:=(by have:=hb1.size;simpa using this);obtain⟨hc1,hf1⟩:=bcell hb1))
  all_goals
   refine bodyPost_ret (v:=ansV none) ?_ rfl ⟨rfl,?_⟩
   ·simp[results,Tryz.results57,go_sem,ansV,hc1]
   ·exact below_two (((below1 _ _).trans (hb1.mono (B':=w.heap.size) (by simp)))) (Nat.le_refl _) _ _
 |some r=>
  simp only[ansV]at HC ⊢;go_wp2_with((go_at_call 59;refine(HC.out _ (below1 _ _)).mono ?_;rintro e w1 ⟨rfl,hb1⟩;have hz1:w.heap.size+1≤w1.heap.size:=(by have:=hb1.size;simpa using this);obtain⟨hc1,hf1⟩:=bcell hb1))
  all_goals
   refine bodyPost_ret (v:=ansV (some r)) ?_ rfl ⟨rfl,?_⟩
   ·simp[results,Tryz.results57,go_sem,ansV,hc1]
   ·exact below_two (((below1 _ _).trans (hb1.mono (B':=w.heap.size) (by simp)))) (Nat.le_refl _) _ _
theorem apply_un(p:Option Addr)(lb lo lc:Nat)(op:Int)(a:V)(w:World)(hlb:lb<w.heap.size)(h0:31≤op)(h1:op≤36)(hla:ValCells w lb lo a):
  Calls Tryz.prog 57 #[.pointer p,.int .i64 op,.slice (some ⟨lb,lo,none⟩) 1 lc] w fun e w'=>e= .returned (.tuple #[.agg #[.int .i64 0,.int .i64 (unR op a.n)],.bool ((a.obj:Int)==0)])∧Below w.heap.size w w':=by
 obtain⟨l0,l1⟩:=hla;have g1:decide (5≤op∧op≤11)=false:=decide_eq_false (by omega);have g2:decide (31≤op∧op≤36)=true:=decide_eq_true (by omega);go_enter Tryz.func57,Tryz.ntmps57;go_wp2_with(first
  |(go_at_call 62;refine(isLoad_any _ _).mono ?_;rintro e w' ⟨rfl,rfl⟩)
  |(go_at_call 61;refine(isUn_any _ _).mono ?_;rintro e w' ⟨rfl,rfl⟩))
 go_region_with ((go_at_call 75;refine(refUn_any _ _ _ h0 h1).mono ?_;rintro e w' ⟨rfl,rfl⟩))
 all_goals go_wp2_with fail
 all_goals
  refine bodyPost_ret (v:= .tuple #[.agg #[.int .i64 0,.int .i64 (unR op a.n)],.bool ((a.obj:Int)==0)]) ?_ rfl ⟨rfl,?_⟩
  ·simp[results,Tryz.results57,go_sem]
  ·exact(below1 _ _).drew
def AnsV(r:Option V)(e:Ending):Prop:=match r with
 |some v=>e= .returned (ansV (some v))
 |none=>∃x y:Int,e= .returned (.tuple #[.agg #[.int .i64 x,.int .i64 y],.bool false])
theorem AnsV.of{r:Option V}{e:Ending}(h:e= .returned (ansV r)):AnsV r e:=by
 cases r with
 |none=>exact⟨0,0,h⟩
 |some v=>exact h
theorem apply_any(pb po lb lo lc:Nat)(A:Option Addr)(n cap B:Nat)(op:Int)(l:List V)(M:List MO)(w:World)(hB:B≤w.heap.size)(hpb:pb<w.heap.size)(hlb:lb<w.heap.size)(hc:w.cell? ⟨pb,po,none⟩=some (.slice A n cap))(hM:MemR w B A n M)
  (hl:∀v,v∈l→VOkW n v)(hrow:∀j v,l[j]? =some v→ValCells w lb (lo+j*2) v)(h0:5≤op)(h1:op≤36)(hlen:l.length=if 12≤op∧op≤30 then 2 else 1):
  Calls Tryz.prog 57 #[.pointer (some ⟨pb,po,none⟩),.int .i64 op,.slice (some ⟨lb,lo,none⟩) l.length lc] w fun e w'=>AnsV (applyF M op l) e∧Below w.heap.size w w':=by
 unfold applyF;by_cases hb:12≤op∧op≤30
 ·rw[if_pos hb]at hlen
  match l,hlen with
  |[a,b],_=>
   rw[if_neg (by omega),if_neg (by omega)];refine(apply_bin pb po lb lo lc A n cap B op a b _ M w hB hpb hlb hc hM (hl a (by simp)) (hl b (by simp)) hb.1 hb.2 (by simpa using hrow 0 a rfl) (by simpa using hrow 1 b rfl) rfl).mono ?_;rintro e w' ⟨he,hw⟩;exact⟨AnsV.of he,hw⟩
 ·rw[if_neg hb]at hlen
  match l,hlen with
  |[a],_=>
   have ha:=hl a (by simp);have hc0:=hrow 0 a rfl;by_cases hu:31≤op
   ·rw[if_neg (by omega),if_pos ⟨hu,h1⟩];refine(apply_un _ lb lo lc op a w hlb hu h1 (by simpa using hc0)).mono ?_;rintro e w' ⟨he,hw⟩;refine⟨?_,hw⟩;simp only[List.getD_cons_zero];by_cases hz:a.obj=0
    ·rw[if_pos hz];subst he;simp[AnsV,ansV,hz]
    ·rw[if_neg hz];subst he;exact⟨0,unR op a.n,by simp;omega⟩
   ·rw[if_pos (by omega)];simp only[List.getD_cons_zero];refine(apply_load pb po lb lo lc A n cap B op a _ M w hB hpb hlb hc hM ha h0 (by omega) (by simpa using hc0) rfl).mono ?_;rintro e w' ⟨he,hw⟩;exact⟨AnsV.of he,hw⟩
end Go.Proofs.YtlenilbkifofjaaGreatDoor
