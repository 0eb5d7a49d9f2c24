/- The page's memory: a number as it is stored; an op of values. Conditions: as stated. -/
import Derived.Test.YtinmgbodgecoeaaGreatMemBinZz
set_option linter.unusedSimpArgs false
set_option linter.unusedVariables false
set_option maxHeartbeats 8000000
set_option maxRecDepth 100000
open Go.Proofs.Tryz
namespace Go.Proofs.YtinmgbodgecoeaaGreat
open Go.RowKit
def eA(s:Nat)(n:Int):Int:=if s=8 then n else kz (8*s) true n
theorem uF(s:Nat)(n:Int)(w:World)(hs:s=1\/s=2\/s=4\/s=8):
  Calls prog 51 #[.int .i64 s,.int .i64 n] w λe w'=>e= .returned (.int .i64 (eA s n))/\w=w':=by
 rcases hs with rfl|rfl|rfl|rfl
 all_goals
  go_enter func51,ntmps51;go_wp2_with(first
   |(go_at_call 66;refine(uH _ _ _ _ (by decide)).mono ?_;rintro e w' ⟨rfl,rfl⟩))
  go_ret;exact⟨kZ (by simp[eA]),rfl⟩
def pO(M:List MO)(op:Int)(l:List V):Option V:=
 if 5<=op/\op<=11 then gZ M op (l.getD 0 ⟨0,0⟩)
 else if 31<=op/\op<=36 then if(l.getD 0 ⟨0,0⟩).obj=0 then some ⟨0,CN op (l.getD 0 ⟨0,0⟩).n⟩else none
 else dm bF M op (l.getD 0 ⟨0,0⟩) (l.getD 1 ⟨0,0⟩)
theorem tW{B b:Nat}{w w1:World}(h:Below B w w1)(hb:B<=b)(u v:Value):Below B w ((w1.setCell ⟨b,0,none⟩ u).setCell ⟨b,1,none⟩ v):=
 Below.setCell (p:=⟨b,1,none⟩) (Below.setCell (p:=⟨b,0,none⟩) h hb u) hb v
def kW(n:Nat)(v:V):Prop:=v.obj<n/\(v.obj≠0->0<=v.n/\v.n<=512)/\In64 v.n
def rG(n:Nat)(v:V):Prop:=(v.obj≠0->v.obj<n)/\(v.obj≠0->0<=v.n/\v.n<=512)/\In64 v.n
theorem NG(pb po lb lo lc:Nat)(A:Option Addr)(n aA B:Nat)(op:Int)(a b:V)(r:Option V)(M:List MO)(w:World)(hB:B<=w.heap.size)(hpb:pb<w.heap.size)(hlb:lb<w.heap.size)(hc:w.cell? ⟨pb,po,none⟩=some (.slice A n aA))(hM:cK w B A n M)(ha:rG n a)(hb:rG n b)(h0:12<=op)(h1:op<=30)(TH:bJ w lb lo a)(hlb':bJ w lb (lo+2) b)(hr:dm bF M op a b=r):
  Calls prog 68 #[.pointer (some ⟨pb,po,none⟩),.int .i64 op,.slice (some ⟨lb,lo,none⟩) 2 lc] w λe w'=>e= .returned (aO r)/\Below w.heap.size w w':=by
 obtain⟨l0,l1⟩:=TH;obtain⟨l2,l3⟩:=hlb';have g1:decide (5<=op/\op<=11)=false:=decide_eq_false (by omega);have g2:decide (31<=op/\op<=36)=false:=decide_eq_false (by omega);have HC:=ae (λW(hw:Below w.heap.size w W)=>(hr▸wR pb po A n aA w.heap.size op a b M W hw.size (fQ hpb hw.size) (ag hc hw hpb) (hM.below (hw.mono hB) hB) ha.1 hb.1 ha.2.1 hb.2.1 ha.2.2 hb.2.2 h0 h1:Calls prog 67 #[.pointer (some ⟨pb,po,none⟩),.int .i64 op,.agg #[.int .i64 a.obj,.int .i64 a.n],.agg #[.int .i64 b.obj,.int .i64 b.n]] W λe w'=>e= .returned (aO r)/\Below W.heap.size W w'));clear hM hc hr;go_enter func68,ntmps68;go_wp2_with(first
  |(go_at_call 75;refine(rR _ _).mono ?_;rintro e w' ⟨rfl,rfl⟩)
  |(go_at_call 74;refine(vS _ _).mono ?_;rintro e w' ⟨rfl,rfl⟩))
 cases r with
 |none=>
  simp only[aO]at HC ⊢;go_region_with ((go_at_call 67;refine(HC _ ((ax _ _).drew)).mono ?_;rintro e w1 ⟨rfl,hb1⟩;have hz1:w.heap.size+1<=w1.heap.size:=(by have:=hb1.size;simpa using this);obtain⟨hc1,hf1⟩:=bL hb1))
  all_goals go_wp2_with fail
  all_goals
   refine aS (v:=aO none) ?_ rfl ⟨rfl,?_⟩
   ·simp[results,results68,go_sem,aO,hc1]
   ·exact tW (((ax _ _).drew.trans (hb1.mono (B':=w.heap.size) (by simp)))) (aY _) _ _
 |some r=>
  simp only[aO]at HC ⊢;go_region_with ((go_at_call 67;refine(HC _ ((ax _ _).drew)).mono ?_;rintro e w1 ⟨rfl,hb1⟩;have hz1:w.heap.size+1<=w1.heap.size:=(by have:=hb1.size;simpa using this);obtain⟨hc1,hf1⟩:=bL hb1))
  all_goals go_wp2_with fail
  all_goals
   refine aS (v:=aO (some r)) ?_ rfl ⟨rfl,?_⟩
   ·simp[results,results68,go_sem,aO,hc1]
   ·exact tW (((ax _ _).drew.trans (hb1.mono (B':=w.heap.size) (by simp)))) (aY _) _ _
theorem KU(pb po lb lo lc:Nat)(A:Option Addr)(n aA B:Nat)(op:Int)(a:V)(r:Option V)(M:List MO)(w:World)(hB:B<=w.heap.size)(hpb:pb<w.heap.size)(hlb:lb<w.heap.size)(hc:w.cell? ⟨pb,po,none⟩=some (.slice A n aA))(hM:cK w B A n M)(ha:rG n a)(h0:5<=op)(h1:op<=11)(TH:bJ w lb lo a)(hr:gZ M op a=r):
  Calls prog 68 #[.pointer (some ⟨pb,po,none⟩),.int .i64 op,.slice (some ⟨lb,lo,none⟩) 1 lc] w λe w'=>e= .returned (aO r)/\Below w.heap.size w w':=by
 obtain⟨l0,l1⟩:=TH;have g1:decide (5<=op/\op<=11)=true:=decide_eq_true (by omega);have HC:=ae (λW(hw:Below w.heap.size w W)=>(hr▸Gn pb po A n aA w.heap.size op a M W hw.size (fQ hpb hw.size) (ag hc hw hpb) (hM.below (hw.mono hB) hB) ha.1 ha.2.1 h0 h1:Calls prog 70 #[.pointer (some ⟨pb,po,none⟩),.int .i64 op,.agg #[.int .i64 a.obj,.int .i64 a.n]] W λe w'=>e= .returned (aO r)/\Below W.heap.size W w'));clear hM hc hr;go_enter func68,ntmps68;go_wp2_with(first
  |(go_at_call 75;refine(rR _ _).mono ?_;rintro e w' ⟨rfl,rfl⟩)
  |(go_at_call 74;refine(vS _ _).mono ?_;rintro e w' ⟨rfl,rfl⟩))
 cases r with
 |none=>
  simp only[aO]at HC ⊢;go_wp2_with((go_at_call 70;refine(HC _ (ax _ _)).mono ?_;rintro e w1 ⟨rfl,hb1⟩;have hz1:w.heap.size+1<=w1.heap.size:=(by have:=hb1.size;simpa using this);obtain⟨hc1,hf1⟩:=bL hb1))
  all_goals
   refine aS (v:=aO none) ?_ rfl ⟨rfl,?_⟩
   ·simp[results,results68,go_sem,aO,hc1]
   ·exact tW (((ax _ _).trans (hb1.mono (B':=w.heap.size) (by simp)))) (aY _) _ _
 |some r=>
  simp only[aO]at HC ⊢;go_wp2_with((go_at_call 70;refine(HC _ (ax _ _)).mono ?_;rintro e w1 ⟨rfl,hb1⟩;have hz1:w.heap.size+1<=w1.heap.size:=(by have:=hb1.size;simpa using this);obtain⟨hc1,hf1⟩:=bL hb1))
  all_goals
   refine aS (v:=aO (some r)) ?_ rfl ⟨rfl,?_⟩
   ·simp[results,results68,go_sem,aO,hc1]
   ·exact tW (((ax _ _).trans (hb1.mono (B':=w.heap.size) (by simp)))) (aY _) _ _
theorem Qt(p:Option Addr)(lb lo lc:Nat)(op:Int)(a:V)(w:World)(hlb:lb<w.heap.size)(h0:31<=op)(h1:op<=36)(TH:bJ w lb lo a):
  Calls prog 68 #[.pointer p,.int .i64 op,.slice (some ⟨lb,lo,none⟩) 1 lc] w λe w'=>e= .returned (.tuple #[.agg #[.int .i64 0,.int .i64 (CN op a.n)],.bool ((a.obj:Int)==0)])/\Below w.heap.size w w':=by
 obtain⟨l0,l1⟩:=TH;have g1:decide (5<=op/\op<=11)=false:=decide_eq_false (by omega);have g2:decide (31<=op/\op<=36)=true:=decide_eq_true (by omega);go_enter func68,ntmps68;go_wp2_with(first
  |(go_at_call 75;refine(rR _ _).mono ?_;rintro e w' ⟨rfl,rfl⟩)
  |(go_at_call 74;refine(vS _ _).mono ?_;rintro e w' ⟨rfl,rfl⟩))
 go_region_with ((go_at_call 90;refine(Mh _ _ _ h0 h1).mono ?_;rintro e w' ⟨rfl,rfl⟩))
 all_goals go_wp2_with fail
 all_goals
  refine aS (v:= .tuple #[.agg #[.int .i64 0,.int .i64 (CN op a.n)],.bool ((a.obj:Int)==0)]) ?_ rfl ⟨rfl,?_⟩
  ·simp[results,results68,go_sem]
  ·exact(ax _ _).drew
def cN(r:Option V)(e:Ending):Prop:=match r with
 |some v=>e= .returned (aO (some v))
 |none=>∃x y:Int,e= .returned (.tuple #[.agg #[.int .i64 x,.int .i64 y],.bool false])
theorem cN.of{r:Option V}{e:Ending}(h:e= .returned (aO r)):cN r e:=by
 cases r with
 |none=>exact⟨0,0,h⟩
 |some v=>exact h
theorem NH(pb po lb lo lc:Nat)(A:Option Addr)(n aA B:Nat)(op:Int)(l:List V)(M:List MO)(w:World)(hB:B<=w.heap.size)(hpb:pb<w.heap.size)(hlb:lb<w.heap.size)(hc:w.cell? ⟨pb,po,none⟩=some (.slice A n aA))(hM:cK w B A n M)
  (hl:∀v,v∈l->rG n v)(hrow:∀j v,l[j]? =some v->bJ w lb (lo+j*2) v)(h0:5<=op)(h1:op<=36)(hlen:l.length=if 12<=op/\op<=30 then 2 else 1):
  Calls prog 68 #[.pointer (some ⟨pb,po,none⟩),.int .i64 op,.slice (some ⟨lb,lo,none⟩) l.length lc] w λe w'=>cN (pO M op l) e/\Below w.heap.size w w':=by
 unfold pO;by_cases hb:12<=op/\op<=30
 ·rw[if_pos hb]at hlen
  match l,hlen with
  |[a,b],_=>
   rw[if_neg (by omega),if_neg (by omega)];refine(NG pb po lb lo lc A n aA B op a b _ M w hB hpb hlb hc hM (hl a (by simp)) (hl b (by simp)) hb.1 hb.2 (by simpa using hrow 0 a rfl) (by simpa using hrow 1 b rfl) rfl).mono ?_;rintro e w' ⟨he,hw⟩;exact⟨cN.of he,hw⟩
 ·rw[if_neg hb]at hlen
  match l,hlen with
  |[a],_=>
   have ha:=hl a (by simp);have hc0:=hrow 0 a rfl;by_cases hu:31<=op
   ·rw[if_neg (by omega),if_pos ⟨hu,h1⟩];refine(Qt _ lb lo lc op a w hlb hu h1 (by simpa using hc0)).mono ?_;rintro e w' ⟨he,hw⟩;refine⟨?_,hw⟩;simp only[List.getD_cons_zero];by_cases hz:a.obj=0
    ·rw[if_pos hz];subst he;simp[cN,aO,hz]
    ·rw[if_neg hz];subst he;exact⟨0,CN op a.n,by simp;omega⟩
   ·rw[if_pos (by omega)];simp only[List.getD_cons_zero];refine(KU pb po lb lo lc A n aA B op a _ M w hB hpb hlb hc hM ha h0 (by omega) (by simpa using hc0) rfl).mono ?_;rintro e w' ⟨he,hw⟩;exact⟨cN.of he,hw⟩
end Go.Proofs.YtinmgbodgecoeaaGreat
