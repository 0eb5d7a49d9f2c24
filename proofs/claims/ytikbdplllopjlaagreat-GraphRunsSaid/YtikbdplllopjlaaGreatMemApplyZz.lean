/- The page's memory: a number as it is stored; an op of values. Conditions: as stated. -/
import Derived.Test.YtikbdplllopjlaaGreatMemBinZz
set_option linter.unusedVariables false
set_option linter.unusedSimpArgs false
set_option maxHeartbeats 8000000
set_option maxRecDepth 100000
open Go.Proofs.Tryz
namespace Go.Proofs.YtikbdplllopjlaaGreat
open Go.RowKit
def eC(s:Nat)(n:Int):Int:=if s=8 then n else jm (8*s) true n
theorem uP(s:Nat)(n:Int)(w:World)(hs:s=1\/s=2\/s=4\/s=8):
  Calls prog 49 #[.int .i64 s,.int .i64 n] w λe w'=>e= .returned (.int .i64 (eC s n))/\w=w':=by
 rcases hs with rfl|rfl|rfl|rfl
 all_goals
  go_enter func49,ntmps49;go_wp2_with(first
   |(go_at_call 66;refine(uR _ _ _ _ (by decide)).mono ?_;rintro e w' ⟨rfl,rfl⟩))
  go_ret;exact⟨jU (by simp[eC]),rfl⟩
def iJ(M:List MO)(op:Int)(l:List V):Option V:=
 if 5<=op/\op<=11 then nJ M op (l.getD 0 ⟨0,0⟩)
 else if 31<=op/\op<=36 then if(l.getD 0 ⟨0,0⟩).obj=0 then some ⟨0,EH op (l.getD 0 ⟨0,0⟩).n⟩else none
 else gR bO M op (l.getD 0 ⟨0,0⟩) (l.getD 1 ⟨0,0⟩)
theorem fI{B b:Nat}{w w1:World}(h:Below B w w1)(hb:B<=b)(u v:Value):Below B w ((w1.setCell ⟨b,0,none⟩ u).setCell ⟨b,1,none⟩ v):=
 Below.setCell (p:=⟨b,1,none⟩) (Below.setCell (p:=⟨b,0,none⟩) h hb u) hb v
def lY(n:Nat)(v:V):Prop:=v.obj<n/\(v.obj≠0->0<=v.n/\v.n<=512)/\bz v.n
def CJ(n:Nat)(v:V):Prop:=(v.obj≠0->v.obj<n)/\(v.obj≠0->0<=v.n/\v.n<=512)/\bz v.n
theorem MB(pb po lb lo lc:Nat)(A:Option Addr)(n aA B:Nat)(op:Int)(a b:V)(r:Option V)(M:List MO)(w:World)(hB:B<=w.heap.size)(aZ:pb<w.heap.size)(MW:lb<w.heap.size)(hc:w.cell? ⟨pb,po,none⟩=some (.slice A n aA))(hM:cT w B A n M)(ha:CJ n a)(hb:CJ n b)(h0:12<=op)(h1:op<=30)(X8:bg w lb lo a)(hlb':bg w lb (lo+2) b)(hr:gR bO M op a b=r):
  Calls prog 68 #[.pointer (some ⟨pb,po,none⟩),.int .i64 op,.slice (some ⟨lb,lo,none⟩) 2 lc] w λe w'=>e= .returned (aI r)/\Below w.heap.size w w':=by
 obtain⟨l0,l1⟩:=X8;obtain⟨l2,l3⟩:=hlb';have g1:decide (5<=op/\op<=11)=false:=decide_eq_false (by omega);have g2:decide (31<=op/\op<=36)=false:=decide_eq_false (by omega);have HC:=ae (λW(hw:Below w.heap.size w W)=>(hr▸SF pb po A n aA w.heap.size op a b M W hw.size (kL aZ hw.size) (ag hc hw aZ) (hM.below (hw.mono hB) hB) ha.1 hb.1 ha.2.1 hb.2.1 ha.2.2 hb.2.2 h0 h1:Calls prog 91 #[.pointer (some ⟨pb,po,none⟩),.int .i64 op,.agg #[.int .i64 a.obj,.int .i64 a.n],.agg #[.int .i64 b.obj,.int .i64 b.n]] W λe w'=>e= .returned (aI r)/\Below W.heap.size W w'));clear hM hc hr;go_enter func68,ntmps68;go_wp2_with(first
  |(go_at_call 87;refine(uX _ _).mono ?_;rintro e w' ⟨rfl,rfl⟩)
  |(go_at_call 89;refine(AU _ _).mono ?_;rintro e w' ⟨rfl,rfl⟩))
 cases r with
 |none=>
  simp only[aI]at HC ⊢;go_region_with ((go_at_call 91;refine(HC _ ((aj _ _).drew)).mono ?_;rintro e w1 ⟨rfl,hb1⟩;have hz1:w.heap.size+1<=w1.heap.size:=(by have:=hb1.size;simpa using this);obtain⟨hc1,rT⟩:=aY hb1))
  all_goals go_wp2_with fail
  all_goals
   refine aR (v:=aI none) ?_ rfl ⟨rfl,?_⟩
   ·simp[results,results68,go_sem,aI,hc1]
   ·exact fI (((aj _ _).drew.trans (hb1.mono (B':=w.heap.size) (by simp)))) (aN _) _ _
 |some r=>
  simp only[aI]at HC ⊢;go_region_with ((go_at_call 91;refine(HC _ ((aj _ _).drew)).mono ?_;rintro e w1 ⟨rfl,hb1⟩;have hz1:w.heap.size+1<=w1.heap.size:=(by have:=hb1.size;simpa using this);obtain⟨hc1,rT⟩:=aY hb1))
  all_goals go_wp2_with fail
  all_goals
   refine aR (v:=aI (some r)) ?_ rfl ⟨rfl,?_⟩
   ·simp[results,results68,go_sem,aI,hc1]
   ·exact fI (((aj _ _).drew.trans (hb1.mono (B':=w.heap.size) (by simp)))) (aN _) _ _
theorem Jv(pb po lb lo lc:Nat)(A:Option Addr)(n aA B:Nat)(op:Int)(a:V)(r:Option V)(M:List MO)(w:World)(hB:B<=w.heap.size)(aZ:pb<w.heap.size)(MW:lb<w.heap.size)(hc:w.cell? ⟨pb,po,none⟩=some (.slice A n aA))(hM:cT w B A n M)(ha:CJ n a)(h0:5<=op)(h1:op<=11)(X8:bg w lb lo a)(hr:nJ M op a=r):
  Calls prog 68 #[.pointer (some ⟨pb,po,none⟩),.int .i64 op,.slice (some ⟨lb,lo,none⟩) 1 lc] w λe w'=>e= .returned (aI r)/\Below w.heap.size w w':=by
 obtain⟨l0,l1⟩:=X8;have g1:decide (5<=op/\op<=11)=true:=decide_eq_true (by omega);have HC:=ae (λW(hw:Below w.heap.size w W)=>(hr▸NH pb po A n aA w.heap.size op a M W hw.size (kL aZ hw.size) (ag hc hw aZ) (hM.below (hw.mono hB) hB) ha.1 ha.2.1 h0 h1:Calls prog 88 #[.pointer (some ⟨pb,po,none⟩),.int .i64 op,.agg #[.int .i64 a.obj,.int .i64 a.n]] W λe w'=>e= .returned (aI r)/\Below W.heap.size W w'));clear hM hc hr;go_enter func68,ntmps68;go_wp2_with(first
  |(go_at_call 87;refine(uX _ _).mono ?_;rintro e w' ⟨rfl,rfl⟩)
  |(go_at_call 89;refine(AU _ _).mono ?_;rintro e w' ⟨rfl,rfl⟩))
 cases r with
 |none=>
  simp only[aI]at HC ⊢;go_wp2_with((go_at_call 88;refine(HC _ (aj _ _)).mono ?_;rintro e w1 ⟨rfl,hb1⟩;have hz1:w.heap.size+1<=w1.heap.size:=(by have:=hb1.size;simpa using this);obtain⟨hc1,rT⟩:=aY hb1))
  all_goals
   refine aR (v:=aI none) ?_ rfl ⟨rfl,?_⟩
   ·simp[results,results68,go_sem,aI,hc1]
   ·exact fI (((aj _ _).trans (hb1.mono (B':=w.heap.size) (by simp)))) (aN _) _ _
 |some r=>
  simp only[aI]at HC ⊢;go_wp2_with((go_at_call 88;refine(HC _ (aj _ _)).mono ?_;rintro e w1 ⟨rfl,hb1⟩;have hz1:w.heap.size+1<=w1.heap.size:=(by have:=hb1.size;simpa using this);obtain⟨hc1,rT⟩:=aY hb1))
  all_goals
   refine aR (v:=aI (some r)) ?_ rfl ⟨rfl,?_⟩
   ·simp[results,results68,go_sem,aI,hc1]
   ·exact fI (((aj _ _).trans (hb1.mono (B':=w.heap.size) (by simp)))) (aN _) _ _
theorem Pn(p:Option Addr)(lb lo lc:Nat)(op:Int)(a:V)(w:World)(MW:lb<w.heap.size)(h0:31<=op)(h1:op<=36)(X8:bg w lb lo a):
  Calls prog 68 #[.pointer p,.int .i64 op,.slice (some ⟨lb,lo,none⟩) 1 lc] w λe w'=>e= .returned (.tuple #[.agg #[.int .i64 0,.int .i64 (EH op a.n)],.bool ((a.obj:Int)==0)])/\Below w.heap.size w w':=by
 obtain⟨l0,l1⟩:=X8;have g1:decide (5<=op/\op<=11)=false:=decide_eq_false (by omega);have g2:decide (31<=op/\op<=36)=true:=decide_eq_true (by omega);go_enter func68,ntmps68;go_wp2_with(first
  |(go_at_call 87;refine(uX _ _).mono ?_;rintro e w' ⟨rfl,rfl⟩)
  |(go_at_call 89;refine(AU _ _).mono ?_;rintro e w' ⟨rfl,rfl⟩))
 go_region_with ((go_at_call 90;refine(KN _ _ _ h0 h1).mono ?_;rintro e w' ⟨rfl,rfl⟩))
 all_goals go_wp2_with fail
 all_goals
  refine aR (v:= .tuple #[.agg #[.int .i64 0,.int .i64 (EH op a.n)],.bool ((a.obj:Int)==0)]) ?_ rfl ⟨rfl,?_⟩
  ·simp[results,results68,go_sem]
  ·exact(aj _ _).drew
def cH(r:Option V)(e:Ending):Prop:=match r with
 |some v=>e= .returned (aI (some v))
 |none=>∃x y:Int,e= .returned (.tuple #[.agg #[.int .i64 x,.int .i64 y],.bool false])
theorem cH.of{r:Option V}{e:Ending}(h:e= .returned (aI r)):cH r e:=by
 cases r with
 |none=>exact⟨0,0,h⟩
 |some v=>exact h
theorem C7(pb po lb lo lc:Nat)(A:Option Addr)(n aA B:Nat)(op:Int)(l:List V)(M:List MO)(w:World)(hB:B<=w.heap.size)(aZ:pb<w.heap.size)(MW:lb<w.heap.size)(hc:w.cell? ⟨pb,po,none⟩=some (.slice A n aA))(hM:cT w B A n M)
  (hl:∀v,v∈l->CJ n v)(hrow:∀j v,l[j]? =some v->bg w lb (lo+j*2) v)(h0:5<=op)(h1:op<=36)(hlen:l.length=if 12<=op/\op<=30 then 2 else 1):
  Calls prog 68 #[.pointer (some ⟨pb,po,none⟩),.int .i64 op,.slice (some ⟨lb,lo,none⟩) l.length lc] w λe w'=>cH (iJ M op l) e/\Below w.heap.size w w':=by
 unfold iJ;by_cases hb:12<=op/\op<=30
 ·rw[if_pos hb]at hlen
  match l,hlen with
  |[a,b],_=>
   rw[if_neg (by omega),if_neg (by omega)];refine(MB pb po lb lo lc A n aA B op a b _ M w hB aZ MW hc hM (hl a (by simp)) (hl b (by simp)) hb.1 hb.2 (by simpa using hrow 0 a rfl) (by simpa using hrow 1 b rfl) rfl).mono ?_;rintro e w' ⟨he,hw⟩;exact⟨cH.of he,hw⟩
 ·rw[if_neg hb]at hlen
  match l,hlen with
  |[a],_=>
   have ha:=hl a (by simp);have hc0:=hrow 0 a rfl;by_cases hu:31<=op
   ·rw[if_neg (by omega),if_pos ⟨hu,h1⟩];refine(Pn _ lb lo lc op a w MW hu h1 (by simpa using hc0)).mono ?_;rintro e w' ⟨he,hw⟩;refine⟨?_,hw⟩;simp only[List.getD_cons_zero];by_cases hz:a.obj=0
    ·rw[if_pos hz];subst he;simp[cH,aI,hz]
    ·rw[if_neg hz];subst he;exact⟨0,EH op a.n,by simp;omega⟩
   ·rw[if_pos (by omega)];simp only[List.getD_cons_zero];refine(Jv pb po lb lo lc A n aA B op a _ M w hB aZ MW hc hM ha h0 (by omega) (by simpa using hc0) rfl).mono ?_;rintro e w' ⟨he,hw⟩;exact⟨cH.of he,hw⟩
end Go.Proofs.YtikbdplllopjlaaGreat
