/- The graph's heap: an op of two. Conditions: as stated. A tree's value in the graph's machine: how the machine is read; leaves. Conditions: as stated. A tree's value in the graph's machine: nodes. Conditions: as stated. A tree's value in the graph's machine: nodes of two kids. Conditions: as stated. A tree's value in the graph's machine is the page's. Conditions: as stated. The graph's heap: objects are made, one by one. Conditions: as stated. The graph's heap: objects are no more. Conditions: as stated. The graph's machine: how a run and a frame lie; trees' values, gathered. Conditions: as stated. The page's machine, in whole: what a run keeps. Plain laws; no program in sight. No condition. The graph's machine: a step: no fuel; stuck trees. Conditions: as stated. The graph's machine: a step: a temporary is set; what comes in is read. Conditions: as stated. -/
import Derived.Test.YtikbdplllopjlaaGreatGBinZz
set_option linter.unusedVariables false
set_option linter.unusedSimpArgs false
set_option maxHeartbeats 8000000
set_option maxRecDepth 100000
open Go.Proofs.Tryz
namespace Go.Proofs.YtikbdplllopjlaaGreat
open Go.RowKit
theorem OQ(hb n aA B:Nat)(op:Int)(a b:V)(A:Option Addr)(M:List MO)(w:World)(hB:B<=w.heap.size)(aZ:hb<w.heap.size)(hc:w.cell? ⟨hb,0,none⟩=some (.slice A n aA))(hM:cB w B A n M)(hka:a.obj≠0->a.obj<M.length/\0<=a.n/\a.n<=512)(hkb:b.obj≠0->b.obj<M.length/\0<=b.n/\b.n<=512)(hib:bz b.n)(h0:12<=op)(h1:op<=30):
  Calls prog 85 #[.pointer (some ⟨hb,0,none⟩),.int .i64 op,.agg #[.int .i64 a.obj,.int .i64 a.n],.agg #[.int .i64 b.obj,.int .i64 b.n]] w λe w'=>cH (gR bO M op a b) e/\Below w.heap.size w w':=by
 have no:∀{x:Int}{w':World}{e:Ending},e= .returned (.tuple #[.agg #[.int .i64 0,.int .i64 x],.bool false])/\Below w.heap.size w w'->cH none e/\Below w.heap.size w w':=λh=>⟨⟨_,_,h.1⟩,h.2⟩
 have yes:∀{x:Int}{w':World}{e:Ending},e= .returned (.tuple #[.agg #[.int .i64 0,.int .i64 x],.bool true])/\Below w.heap.size w w'->cH (some ⟨0,x⟩) e/\Below w.heap.size w w':=λh=>⟨by show _=_;rw[h.1];simp[aI],h.2⟩
 by_cases ha:a.obj=0
 ·by_cases hz:b.obj=0
  ·have e:gR bO M op a b=some ⟨0,bO op a.n b.n⟩:=by unfold gR;rw[if_pos ⟨ha,hz⟩]
   rw[e];exact(M8 hb n aA B op a b A M w hB aZ hc hM hka hkb h0 h1 ha hz).mono λ_ _=>yes
  ·have hab:a≠b:=λh=>hz (h▸ha);by_cases h2:op=12
   ·have e:gR bO M op a b=dD M b a.n:=by unfold gR;rw[if_neg (λh=>hz h.2),if_pos ⟨h2,ha⟩]
    rw[e];exact Kv hb n aA B op a b A M w hB aZ hc hM hka hkb h0 h1 ha hz h2
   ·by_cases h3:op=25\/op=26
    ·by_cases hn:a.n=0
     ·have e:gR bO M op a b=some ⟨0,op-25⟩:=by
       unfold gR;rw[if_neg (λh=>hz h.2),if_neg (λh=>h2 h.1),if_neg (λh=>h2 h.1),if_neg (λh=>hz h.2),if_pos h3,if_neg (λh=>by rcases h with h|h;exact h.2 hn;exact hz h.1),if_neg (λh=>by omega),if_neg hab];rcases h3 with rfl|rfl
       ·rw[eq_25];rfl
       ·rw[E5];rfl
      rw[e];have GM:(a.n==0)=true:=by simpa using hn
      rcases h3 with h3|h3
      ·subst h3;exact(Ak hb n aA B 25 a b A M w hB aZ hc hM hka hkb h0 h1 ha hz rfl GM).mono λ_ _=>yes
      ·subst h3;exact(Aj hb n aA B 26 a b A M w hB aZ hc hM hka hkb h0 h1 ha hz rfl GM).mono λ_ _=>yes
     ·have e:gR bO M op a b=none:=by
       unfold gR;rw[if_neg (λh=>hz h.2),if_neg (λh=>h2 h.1),if_neg (λh=>h2 h.1),if_neg (λh=>hz h.2),if_pos h3,if_pos (aH ⟨ha,hn⟩)]
      rw[e];have GM:(a.n==0)=false:=by simpa using hn
      rcases h3 with h3|h3
      ·subst h3;exact(B0 hb n aA B 25 a b A M w hB aZ hc hM hka hkb h0 h1 ha hz rfl GM).mono λ_ _=>no
      ·subst h3;exact(BZ hb n aA B 26 a b A M w hB aZ hc hM hka hkb h0 h1 ha hz rfl GM).mono λ_ _=>no
    ·have e:gR bO M op a b=none:=by
      unfold gR;rw[if_neg (λh=>hz h.2),if_neg (λh=>h2 h.1),if_neg (λh=>h2 h.1),if_neg (λh=>hz h.2),if_neg h3,if_pos (aH (by omega))]
     rw[e];by_cases h4:op=13
     ·exact(G4 hb n aA B op a b A M w hB aZ hc hM hka hkb h0 h1 ha hz h4).mono λ_ _=>no
     ·exact(M9 hb n aA B op a b A M w hB aZ hc hM hka hkb h0 h1 ha hz (by omega) h4).mono λ_ _=>no
 ·by_cases hz:b.obj=0
  ·have hab:a≠b:=λh=>ha (h▸hz);by_cases h2:op=12
   ·have e:gR bO M op a b=dD M a b.n:=by unfold gR;rw[if_neg (λh=>ha h.1),if_neg (λh=>ha h.2),if_pos ⟨h2,hz⟩]
    rw[e];exact Kw hb n aA B op a b A M w hB aZ hc hM hka hkb h0 h1 ha hz h2
   ·by_cases h4:op=13
    ·have e:gR bO M op a b=if b.n= -9223372036854775808 then none else dD M a (-b.n):=by unfold gR;rw[if_neg (λh=>ha h.1),if_neg (λh=>ha h.2),if_neg (λh=>h2 h.1),if_pos ⟨h4,hz⟩]
     rw[e];by_cases hm:b.n= -9223372036854775808
     ·rw[if_pos hm];have hw:IntKind.i64.wrap (-b.n)=b.n:=by rw[hm];rfl
      exact(EI hb n aA B op a b A M w hB aZ hc hM hka hkb h0 h1 ha hz h4 (by rw[hm];rfl) hw).mono λ_ _=>no
     ·rw[if_neg hm];have hw:IntKind.i64.wrap (-b.n)= -b.n:=IntWalk.i64_in _ (by unfold bz at hib;omega);by_cases hn:b.n=0
      ·exact M7 hb n aA B op a b A M w hB aZ hc hM hka hkb h0 h1 ha hz h4 (by simp[hn]) hw (by simp[hn])
      ·exact Qu hb n aA B op a b A M w hB aZ hc hM hka hkb h0 h1 ha hz h4 hn hw (by simp;omega)
    ·by_cases h3:op=25\/op=26
     ·by_cases hn:b.n=0
      ·have e:gR bO M op a b=some ⟨0,op-25⟩:=by
        unfold gR;rw[if_neg (λh=>ha h.1),if_neg (λh=>ha h.2),if_neg (λh=>h2 h.1),if_neg (λh=>h4 h.1),if_pos h3,if_neg (λh=>by rcases h with h|h;exact ha h.1;exact h.2 hn),if_neg (λh=>by omega),if_neg hab];rcases h3 with rfl|rfl
        ·rw[eq_25];rfl
        ·rw[E5];rfl
       rw[e];have GM:(b.n==0)=true:=by simpa using hn
       rcases h3 with h3|h3
       ·subst h3;exact(Am hb n aA B 25 a b A M w hB aZ hc hM hka hkb h0 h1 ha hz rfl GM).mono λ_ _=>yes
       ·subst h3;exact(Al hb n aA B 26 a b A M w hB aZ hc hM hka hkb h0 h1 ha hz rfl GM).mono λ_ _=>yes
      ·have e:gR bO M op a b=none:=by
        unfold gR;rw[if_neg (λh=>ha h.1),if_neg (λh=>ha h.2),if_neg (λh=>h2 h.1),if_neg (λh=>h4 h.1),if_pos h3,if_pos (aT ⟨hz,hn⟩)]
       rw[e];have GM:(b.n==0)=false:=by simpa using hn
       rcases h3 with h3|h3
       ·subst h3;exact(B3 hb n aA B 25 a b A M w hB aZ hc hM hka hkb h0 h1 ha hz rfl GM).mono λ_ _=>no
       ·subst h3;exact(B2 hb n aA B 26 a b A M w hB aZ hc hM hka hkb h0 h1 ha hz rfl GM).mono λ_ _=>no
     ·have e:gR bO M op a b=none:=by
       unfold gR;rw[if_neg (λh=>ha h.1),if_neg (λh=>ha h.2),if_neg (λh=>h2 h.1),if_neg (λh=>h4 h.1),if_neg h3,if_pos (aH (by omega))]
      rw[e];exact(Na hb n aA B op a b A M w hB aZ hc hM hka hkb h0 h1 ha hz (by omega) h4).mono λ_ _=>no
  ·exact GZ hb n aA B op a b A M w hB aZ hc hM hka hkb h0 h1 ha hz
def zF(ng:Nat):List V:=(List.range ng).map λi=>⟨i+1,0⟩
def sU(lo:List Nat):List V:=lo.map λx=>⟨x,0⟩
def Jz(w:World)(B rb fb:Nat)(M:List MO)(tp:List V)(lo:List Nat)(ng:Nat):Prop:=
 ∃(hb n aA tc lc gc:Nat)(A TA LA GA:Option Addr),w.cell? ⟨rb,4,none⟩=some (.pointer (some ⟨hb,0,none⟩))/\w.cell? ⟨hb,0,none⟩=some (.slice A n aA)/\cB w B A n M/\
  w.cell? ⟨rb,5,none⟩=some (.slice GA ng gc)/\Ed w B GA (zF ng)/\w.cell? ⟨fb,0,none⟩=some (.slice TA tp.length tc)/\Ed w B TA tp/\w.cell? ⟨fb,1,none⟩=some (.slice LA lo.length lc)/\Ed w B LA (sU lo)/\rb<B/\fb<B/\hb<B
theorem Jz.below{w w':World}{B B' rb fb:Nat}{M:List MO}{tp:List V}{lo:List Nat}{ng:Nat}(h:Jz w B rb fb M tp lo ng)(hb:Below B w w')(hB:B<=B'):Jz w' B' rb fb M tp lo ng:=by
 obtain⟨hb',n,aA,tc,lc,gc,A,TA,LA,GA,h1,h2,h3,h4,h5,h6,h7,h8,h9,h10,h11,h12⟩:=h;exact⟨hb',n,aA,tc,lc,gc,A,TA,LA,GA,ag h1 hb h10,ag h2 hb h12,h3.below hb hB,ag h4 hb h10,h5.below hb hB,ag h6 hb h11,h7.below hb hB,ag h8 hb h11,h9.below hb hB,by omega,by omega,by omega⟩
theorem LJ{ng k:Nat}(h:k<ng):(zF ng)[k]? =some ⟨k+1,0⟩:=by simp[zF,h]
theorem Fa{lo:List Nat}{k:Nat}(h:k<lo.length):(sU lo)[k]? =some ⟨lo.getD k 0,0⟩:=by simp[sU,h,List.getD]
theorem NM(rb fb:Nat)(x:Int)(v2:Value)(A:Option Addr)(n c:Nat)(w:World)(hv:v2= .slice A n c):
  Calls prog 65 #[.pointer (some ⟨rb,0,none⟩),.pointer (some ⟨fb,0,none⟩),.agg #[.int .i64 1,.int .i64 x,v2]] w λe w'=>cH (some ⟨0,x⟩) e/\Below w.heap.size w w':=by
 subst hv;go_enter func65,ntmps65;refine ak λQ HQ=>?_;go_wp2_with fail;refine HQ _ _ _ ?_;refine aR (v:= .tuple #[.agg #[.int .i64 0,.int .i64 x],.bool true]) (by simp[results,results65,go_sem]) rfl ⟨by simp[cH,aI],?_⟩;exact aJ _ _ _
theorem NJ(rb fb b off m cp k:Nat)(v:V)(v2:Value)(A:Option Addr)(n c:Nat)(w:World)(hv:v2= .slice A n c)(hc:w.cell? ⟨fb,0,none⟩=some (.slice (some ⟨b,off,none⟩) m cp))(hcell:bg w b (off+k*2) v)(hk:k<m)(hr:fb<w.heap.size)(hb:b<w.heap.size)(hm:m<=1000000):
  Calls prog 65 #[.pointer (some ⟨rb,0,none⟩),.pointer (some ⟨fb,0,none⟩),.agg #[.int .i64 2,.int .i64 (k:Int),v2]] w λe w'=>cH (some v) e/\Below w.heap.size w w':=by
 subst hv;obtain⟨c0,c1⟩:=hcell;have hz1:fb<w.heap.size+1:=by omega
 have hz2:b<w.heap.size+1:=by omega
 have iZ:(0:Int)<=(k:Int):=by omega
 have bA:(k:Int)<(m:Int):=by omega
 go_enter func65,ntmps65;refine ak λQ HQ=>?_;go_wp2_with fail;go_region_held3 (λw'=>w'.cell? ⟨fb,0,none⟩=some (.slice (some ⟨b,off,none⟩) m cp)/\w'.cell? ⟨b,off+k*2,none⟩=some (.int .i64 v.obj)/\w'.cell? ⟨b,off+k*2+1,none⟩=some (.int .i64 v.n)/\w'.cell? ⟨w.heap.size,1,none⟩=some (.int .i64 (k:Int))) (go_keep) (fail);go_wp2_with fail;refine HQ _ _ _ ?_;refine aR (v:= .tuple #[.agg #[.int .i64 v.obj,.int .i64 v.n],.bool true]) (by simp[results,results65,go_sem]) rfl ⟨by simp[cH,aI],?_⟩;exact(aJ _ _ _).drew
theorem NK(rb fb b off m cp k:Nat)(v:V)(v2:Value)(A:Option Addr)(n c:Nat)(w:World)(hv:v2= .slice A n c)(hc:w.cell? ⟨fb,1,none⟩=some (.slice (some ⟨b,off,none⟩) m cp))(hcell:bg w b (off+k*2) v)(hk:k<m)(hr:fb<w.heap.size)(hb:b<w.heap.size)(hm:m<=1000000):
  Calls prog 65 #[.pointer (some ⟨rb,0,none⟩),.pointer (some ⟨fb,0,none⟩),.agg #[.int .i64 3,.int .i64 (k:Int),v2]] w λe w'=>cH (some v) e/\Below w.heap.size w w':=by
 subst hv;obtain⟨c0,c1⟩:=hcell;have hz1:fb<w.heap.size+1:=by omega
 have hz2:b<w.heap.size+1:=by omega
 have iZ:(0:Int)<=(k:Int):=by omega
 have bA:(k:Int)<(m:Int):=by omega
 go_enter func65,ntmps65;refine ak λQ HQ=>?_;go_wp2_with fail;go_region_held3 (λw'=>w'.cell? ⟨fb,1,none⟩=some (.slice (some ⟨b,off,none⟩) m cp)/\w'.cell? ⟨b,off+k*2,none⟩=some (.int .i64 v.obj)/\w'.cell? ⟨b,off+k*2+1,none⟩=some (.int .i64 v.n)/\w'.cell? ⟨w.heap.size,1,none⟩=some (.int .i64 (k:Int))) (go_keep) (fail);go_wp2_with fail;refine HQ _ _ _ ?_;refine aR (v:= .tuple #[.agg #[.int .i64 v.obj,.int .i64 v.n],.bool true]) (by simp[results,results65,go_sem]) rfl ⟨by simp[cH,aI],?_⟩;exact(aJ _ _ _).drew
theorem NL(rb fb b off m cp k:Nat)(v:V)(v2:Value)(A:Option Addr)(n c:Nat)(w:World)(hv:v2= .slice A n c)(hc:w.cell? ⟨rb,5,none⟩=some (.slice (some ⟨b,off,none⟩) m cp))(hcell:bg w b (off+k*2) v)(hk:k<m)(hr:rb<w.heap.size)(hb:b<w.heap.size)(hm:m<=1000000):
  Calls prog 65 #[.pointer (some ⟨rb,0,none⟩),.pointer (some ⟨fb,0,none⟩),.agg #[.int .i64 4,.int .i64 (k:Int),v2]] w λe w'=>cH (some v) e/\Below w.heap.size w w':=by
 subst hv;obtain⟨c0,c1⟩:=hcell;have hz1:rb<w.heap.size+1:=by omega
 have hz2:b<w.heap.size+1:=by omega
 have iZ:(0:Int)<=(k:Int):=by omega
 have bA:(k:Int)<(m:Int):=by omega
 go_enter func65,ntmps65;refine ak λQ HQ=>?_;go_wp2_with fail;go_region_held3 (λw'=>w'.cell? ⟨rb,5,none⟩=some (.slice (some ⟨b,off,none⟩) m cp)/\w'.cell? ⟨b,off+k*2,none⟩=some (.int .i64 v.obj)/\w'.cell? ⟨b,off+k*2+1,none⟩=some (.int .i64 v.n)/\w'.cell? ⟨w.heap.size,1,none⟩=some (.int .i64 (k:Int))) (go_keep) (fail);go_wp2_with fail;refine HQ _ _ _ ?_;refine aR (v:= .tuple #[.agg #[.int .i64 v.obj,.int .i64 v.n],.bool true]) (by simp[results,results65,go_sem]) rfl ⟨by simp[cH,aI],?_⟩;exact(aJ _ _ _).drew
theorem sD(op:Int)(w:World):
  Calls prog 81 #[.int .i64 op] w λe w'=>e= .returned (.bool (decide (5<=op/\op<=11)))/\w=w':=by
 go_enter func81,ntmps81;go_wp2
 all_goals go_ret
 ·exact⟨eO (by simp[*]),rfl⟩
 ·exact⟨eO (by simp;omega),rfl⟩
theorem yh(op:Int)(w:World):
  Calls prog 83 #[.int .i64 op] w λe w'=>e= .returned (.bool (decide (31<=op/\op<=36)))/\w=w':=by
 go_enter func83,ntmps83;go_wp2
 all_goals go_ret
 ·exact⟨eO (by simp[*]),rfl⟩
 ·exact⟨eO (by simp;omega),rfl⟩
structure CK (w W:World) (op x:Int) (A:Option Addr) (n c:Nat):Prop where
 r0:Row W w.heap.size #[.int .i64 op,.int .i64 x,.slice A n c] 90
 r1:Row W (w.heap.size+1) #[.int .i64 0,.int .i64 0] 72
 below:Below w.heap.size w W
theorem CK.mk'(w:World)(op x:Int)(A:Option Addr)(n c:Nat):CK w ((w.alloc (.cells #[.int .i64 op,.int .i64 x,.slice A n c] 90)).alloc (.cells #[.int .i64 0,.int .i64 0] 72)) op x A n c:=
 ⟨(Row.new _ _ _).alloc _,Row.new' _ _ (by simp),aJ _ _ _⟩
theorem CK.grow{w W W':World}{op x:Int}{A:Option Addr}{n c:Nat}(h:CK w W op x A n c)(hb:Below W.heap.size W W'):CK w W' op x A n c:=
 ⟨h.r0.below hb h.r0.lt,h.r1.below hb h.r1.lt,h.below.trans (hb.mono h.below.size)⟩
theorem CT(rb fb kb ko n c:Nat)(op x:Int)(a0 a1:Int)(A1:Option Addr)(n1 c1:Nat)(w:World)(h5:5<=op)(hk:kb<w.heap.size)(hn:1<=n)(iD:n<=9223372036854775807)
  (g0:w.cell? ⟨kb,ko,none⟩=some (.int .i64 a0))(g1:w.cell? ⟨kb,ko+1,none⟩=some (.int .i64 a1))(g2:w.cell? ⟨kb,ko+2,none⟩=some (.slice A1 n1 c1))
  (xh:∀W,Below w.heap.size w W->Calls prog 65 #[.pointer (some ⟨rb,0,none⟩),.pointer (some ⟨fb,0,none⟩),.agg #[.int .i64 a0,.int .i64 a1,.slice A1 n1 c1]] W λe w'=>cH none e/\Below W.heap.size W w'):
  Calls prog 65 #[.pointer (some ⟨rb,0,none⟩),.pointer (some ⟨fb,0,none⟩),.agg #[.int .i64 op,.int .i64 x,.slice (some ⟨kb,ko,none⟩) n c]] w λe w'=>cH none e/\Below w.heap.size w w':=by
 have HK:=ae xh;have H3:=ae (CK.mk' w op x (some ⟨kb,ko,none⟩) n c);have e1:(op==1)=false:=by simp;omega
 have e2:(op==2)=false:=by simp;omega
 have e3:(op==3)=false:=by simp;omega
 have e4:(op==4)=false:=by simp;omega
 have hz1:kb<w.heap.size+1:=by omega
 have UG:(0:Int)<(n:Int):=by omega
 clear xh;go_enter func65,ntmps65;refine ak λQ HQ=>?_;go_wp2_with fail;refine(HK _ H3.below).mono ?_;rintro e w1 ⟨⟨y0,y1,rfl⟩,hb1⟩;have H4:=ae (H3.grow hb1);have r0:=H4.r1.cell (j:=0) rfl;have r1:=H4.r1.cell (j:=1) rfl;have f0:=H4.r1.free 0;have f1:=H4.r1.free 1;have hlt:=H4.r1.lt;clear hb1 g0 g1 g2;go_wp2_with fail;refine HQ _ _ _ ?_;refine aR (v:= .tuple #[.agg #[.int .i64 y0,.int .i64 y1],.bool false]) (by simp[results,results65,go_sem,r0,r1,hlt]) rfl ⟨⟨y0,y1,rfl⟩,?_⟩;exact((H4.below.setCell (by first|(simp;done)|(simp;omega)) _).setCell (by first|(simp;done)|(simp;omega)) _).alloc (by have:=H4.below.size;first|(simp;done)|(simp;omega)) _
theorem KZ(rb fb hb kb ko n c:Nat)(op x:Int)(a0 a1:Int)(A1:Option Addr)(n1 c1:Nat)(v:V)(sv:Option V)(w:World)(h5:5<=op)(h11:op<=11)(hk:kb<w.heap.size)(hn:1<=n)(iD:n<=9223372036854775807)
  (g0:w.cell? ⟨kb,ko,none⟩=some (.int .i64 a0))(g1:w.cell? ⟨kb,ko+1,none⟩=some (.int .i64 a1))(g2:w.cell? ⟨kb,ko+2,none⟩=some (.slice A1 n1 c1))(rK:rb<w.heap.size)(hh:w.cell? ⟨rb,4,none⟩=some (.pointer (some ⟨hb,0,none⟩)))
  (xh:∀W,Below w.heap.size w W->Calls prog 65 #[.pointer (some ⟨rb,0,none⟩),.pointer (some ⟨fb,0,none⟩),.agg #[.int .i64 a0,.int .i64 a1,.slice A1 n1 c1]] W λe w'=>cH (some v) e/\Below W.heap.size W w')
  (hop:∀W,Below w.heap.size w W->Calls prog 82 #[.pointer (some ⟨hb,0,none⟩),.int .i64 op,.agg #[.int .i64 v.obj,.int .i64 v.n]] W λe w'=>cH sv e/\Below W.heap.size W w'):
  Calls prog 65 #[.pointer (some ⟨rb,0,none⟩),.pointer (some ⟨fb,0,none⟩),.agg #[.int .i64 op,.int .i64 x,.slice (some ⟨kb,ko,none⟩) n c]] w λe w'=>cH sv e/\Below w.heap.size w w':=by
 have HK:=ae xh;have Zm:=ae hop;have HH:=ae hh;have H3:=ae (CK.mk' w op x (some ⟨kb,ko,none⟩) n c);have e1:(op==1)=false:=by simp;omega
 have e2:(op==2)=false:=by simp;omega
 have e3:(op==3)=false:=by simp;omega
 have e4:(op==4)=false:=by simp;omega
 have hz1:kb<w.heap.size+1:=by omega
 have UG:(0:Int)<(n:Int):=by omega
 have UZ:decide (5<=op/\op<=11)=true:=by simp;omega
 clear xh hop hh;go_enter func65,ntmps65;refine ak λQ HQ=>?_;go_wp2_with fail;refine(HK _ H3.below).mono ?_;rintro e w1 ⟨he,hb1⟩;simp only[cH,aI]at he;subst he;have H4:=ae ((H3.grow hb1).grow (aj w1 (.cells #[.int .i64 v.obj,.int .i64 v.n] 72)));have JA:=ae (Row.new w1 #[.int .i64 v.obj,.int .i64 v.n] 72);have t0:=(H3.grow hb1).r0.cell (j:=0) rfl;have UK:=(H3.grow hb1).r0.lt;have Lk:=(H3.grow hb1).r1.lt;clear hb1 g0 g1 g2;go_wp2_with fail;refine(sD _ _).mono ?_;rintro e w' ⟨rfl,rfl⟩;rw[UZ];go_wp2_with fail;have hx:∀e,cH sv e->∃(y0 y1:Int)(q:Bool),e= .returned (.tuple #[.agg #[.int .i64 y0,.int .i64 y1],.bool q])/\cH sv (.returned (.tuple #[.agg #[.int .i64 y0,.int .i64 y1],.bool q])):=by
  intro e he;cases sv with
  |none=>obtain⟨y0,y1,rfl⟩:=he;exact⟨y0,y1,false,rfl,⟨y0,y1,rfl⟩⟩
  |some u=>simp only[cH,aI]at he;exact⟨u.obj,u.n,true,he,by simp[cH,aI]⟩
 have HX:=ae hx;clear hx;have hp0:w.heap.size+1<(w1.alloc (.cells #[.int .i64 v.obj,.int .i64 v.n] 72)).heap.size:=H4.r1.lt;have N3:rb<(w1.alloc (.cells #[.int .i64 v.obj,.int .i64 v.n] 72)).heap.size:=by have:=H4.below.size;omega
 have Fg:w1.heap.size<(w1.alloc (.cells #[.int .i64 v.obj,.int .i64 v.n] 72)).heap.size:=by simp
 have NY:w.heap.size<(w1.alloc (.cells #[.int .i64 v.obj,.int .i64 v.n] 72)).heap.size:=H4.r0.lt;have Zt:=ae (ag HH.out H4.below rK);have KS:=ae (λ(W:World)(aG:Below (w1.alloc (.cells #[.int .i64 v.obj,.int .i64 v.n] 72)).heap.size (w1.alloc (.cells #[.int .i64 v.obj,.int .i64 v.n] 72)) W)=>(⟨ag Zt.out aG N3,ag (H4.r0.cell (j:=0) rfl) aG NY,ag (JA.cell (j:=0) rfl) aG Fg,ag (JA.cell (j:=1) rfl) aG Fg⟩:W.cell? ⟨rb,4,none⟩=some (.pointer (some ⟨hb,0,none⟩))/\W.cell? ⟨w.heap.size,0,none⟩=some (.int .i64 op)/\W.cell? ⟨w1.heap.size,0,none⟩=some (.int .i64 v.obj)/\W.cell? ⟨w1.heap.size,1,none⟩=some (.int .i64 v.n)))
 have TQ:=ae (λ(W:World)(y0 y1:Value)(aG:Below (w1.alloc (.cells #[.int .i64 v.obj,.int .i64 v.n] 72)).heap.size (w1.alloc (.cells #[.int .i64 v.obj,.int .i64 v.n] 72)) W)=>(by
  obtain⟨k1,k2,k3,k4⟩:=KS.out W aG;have hsz:=aG.size;have qU:∀b j,b<W.heap.size->b≠w.heap.size+1->((W.setCell ⟨w.heap.size+1,0,none⟩ y0).setCell ⟨w.heap.size+1,1,none⟩ y1).cell? ⟨b,j,none⟩=W.cell? ⟨b,j,none⟩:=λb j hlt Yx=>World.cell?_of_block (a:=⟨b,j,none⟩) ((eB W (w.heap.size+1) 0 1 y0 y1).block b hlt Yx)
  exact⟨(qU _ _ (by omega) (by omega)).trans k1,(qU _ _ (by omega) (by omega)).trans k2,(qU _ _ (by omega) (by omega)).trans k3,(qU _ _ (by omega) (by omega)).trans k4⟩:((W.setCell ⟨w.heap.size+1,0,none⟩ y0).setCell ⟨w.heap.size+1,1,none⟩ y1).cell? ⟨rb,4,none⟩=some (.pointer (some ⟨hb,0,none⟩))/\((W.setCell ⟨w.heap.size+1,0,none⟩ y0).setCell ⟨w.heap.size+1,1,none⟩ y1).cell? ⟨w.heap.size,0,none⟩=some (.int .i64 op)/\((W.setCell ⟨w.heap.size+1,0,none⟩ y0).setCell ⟨w.heap.size+1,1,none⟩ y1).cell? ⟨w1.heap.size,0,none⟩=some (.int .i64 v.obj)/\((W.setCell ⟨w.heap.size+1,0,none⟩ y0).setCell ⟨w.heap.size+1,1,none⟩ y1).cell? ⟨w1.heap.size,1,none⟩=some (.int .i64 v.n)))
 go_region_held3 (λw'=>w'.cell? ⟨rb,4,none⟩=some (.pointer (some ⟨hb,0,none⟩))/\w'.cell? ⟨w.heap.size,0,none⟩=some (.int .i64 op)/\w'.cell? ⟨w1.heap.size,0,none⟩=some (.int .i64 v.obj)/\w'.cell? ⟨w1.heap.size,1,none⟩=some (.int .i64 v.n)) (first|exact KS.out _ (bI _ _).drew|exact KS.out _ ((bI _ _).drew.trans hb2)|exact TQ.out _ _ _ ((bI _ _).drew.trans hb2)|go_keep) ((go_at_call 82;refine(Zm _ H4.below.drew).mono ?_;rintro e w2 ⟨he,hb2⟩;obtain⟨y0,y1,q,rfl,pX⟩:=HX _ he;have PL:=ae pX;have Ez:=H4.r1.below ((bI _ _).drew.trans hb2) H4.r1.lt;have r0:=Ez.cell (j:=0) rfl;have r1:=Ez.cell (j:=1) rfl;have f0:=Ez.free 0;have f1:=Ez.free 1;clear he pX));have gB:=ae (H4.below.trans (((bI _ _).drew.trans hb2).mono H4.below.size))
 clear hb2;go_wp2_with fail;refine HQ _ _ _ ?_;refine aR (v:= .tuple #[.agg #[.int .i64 y0,.int .i64 y1],.bool q]) (by simp[results,results65,go_sem,r0,r1]) rfl ⟨PL.out,?_⟩;exact(gB.setCell (by first|(simp;done)|(simp;omega)) _).setCell (by first|(simp;done)|(simp;omega)) _
theorem QJ(rb fb hb kb ko n c:Nat)(op x:Int)(a0 a1:Int)(A1:Option Addr)(n1 c1:Nat)(v:V)(sv:Option V)(w:World)(h5:31<=op)(h11:op<=36)(hk:kb<w.heap.size)(hn:1<=n)(iD:n<=9223372036854775807)
  (g0:w.cell? ⟨kb,ko,none⟩=some (.int .i64 a0))(g1:w.cell? ⟨kb,ko+1,none⟩=some (.int .i64 a1))(g2:w.cell? ⟨kb,ko+2,none⟩=some (.slice A1 n1 c1))(rK:rb<w.heap.size)(hh:w.cell? ⟨rb,4,none⟩=some (.pointer (some ⟨hb,0,none⟩)))
  (xh:∀W,Below w.heap.size w W->Calls prog 65 #[.pointer (some ⟨rb,0,none⟩),.pointer (some ⟨fb,0,none⟩),.agg #[.int .i64 a0,.int .i64 a1,.slice A1 n1 c1]] W λe w'=>cH (some v) e/\Below W.heap.size W w')
  (hop:∀W,Below w.heap.size w W->Calls prog 84 #[.pointer (some ⟨hb,0,none⟩),.int .i64 op,.agg #[.int .i64 v.obj,.int .i64 v.n]] W λe w'=>cH sv e/\Below W.heap.size W w'):
  Calls prog 65 #[.pointer (some ⟨rb,0,none⟩),.pointer (some ⟨fb,0,none⟩),.agg #[.int .i64 op,.int .i64 x,.slice (some ⟨kb,ko,none⟩) n c]] w λe w'=>cH sv e/\Below w.heap.size w w':=by
 have HK:=ae xh;have Zm:=ae hop;have HH:=ae hh;have H3:=ae (CK.mk' w op x (some ⟨kb,ko,none⟩) n c);have e1:(op==1)=false:=by simp;omega
 have e2:(op==2)=false:=by simp;omega
 have e3:(op==3)=false:=by simp;omega
 have e4:(op==4)=false:=by simp;omega
 have hz1:kb<w.heap.size+1:=by omega
 have UG:(0:Int)<(n:Int):=by omega
 have UZ:decide (5<=op/\op<=11)=false:=by simp;omega
 have Yq:decide (31<=op/\op<=36)=true:=by simp;omega
 clear xh hop hh;go_enter func65,ntmps65;refine ak λQ HQ=>?_;go_wp2_with fail;refine(HK _ H3.below).mono ?_;rintro e w1 ⟨he,hb1⟩;simp only[cH,aI]at he;subst he;have H4:=ae ((H3.grow hb1).grow (aj w1 (.cells #[.int .i64 v.obj,.int .i64 v.n] 72)));have JA:=ae (Row.new w1 #[.int .i64 v.obj,.int .i64 v.n] 72);have t0:=(H3.grow hb1).r0.cell (j:=0) rfl;have UK:=(H3.grow hb1).r0.lt;have Lk:=(H3.grow hb1).r1.lt;clear hb1 g0 g1 g2;go_wp2_with fail;refine(sD _ _).mono ?_;rintro e w' ⟨rfl,rfl⟩;rw[UZ];go_wp2_with fail;refine(yh _ _).mono ?_;rintro e w' ⟨rfl,rfl⟩;rw[Yq];go_wp2_with fail
 have hx:∀e,cH sv e->∃(y0 y1:Int)(q:Bool),e= .returned (.tuple #[.agg #[.int .i64 y0,.int .i64 y1],.bool q])/\cH sv (.returned (.tuple #[.agg #[.int .i64 y0,.int .i64 y1],.bool q])):=by
  intro e he;cases sv with
  |none=>obtain⟨y0,y1,rfl⟩:=he;exact⟨y0,y1,false,rfl,⟨y0,y1,rfl⟩⟩
  |some u=>simp only[cH,aI]at he;exact⟨u.obj,u.n,true,he,by simp[cH,aI]⟩
 have HX:=ae hx;clear hx;have hp0:w.heap.size+1<(w1.alloc (.cells #[.int .i64 v.obj,.int .i64 v.n] 72)).heap.size:=H4.r1.lt;have N3:rb<(w1.alloc (.cells #[.int .i64 v.obj,.int .i64 v.n] 72)).heap.size:=by have:=H4.below.size;omega
 have Fg:w1.heap.size<(w1.alloc (.cells #[.int .i64 v.obj,.int .i64 v.n] 72)).heap.size:=by simp
 have NY:w.heap.size<(w1.alloc (.cells #[.int .i64 v.obj,.int .i64 v.n] 72)).heap.size:=H4.r0.lt;have Zt:=ae (ag HH.out H4.below rK);have KS:=ae (λ(W:World)(aG:Below (w1.alloc (.cells #[.int .i64 v.obj,.int .i64 v.n] 72)).heap.size (w1.alloc (.cells #[.int .i64 v.obj,.int .i64 v.n] 72)) W)=>(⟨ag Zt.out aG N3,ag (H4.r0.cell (j:=0) rfl) aG NY,ag (JA.cell (j:=0) rfl) aG Fg,ag (JA.cell (j:=1) rfl) aG Fg⟩:W.cell? ⟨rb,4,none⟩=some (.pointer (some ⟨hb,0,none⟩))/\W.cell? ⟨w.heap.size,0,none⟩=some (.int .i64 op)/\W.cell? ⟨w1.heap.size,0,none⟩=some (.int .i64 v.obj)/\W.cell? ⟨w1.heap.size,1,none⟩=some (.int .i64 v.n)))
 have TQ:=ae (λ(W:World)(y0 y1:Value)(aG:Below (w1.alloc (.cells #[.int .i64 v.obj,.int .i64 v.n] 72)).heap.size (w1.alloc (.cells #[.int .i64 v.obj,.int .i64 v.n] 72)) W)=>(by
  obtain⟨k1,k2,k3,k4⟩:=KS.out W aG;have hsz:=aG.size;have qU:∀b j,b<W.heap.size->b≠w.heap.size+1->((W.setCell ⟨w.heap.size+1,0,none⟩ y0).setCell ⟨w.heap.size+1,1,none⟩ y1).cell? ⟨b,j,none⟩=W.cell? ⟨b,j,none⟩:=λb j hlt Yx=>World.cell?_of_block (a:=⟨b,j,none⟩) ((eB W (w.heap.size+1) 0 1 y0 y1).block b hlt Yx)
  exact⟨(qU _ _ (by omega) (by omega)).trans k1,(qU _ _ (by omega) (by omega)).trans k2,(qU _ _ (by omega) (by omega)).trans k3,(qU _ _ (by omega) (by omega)).trans k4⟩:((W.setCell ⟨w.heap.size+1,0,none⟩ y0).setCell ⟨w.heap.size+1,1,none⟩ y1).cell? ⟨rb,4,none⟩=some (.pointer (some ⟨hb,0,none⟩))/\((W.setCell ⟨w.heap.size+1,0,none⟩ y0).setCell ⟨w.heap.size+1,1,none⟩ y1).cell? ⟨w.heap.size,0,none⟩=some (.int .i64 op)/\((W.setCell ⟨w.heap.size+1,0,none⟩ y0).setCell ⟨w.heap.size+1,1,none⟩ y1).cell? ⟨w1.heap.size,0,none⟩=some (.int .i64 v.obj)/\((W.setCell ⟨w.heap.size+1,0,none⟩ y0).setCell ⟨w.heap.size+1,1,none⟩ y1).cell? ⟨w1.heap.size,1,none⟩=some (.int .i64 v.n)))
 go_region_held3 (λw'=>w'.cell? ⟨rb,4,none⟩=some (.pointer (some ⟨hb,0,none⟩))/\w'.cell? ⟨w.heap.size,0,none⟩=some (.int .i64 op)/\w'.cell? ⟨w1.heap.size,0,none⟩=some (.int .i64 v.obj)/\w'.cell? ⟨w1.heap.size,1,none⟩=some (.int .i64 v.n)) (first|exact KS.out _ (bI _ _).drew|exact KS.out _ ((bI _ _).drew.trans hb2)|exact TQ.out _ _ _ ((bI _ _).drew.trans hb2)|go_keep) ((go_at_call 84;refine(Zm _ H4.below.drew).mono ?_;rintro e w2 ⟨he,hb2⟩;obtain⟨y0,y1,q,rfl,pX⟩:=HX _ he;have PL:=ae pX;have Ez:=H4.r1.below ((bI _ _).drew.trans hb2) H4.r1.lt;have r0:=Ez.cell (j:=0) rfl;have r1:=Ez.cell (j:=1) rfl;have f0:=Ez.free 0;have f1:=Ez.free 1;clear he pX));have gB:=ae (H4.below.trans (((bI _ _).drew.trans hb2).mono H4.below.size))
 clear hb2;go_wp2_with fail;refine HQ _ _ _ ?_;refine aR (v:= .tuple #[.agg #[.int .i64 y0,.int .i64 y1],.bool q]) (by simp[results,results65,go_sem,r0,r1]) rfl ⟨PL.out,?_⟩;exact(gB.setCell (by first|(simp;done)|(simp;omega)) _).setCell (by first|(simp;done)|(simp;omega)) _
theorem B6(rb fb hb kb ko n c:Nat)(op x:Int)(a0 a1:Int)(A1:Option Addr)(n1 c1:Nat)(b0 b1:Int)(B1:Option Addr)(m1 d1:Nat)(v:V)(w:World)(h5:12<=op)(h11:op<=30)(hk:kb<w.heap.size)(hn:2<=n)(iD:n<=9223372036854775807)
  (g0:w.cell? ⟨kb,ko,none⟩=some (.int .i64 a0))(g1:w.cell? ⟨kb,ko+1,none⟩=some (.int .i64 a1))(g2:w.cell? ⟨kb,ko+2,none⟩=some (.slice A1 n1 c1))
  (g3:w.cell? ⟨kb,ko+3,none⟩=some (.int .i64 b0))(g4:w.cell? ⟨kb,ko+3+1,none⟩=some (.int .i64 b1))(g5:w.cell? ⟨kb,ko+3+2,none⟩=some (.slice B1 m1 d1))(rK:rb<w.heap.size)(hh:w.cell? ⟨rb,4,none⟩=some (.pointer (some ⟨hb,0,none⟩)))
  (xh:∀W,Below w.heap.size w W->Calls prog 65 #[.pointer (some ⟨rb,0,none⟩),.pointer (some ⟨fb,0,none⟩),.agg #[.int .i64 a0,.int .i64 a1,.slice A1 n1 c1]] W λe w'=>cH (some v) e/\Below W.heap.size W w')
  (Fs:∀W,Below w.heap.size w W->Calls prog 65 #[.pointer (some ⟨rb,0,none⟩),.pointer (some ⟨fb,0,none⟩),.agg #[.int .i64 b0,.int .i64 b1,.slice B1 m1 d1]] W λe w'=>cH (none) e/\Below W.heap.size W w'):
  Calls prog 65 #[.pointer (some ⟨rb,0,none⟩),.pointer (some ⟨fb,0,none⟩),.agg #[.int .i64 op,.int .i64 x,.slice (some ⟨kb,ko,none⟩) n c]] w λe w'=>cH none e/\Below w.heap.size w w':=by
 have HK:=ae xh;have og:=ae Fs;have HH:=ae hh;have H3:=ae (CK.mk' w op x (some ⟨kb,ko,none⟩) n c);have WJ:=ae g3;have HG4:=ae g4;have HG5:=ae g5;have e1:(op==1)=false:=by simp;omega
 have e2:(op==2)=false:=by simp;omega
 have e3:(op==3)=false:=by simp;omega
 have e4:(op==4)=false:=by simp;omega
 have hz1:kb<w.heap.size+1:=by omega
 have UG:(0:Int)<(n:Int):=by omega
 have hn4:(1:Int)<(n:Int):=by omega
 have UZ:decide (5<=op/\op<=11)=false:=by simp;omega
 have Yq:decide (31<=op/\op<=36)=false:=by simp;omega
 clear xh Fs hh g3 g4 g5;go_enter func65,ntmps65;refine ak λQ HQ=>?_;go_wp2_with fail;refine(HK _ H3.below).mono ?_;rintro e w1 ⟨he,hb1⟩;simp only[cH,aI]at he;subst he;have H4:=ae ((H3.grow hb1).grow (aj w1 (.cells #[.int .i64 v.obj,.int .i64 v.n] 72)));have JA:=ae (Row.new w1 #[.int .i64 v.obj,.int .i64 v.n] 72);have t0:=(H3.grow hb1).r0.cell (j:=0) rfl;have t2:=(H3.grow hb1).r0.cell (j:=2) rfl;have UK:=(H3.grow hb1).r0.lt;have Lk:=(H3.grow hb1).r1.lt;have k3:=ag WJ (H3.grow hb1).below hk;have k4:=ag HG4 (H3.grow hb1).below hk;have k5:=ag HG5 (H3.grow hb1).below hk;have hkw:kb<w1.heap.size:=by omega
 clear hb1 g0 g1 g2;go_wp2_with fail;refine(sD _ _).mono ?_;rintro e w' ⟨rfl,rfl⟩;rw[UZ];go_wp2_with fail;refine(yh _ _).mono ?_;rintro e w' ⟨rfl,rfl⟩;rw[Yq];go_wp2_with fail;refine(og _ H4.below).mono ?_;rintro e w2 ⟨⟨y0,y1,rfl⟩,hb2⟩;have H6:=ae (H4.grow hb2);have r0:=H6.r1.cell (j:=0) rfl;have r1:=H6.r1.cell (j:=1) rfl;have f0:=H6.r1.free 0;have f1:=H6.r1.free 1;have hlt:=H6.r1.lt;clear hb2 t0 t2 k3 k4 k5;go_wp2_with fail;refine HQ _ _ _ ?_;refine aR (v:= .tuple #[.agg #[.int .i64 y0,.int .i64 y1],.bool false]) (by simp[results,results65,go_sem,r0,r1,hlt]) rfl ⟨⟨y0,y1,rfl⟩,?_⟩;exact((H6.below.setCell (by first|(simp;done)|(simp;omega)) _).setCell (by first|(simp;done)|(simp;omega)) _).alloc (by have:=H6.below.size;first|(simp;done)|(simp;omega)) _
theorem Nx(rb fb hb kb ko n c:Nat)(op x:Int)(a0 a1:Int)(A1:Option Addr)(n1 c1:Nat)(b0 b1:Int)(B1:Option Addr)(m1 d1:Nat)(v:V)(u:V)(sv:Option V)(w:World)(h5:12<=op)(h11:op<=30)(hk:kb<w.heap.size)(hn:2<=n)(iD:n<=9223372036854775807)
  (g0:w.cell? ⟨kb,ko,none⟩=some (.int .i64 a0))(g1:w.cell? ⟨kb,ko+1,none⟩=some (.int .i64 a1))(g2:w.cell? ⟨kb,ko+2,none⟩=some (.slice A1 n1 c1))
  (g3:w.cell? ⟨kb,ko+3,none⟩=some (.int .i64 b0))(g4:w.cell? ⟨kb,ko+3+1,none⟩=some (.int .i64 b1))(g5:w.cell? ⟨kb,ko+3+2,none⟩=some (.slice B1 m1 d1))(rK:rb<w.heap.size)(hh:w.cell? ⟨rb,4,none⟩=some (.pointer (some ⟨hb,0,none⟩)))
  (xh:∀W,Below w.heap.size w W->Calls prog 65 #[.pointer (some ⟨rb,0,none⟩),.pointer (some ⟨fb,0,none⟩),.agg #[.int .i64 a0,.int .i64 a1,.slice A1 n1 c1]] W λe w'=>cH (some v) e/\Below W.heap.size W w')
  (Fs:∀W,Below w.heap.size w W->Calls prog 65 #[.pointer (some ⟨rb,0,none⟩),.pointer (some ⟨fb,0,none⟩),.agg #[.int .i64 b0,.int .i64 b1,.slice B1 m1 d1]] W λe w'=>cH (some u) e/\Below W.heap.size W w')
  (hop:∀W,Below w.heap.size w W->Calls prog 85 #[.pointer (some ⟨hb,0,none⟩),.int .i64 op,.agg #[.int .i64 v.obj,.int .i64 v.n],.agg #[.int .i64 u.obj,.int .i64 u.n]] W λe w'=>cH sv e/\Below W.heap.size W w'):
  Calls prog 65 #[.pointer (some ⟨rb,0,none⟩),.pointer (some ⟨fb,0,none⟩),.agg #[.int .i64 op,.int .i64 x,.slice (some ⟨kb,ko,none⟩) n c]] w λe w'=>cH sv e/\Below w.heap.size w w':=by
 have Zm:=ae hop;clear hop;have HK:=ae xh;have og:=ae Fs;have HH:=ae hh;have H3:=ae (CK.mk' w op x (some ⟨kb,ko,none⟩) n c);have WJ:=ae g3;have HG4:=ae g4;have HG5:=ae g5;have e1:(op==1)=false:=by simp;omega
 have e2:(op==2)=false:=by simp;omega
 have e3:(op==3)=false:=by simp;omega
 have e4:(op==4)=false:=by simp;omega
 have hz1:kb<w.heap.size+1:=by omega
 have UG:(0:Int)<(n:Int):=by omega
 have hn4:(1:Int)<(n:Int):=by omega
 have UZ:decide (5<=op/\op<=11)=false:=by simp;omega
 have Yq:decide (31<=op/\op<=36)=false:=by simp;omega
 clear xh Fs hh g3 g4 g5;go_enter func65,ntmps65;refine ak λQ HQ=>?_;go_wp2_with fail;refine(HK _ H3.below).mono ?_;rintro e w1 ⟨he,hb1⟩;simp only[cH,aI]at he;subst he;have H4:=ae ((H3.grow hb1).grow (aj w1 (.cells #[.int .i64 v.obj,.int .i64 v.n] 72)));have JA:=ae (Row.new w1 #[.int .i64 v.obj,.int .i64 v.n] 72);have t0:=(H3.grow hb1).r0.cell (j:=0) rfl;have t2:=(H3.grow hb1).r0.cell (j:=2) rfl;have UK:=(H3.grow hb1).r0.lt;have Lk:=(H3.grow hb1).r1.lt;have k3:=ag WJ (H3.grow hb1).below hk;have k4:=ag HG4 (H3.grow hb1).below hk;have k5:=ag HG5 (H3.grow hb1).below hk;have hkw:kb<w1.heap.size:=by omega
 clear hb1 g0 g1 g2;go_wp2_with fail;refine(sD _ _).mono ?_;rintro e w' ⟨rfl,rfl⟩;rw[UZ];go_wp2_with fail;refine(yh _ _).mono ?_;rintro e w' ⟨rfl,rfl⟩;rw[Yq];go_wp2_with fail;refine(og _ H4.below).mono ?_;rintro e w2 ⟨he,hb2⟩;simp only[cH,aI]at he;subst he;have SR:=ae ((JA.below hb2 JA.lt).alloc (.cells #[.int .i64 u.obj,.int .i64 u.n] 72));have VP:=ae (Row.new w2 #[.int .i64 u.obj,.int .i64 u.n] 72);have H6:=ae ((H4.grow hb2).grow (aj w2 (.cells #[.int .i64 u.obj,.int .i64 u.n] 72)));have s0:=(H4.grow hb2).r0.cell (j:=0) rfl;have s1:=(JA.below hb2 JA.lt).cell (j:=0) rfl;have s2:=(JA.below hb2 JA.lt).cell (j:=1) rfl;have mA:=(H4.grow hb2).r0.lt;have xe:=(H4.grow hb2).r1.lt;have UJ:=(JA.below hb2 JA.lt).lt;clear hb2 t0 t2 k3 k4 k5
 go_wp2_with fail;have hx:∀e,cH sv e->∃(y0 y1:Int)(q:Bool),e= .returned (.tuple #[.agg #[.int .i64 y0,.int .i64 y1],.bool q])/\cH sv (.returned (.tuple #[.agg #[.int .i64 y0,.int .i64 y1],.bool q])):=by
  intro e he;cases sv with
  |none=>obtain⟨y0,y1,rfl⟩:=he;exact⟨y0,y1,false,rfl,⟨y0,y1,rfl⟩⟩
  |some u=>simp only[cH,aI]at he;exact⟨u.obj,u.n,true,he,by simp[cH,aI]⟩
 have HX:=ae hx;clear hx s0 s1 s2;have hp0:w.heap.size+1<(w2.alloc (.cells #[.int .i64 u.obj,.int .i64 u.n] 72)).heap.size:=H6.r1.lt;have N3:rb<(w2.alloc (.cells #[.int .i64 u.obj,.int .i64 u.n] 72)).heap.size:=by have:=H6.below.size;omega
 have Fg:w1.heap.size<(w2.alloc (.cells #[.int .i64 u.obj,.int .i64 u.n] 72)).heap.size:=SR.lt;have XE:w2.heap.size<(w2.alloc (.cells #[.int .i64 u.obj,.int .i64 u.n] 72)).heap.size:=VP.lt;have NY:w.heap.size<(w2.alloc (.cells #[.int .i64 u.obj,.int .i64 u.n] 72)).heap.size:=H6.r0.lt;have Zt:=ae (ag HH.out H6.below rK)
 have KS:=ae (λ(W:World)(aG:Below (w2.alloc (.cells #[.int .i64 u.obj,.int .i64 u.n] 72)).heap.size (w2.alloc (.cells #[.int .i64 u.obj,.int .i64 u.n] 72)) W)=>(⟨ag Zt.out aG N3,ag (H6.r0.cell (j:=0) rfl) aG NY,ag (SR.cell (j:=0) rfl) aG Fg,ag (SR.cell (j:=1) rfl) aG Fg,ag (VP.cell (j:=0) rfl) aG XE,ag (VP.cell (j:=1) rfl) aG XE⟩:W.cell? ⟨rb,4,none⟩=some (.pointer (some ⟨hb,0,none⟩))/\W.cell? ⟨w.heap.size,0,none⟩=some (.int .i64 op)/\W.cell? ⟨w1.heap.size,0,none⟩=some (.int .i64 v.obj)/\W.cell? ⟨w1.heap.size,1,none⟩=some (.int .i64 v.n)/\W.cell? ⟨w2.heap.size,0,none⟩=some (.int .i64 u.obj)/\W.cell? ⟨w2.heap.size,1,none⟩=some (.int .i64 u.n)))
 have TQ:=ae (λ(W:World)(y0 y1:Value)(aG:Below (w2.alloc (.cells #[.int .i64 u.obj,.int .i64 u.n] 72)).heap.size (w2.alloc (.cells #[.int .i64 u.obj,.int .i64 u.n] 72)) W)=>(by
  obtain⟨k1,k2,k3,k4,k5,k6⟩:=KS.out W aG;have hsz:=aG.size;have qU:∀b j,b<W.heap.size->b≠w.heap.size+1->((W.setCell ⟨w.heap.size+1,0,none⟩ y0).setCell ⟨w.heap.size+1,1,none⟩ y1).cell? ⟨b,j,none⟩=W.cell? ⟨b,j,none⟩:=λb j hlt Yx=>World.cell?_of_block (a:=⟨b,j,none⟩) ((eB W (w.heap.size+1) 0 1 y0 y1).block b hlt Yx)
  exact⟨(qU _ _ (by omega) (by omega)).trans k1,(qU _ _ (by omega) (by omega)).trans k2,(qU _ _ (by omega) (by omega)).trans k3,(qU _ _ (by omega) (by omega)).trans k4,(qU _ _ (by omega) (by omega)).trans k5,(qU _ _ (by omega) (by omega)).trans k6⟩:((W.setCell ⟨w.heap.size+1,0,none⟩ y0).setCell ⟨w.heap.size+1,1,none⟩ y1).cell? ⟨rb,4,none⟩=some (.pointer (some ⟨hb,0,none⟩))/\((W.setCell ⟨w.heap.size+1,0,none⟩ y0).setCell ⟨w.heap.size+1,1,none⟩ y1).cell? ⟨w.heap.size,0,none⟩=some (.int .i64 op)/\((W.setCell ⟨w.heap.size+1,0,none⟩ y0).setCell ⟨w.heap.size+1,1,none⟩ y1).cell? ⟨w1.heap.size,0,none⟩=some (.int .i64 v.obj)/\((W.setCell ⟨w.heap.size+1,0,none⟩ y0).setCell ⟨w.heap.size+1,1,none⟩ y1).cell? ⟨w1.heap.size,1,none⟩=some (.int .i64 v.n)/\((W.setCell ⟨w.heap.size+1,0,none⟩ y0).setCell ⟨w.heap.size+1,1,none⟩ y1).cell? ⟨w2.heap.size,0,none⟩=some (.int .i64 u.obj)/\((W.setCell ⟨w.heap.size+1,0,none⟩ y0).setCell ⟨w.heap.size+1,1,none⟩ y1).cell? ⟨w2.heap.size,1,none⟩=some (.int .i64 u.n)))
 go_region_held3 (λw'=>w'.cell? ⟨rb,4,none⟩=some (.pointer (some ⟨hb,0,none⟩))/\w'.cell? ⟨w.heap.size,0,none⟩=some (.int .i64 op)/\w'.cell? ⟨w1.heap.size,0,none⟩=some (.int .i64 v.obj)/\w'.cell? ⟨w1.heap.size,1,none⟩=some (.int .i64 v.n)/\w'.cell? ⟨w2.heap.size,0,none⟩=some (.int .i64 u.obj)/\w'.cell? ⟨w2.heap.size,1,none⟩=some (.int .i64 u.n)) (first|exact KS.out _ (bI _ _).drew|exact KS.out _ ((bI _ _).drew.trans hb3)|exact TQ.out _ _ _ ((bI _ _).drew.trans hb3)|go_keep) ((go_at_call 85;refine(Zm _ H6.below.drew).mono ?_;rintro e w3 ⟨he,hb3⟩;obtain⟨y0,y1,q,rfl,pX⟩:=HX _ he;have PL:=ae pX;have Ez:=H6.r1.below ((bI _ _).drew.trans hb3) H6.r1.lt;have r0:=Ez.cell (j:=0) rfl;have r1:=Ez.cell (j:=1) rfl;have f0:=Ez.free 0;have f1:=Ez.free 1;clear he pX))
 have gB:=ae (H6.below.trans (((bI _ _).drew.trans hb3).mono H6.below.size));clear hb3;go_wp2_with fail;refine HQ _ _ _ ?_;refine aR (v:= .tuple #[.agg #[.int .i64 y0,.int .i64 y1],.bool q]) (by simp[results,results65,go_sem,r0,r1]) rfl ⟨PL.out,?_⟩;exact(gB.setCell (by first|(simp;done)|(simp;omega)) _).setCell (by first|(simp;done)|(simp;omega)) _
def YW(m:Nat):Prop:=∀(t:T)(B rb fb:Nat)(M:List MO)(tp:List V)(lo:List Nat)(ng:Nat)(w:World)(v0 v1 v2:Value),t.size<=m->B<=w.heap.size->Jz w B rb fb M tp lo ng->b9 M->fP M->dW M tp lo ng->C8 tp.length lo.length ng t->
  tp.length<=1000000->lo.length<=1000000->ng<=1000000->aX w (dP B) t v0 v1 v2->
  Calls prog 65 #[.pointer (some ⟨rb,0,none⟩),.pointer (some ⟨fb,0,none⟩),.agg #[v0,v1,v2]] w λe w'=>cH (bZ M tp lo t) e/\Below w.heap.size w w'
theorem aX.Ti{w:World}{C:Nat->Nat->Prop}{t:T}{v0 v1 v2:Value}(h:aX w C t v0 v1 v2):∃A n c,v0= .int .i64 t.op/\v1= .int .i64 t.n/\v2= .slice A n c:=by
 cases t with
 |node op n ks=>
  rw[aX]at h;obtain⟨h0,h1,_,_,_,A,c,h2,_⟩:=h;exact⟨A,_,c,h0,h1,h2⟩
theorem I0(M:List MO)(tp:List V)(lo:List Nat)(op x:Int)(ks:List T):bZ M tp lo (.node op x ks)=(aD M tp lo ks).bind (rI M tp lo op x):=by rw[bZ]
theorem Jz.row{w:World}{B rb fb:Nat}{M:List MO}{tp:List V}{lo:List Nat}{ng:Nat}(h:Jz w B rb fb M tp lo ng):rb<B/\fb<B/\∃hb n aA A,w.cell? ⟨rb,4,none⟩=some (.pointer (some ⟨hb,0,none⟩))/\w.cell? ⟨hb,0,none⟩=some (.slice A n aA)/\cB w B A n M/\hb<B:=by
 obtain⟨hb',n,aA,tc,lc,gc,A,TA,LA,GA,h1,h2,h3,h4,h5,h6,h7,h8,h9,h10,h11,h12⟩:=h;exact⟨h10,h11,hb',n,aA,A,h1,h2,h3,h12⟩
theorem Kz(m:Nat):YW m:=by
 induction m with
 |zero=>intro t _ _ _ _ _ _ _ _ _ _ _ hm;have:=t.size_pos;omega
 |succ m ih=>
  rintro⟨op,x,ks⟩ B rb fb M tp lo ng w v0 v1 v2 hm hB hR DF hNo hF gu Q2 Ws ht3 hv;have gZ:=aX.KH _ hv;obtain⟨A,aA,len,rfl,rfl,UE,Lf,rfl,hk⟩:=bC.gI hv;simp only[T.size]at hm;rw[Pr]at gZ;have hok':=gu;rw[C8]at gu;obtain⟨t1,t2,t3,t4,t5,t6,t7⟩:=gu;have qg:=hk.1;obtain⟨rK,x8,hb,n,Ck,HA,q1,q2,q3,hhb⟩:=hR.row;rw[I0];have kid:∀i k,ks[i]? =some k->∃b off A1 n1 c1,A=some ⟨b,off,none⟩/\b<B/\w.cell? ⟨b,off+i*3,none⟩=some (.int .i64 k.op)/\w.cell? ⟨b,off+i*3+1,none⟩=some (.int .i64 k.n)/\w.cell? ⟨b,off+i*3+2,none⟩=some (.slice A1 n1 c1)/\
    (∀W,Below w.heap.size w W->Calls prog 65 #[.pointer (some ⟨rb,0,none⟩),.pointer (some ⟨fb,0,none⟩),.agg #[.int .i64 k.op,.int .i64 k.n,.slice A1 n1 c1]] W λe w'=>cH (bZ M tp lo k) e/\Below W.heap.size W w')/\
    (∀r,bZ M tp lo k=some r->lY M.length r):=by
   intro i k hi;have x7:i<ks.length:=by
    rcases Nat.lt_or_ge i ks.length with h|h
    ·exact h
    ·rw[List.getElem?_eq_none h]at hi;cases hi
   obtain⟨b,off,k',u0,u1,u2,hA,TG,bA,c0,c1,c2,UM⟩:=hk.get (k:=i) (by omega);rw[hi]at bA;obtain rfl:=Option.some.inj bA;obtain⟨A1,n1,d1,rfl,rfl,rfl⟩:=UM.Ti;have hsz:=T.dC hi;exact⟨b,off,A1,n1,d1,hA,TG,c0,c1,c2,λW aG=>ih k B rb fb M tp lo ng W _ _ _ (by omega) (Nat.le_trans hB aG.size) (hR.below (aG.mono hB) (aN _)) DF hNo hF (t7.get hi) Q2 Ws ht3 (UM.below (aG.mono hB) (aN _)),
    λr hr=>DO DF hF k (gZ.2.get hi) (t7.get hi) hr⟩
  have up:∀W,Below w.heap.size w W->B<=W.heap.size/\hb<W.heap.size/\W.cell? ⟨hb,0,none⟩=some (.slice HA n Ck)/\cB W B HA n M:=λW aG=>
   ⟨Nat.le_trans hB aG.size,by have:=aG.size;omega,ag q2 aG (by omega),q3.below (aG.mono hB) (aN _)⟩
  by_cases Oo:op<=4
  ·have GN:ks=[]:=List.length_eq_zero_iff.1 (by rw[t3];unfold rB;rw[if_pos Oo]);subst GN;have e:(aD M tp lo []).bind (rI M tp lo op x)=rI M tp lo op x []:=by rw[aD];rfl
   rw[e];obtain⟨hb',n',cap',tc,lc,gc,A',TA,LA,GA,h1,h2,h3,h4,h5,h6,h7,h8,h9,h10,h11,h12⟩:=hR;have hop:op=1\/op=2\/op=3\/op=4:=by omega
   rcases hop with rfl|rfl|rfl|rfl
   ·have e2:rI M tp lo 1 x []=some ⟨0,x⟩:=by unfold rI;rw[if_pos rfl]
    rw[e2];exact NM rb fb x _ A _ _ w rfl
   ·obtain⟨hx0,hx1⟩:=t4 rfl;obtain⟨k,rfl⟩:=Int.eq_ofNat_of_zero_le hx0;have qg:k<tp.length:=by omega
    have e2:rI M tp lo 2 (k:Int) []=some (tp.getD k ⟨0,0⟩):=by unfold rI;simp
    rw[e2];have hg:tp[k]? =some (tp.getD k ⟨0,0⟩):=by rw[List.getD_eq_getElem?_getD,List.getElem?_eq_getElem qg];rfl
    obtain⟨b,off,rfl,TG,hcell⟩:=h7 k _ hg;exact NJ rb fb b off _ tc k _ _ A _ _ w rfl h6 hcell qg (by omega) (by omega) Q2
   ·obtain⟨hx0,hx1⟩:=t5 rfl;obtain⟨k,rfl⟩:=Int.eq_ofNat_of_zero_le hx0;have qg:k<lo.length:=by omega
    have e2:rI M tp lo 3 (k:Int) []=some ⟨lo.getD k 0,0⟩:=by unfold rI;simp
    rw[e2];obtain⟨b,off,rfl,TG,hcell⟩:=h9 k _ (Fa qg);exact NK rb fb b off _ lc k _ _ A _ _ w rfl h8 hcell qg (by omega) (by omega) Ws
   ·obtain⟨hx0,hx1⟩:=t6 rfl;obtain⟨k,rfl⟩:=Int.eq_ofNat_of_zero_le hx0;have qg:k<ng:=by omega
    have e2:rI M tp lo 4 (k:Int) []=some ⟨k+1,0⟩:=by unfold rI;simp
    rw[e2];obtain⟨b,off,rfl,TG,hcell⟩:=h5 k _ (LJ qg);exact NL rb fb b off _ gc k _ _ A _ _ w rfl h4 hcell qg (by omega) (by omega) ht3
  ·have hop:∀l,rI M tp lo op x l=iJ M op l:=λl=>by unfold rI;rw[if_neg (by omega),if_neg (by omega),if_neg (by omega),if_neg (by omega)]
   by_cases Fy:12<=op/\op<=30
   ·obtain⟨k1,k2,rfl⟩:∃k1 k2,ks=[k1,k2]:=by
     have:ks.length=2:=by rw[t3];unfold rB;rw[if_neg Oo,if_pos Fy]
     match ks,this with
     |[a,b],_=>exact⟨a,b,rfl⟩
    obtain⟨b,off,A1,n1,c1,rfl,TG,a0,a1,a2,hka,Ex⟩:=kid 0 k1 rfl;obtain⟨b',off',B1,m1,d1,hA,_,b0,b1,b2,hkb,hvb⟩:=kid 1 k2 rfl;simp only[Option.some.injEq,Addr.mk.injEq,and_true]at hA;obtain⟨rfl,rfl⟩:=hA;simp only[Nat.zero_mul,Nat.add_zero,Nat.one_mul]at a0 a1 a2 b0 b1 b2;have hlen:(2:Nat)=len:=qg;subst hlen;cases Fx:bZ M tp lo k1 with
    |none=>
     have e:(aD M tp lo [k1,k2]).bind (rI M tp lo op x)=none:=by simp[aD,Fx]
     rw[e];rw[Fx]at hka;exact CT rb fb b off 2 aA op x _ _ A1 n1 c1 w (by omega) (by omega) (by omega) (by omega) a0 a1 a2 hka
    |some v=>
     rw[Fx]at hka;have QZ:=Ex v Fx;cases Ot:bZ M tp lo k2 with
     |none=>
      have e:(aD M tp lo [k1,k2]).bind (rI M tp lo op x)=none:=by simp[aD,Fx,Ot]
      rw[e];rw[Ot]at hkb;exact B6 rb fb hb b off 2 aA op x _ _ A1 n1 c1 _ _ B1 m1 d1 v w Fy.1 Fy.2 (by omega) (by omega) (by omega) a0 a1 a2 b0 b1 b2 (by omega) q1 hka hkb
     |some u=>
      rw[Ot]at hkb;have hvu:=hvb u Ot;have e:(aD M tp lo [k1,k2]).bind (rI M tp lo op x)=gR bO M op v u:=by
       simp only[aD,Fx,Ot,Option.map_some,Option.bind_some,hop];unfold iJ;rw[if_neg (by omega),if_neg (by omega)];rfl
      rw[e];refine Nx rb fb hb b off 2 aA op x _ _ A1 n1 c1 _ _ B1 m1 d1 v u _ w Fy.1 Fy.2 (by omega) (by omega) (by omega) a0 a1 a2 b0 b1 b2 (by omega) q1 hka hkb (λW aG=>?_);obtain⟨u1,u2,u3,u4⟩:=up W aG;exact OQ hb n Ck B op v u HA M W u1 u2 u3 u4 (λh=>⟨QZ.1,QZ.2.1 h⟩) (λh=>⟨hvu.1,hvu.2.1 h⟩) hvu.2.2 Fy.1 Fy.2
   ·obtain⟨k1,rfl⟩:∃k1,ks=[k1]:=by
     have:ks.length=1:=by rw[t3];unfold rB;rw[if_neg Oo,if_neg Fy]
     match ks,this with
     |[a],_=>exact⟨a,rfl⟩
    obtain⟨b,off,A1,n1,c1,rfl,TG,a0,a1,a2,hka,Ex⟩:=kid 0 k1 rfl;simp only[Nat.zero_mul,Nat.add_zero]at a0 a1 a2;have hlen:(1:Nat)=len:=qg;subst hlen;cases Fx:bZ M tp lo k1 with
    |none=>
     have e:(aD M tp lo [k1]).bind (rI M tp lo op x)=none:=by simp[aD,Fx]
     rw[e];rw[Fx]at hka;exact CT rb fb b off 1 aA op x _ _ A1 n1 c1 w (by omega) (by omega) (by omega) (by omega) a0 a1 a2 hka
    |some v=>
     rw[Fx]at hka;have QZ:=Ex v Fx;by_cases hld:op<=11
     ·have e:(aD M tp lo [k1]).bind (rI M tp lo op x)=nJ M op v:=by
       simp only[aD,Fx,Option.map_some,Option.bind_some,hop];unfold iJ;rw[if_pos (by omega)];rfl
      rw[e];refine KZ rb fb hb b off 1 aA op x _ _ A1 n1 c1 v _ w (by omega) hld (by omega) (by omega) (by omega) a0 a1 a2 (by omega) q1 hka (λW aG=>?_);obtain⟨u1,u2,u3,u4⟩:=up W aG;exact LK hb HA n Ck B op v M W u1 u2 u3 u4 hNo (λ_=>QZ.1) QZ.2.1 (by omega) hld
     ·have e:(aD M tp lo [k1]).bind (rI M tp lo op x)=if v.obj=0 then some ⟨0,EH op v.n⟩else none:=by
       simp only[aD,Fx,Option.map_some,Option.bind_some,hop];unfold iJ;rw[if_neg (by omega),if_pos (by omega)];rfl
      rw[e];exact QJ rb fb hb b off 1 aA op x _ _ A1 n1 c1 v _ w (by omega) (by omega) (by omega) (by omega) (by omega) a0 a1 a2 (by omega) q1 hka (λW aG=>LD hb op v W (by omega) (by omega))
end Go.Proofs.YtikbdplllopjlaaGreat
namespace Go.Proofs.YtikbdplllopjlaaGreat
open Go.RowKit
attribute [local go_sem ↓] Go.wp_at_zero Go.wp_at_succ
theorem E7(M:List MO)(l:List jR):(au (bf M l)).length=(au M).length+l.length:=by
 rw[<-rP,pS,pQ];split
 ·rename_i h;subst h;rfl
 ·rfl
theorem LP(M:List MO)(k:Nat):bV (sU (eE M (k+1)))=bV (sU (eE M k))++[.int .i64 (((au M).length:Int)+(k:Int)),.int .i64 0]:=by
 rw[AG];unfold sU;rw[List.map_append,bP];simp[bV,gq]
theorem QO{ai:Nat}{own:Nat->Prop}{cb hb:Nat}{ah:Int}{s:St}{w:World}(o:jR)(v:Value)(h:gS w ai own cb hb ah s)(ho:q9 o)(hl:bE w ai o.init v)(gX:(au s.mem).length+1<=1000000000):
  Calls prog 42 #[.pointer (some ⟨hb,0,none⟩),.agg #[.int .i64 o.size,.int .i64 o.count,v]] w λe w'=>e= .returned (.agg #[.int .i64 ((au s.mem).length:Nat),.int .i64 0])/\∃own':Nat->Prop,(∀k,own k->own' k)/\(∀k,own' k->own k\/w.heap.size<=k)/\gS w' ai own' cb hb ah {s with mem:=gG s.mem o}/\Wr own w w':=by
 obtain⟨inv,outv,aU,rb,h⟩:=h;refine(LI hb ai own aU rb (au s.mem) o v w h.UY h.own h.pos (dY _) ho hl gX).mono ?_;rintro e w' ⟨he,own',je,PU,h1,h2,h3,h4,h5⟩;refine⟨he,own',h1,h2,⟨inv,outv,je,PU,HC.remem (M:=gG s.mem o) h h5 (λk hk=>?_) h1 h2 h3 ?_⟩,h5.mono (λk hk=>aH ?_)⟩
 ·rcases hk with⟨hk,cs,hr⟩|rfl
  ·exact⟨hk,cs,_,hr,aT (aH rfl)⟩
  ·exact⟨h.QH,_,_,h.heap,aT (aT rfl)⟩
 ·rw[rQ,<-uT];exact h4
 ·rcases hk with⟨hk,_⟩|rfl
  ·exact hk
  ·exact h.QH
def Ta(ai:Nat)(own:Nat->Prop)(cb hb:Nat)(ah:Int)(s:St)(l:List jR)(w:World)(e:Ending)(w':World):Prop:=
 ∃(pv:Value)(own':Nat->Prop),e= .returned pv/\(∀k,own k->own' k)/\(∀k,own' k->own k\/w.heap.size<=k)/\gS w' ai own' cb hb ah {s with mem:=bf s.mem l}/\
  w'.ownsRow w.heap.size 72 2 pv l.length (bV (sU (eE s.mem l.length)))/\(∀g,pv.ownBlock=some g->¬own' g)/\Wr own w w'
theorem Pp{ai:Nat}{own:Nat->Prop}{cb hb:Nat}{ah:Int}{s:St}{w:World}(l:List jR)(A:Option Addr)(n aA:Nat)(h:gS w ai own cb hb ah s)(gJ:∀o,o∈l->q9 o)(hl:aL w ai 3 (rf w ai) l (.slice A n aA))(hnl:l.length<=1000)(gX:(au s.mem).length<=900000000):
  Calls prog 25 #[.pointer (some ⟨hb,0,none⟩),.slice A n aA] w λe w'=>Ta ai own cb hb ah s l w e w':=by
 have df:=h.blocks;have kE:ai<=w.heap.size:=by have:=df.2.2 cb df.1;omega
 have xg:=hl.len;obtain⟨i0,hi,hz0,hz1,hz2⟩:=info_parts dK;have H:=ae h;have vF:=ae gJ;have HL:=ae hl;have Dd:=ae xg.1;have HOW:=ae df.2.2;have jw:n<=1000:=by omega
 have iD:=xg.2;have Gu:=ae gX;clear h gJ hl df xg gX;go_enter func25,ntmps25;refine ak λQ HQ=>?_;go_wp2_with fail;go_loopw [4,9] (λpv0 i wr=>∃(k:Nat)(KR:Nat->Prop)(pv:Value),pv=pv0/\k<=n/\i= .int .i64 k/\(∀x,own x->KR x)/\(∀x,KR x->own x\/w.heap.size<=x)/\gS wr ai KR cb hb ah {s with mem:=bf s.mem (l.take k)}/\wr.ownsRow w.heap.size 72 2 pv k (bV (sU (eE s.mem k)))/\(∀g,pv.ownBlock=some g->¬KR g)/\Wr own w wr) (λ_ i _=>n-(intOf i).toNat)
 case atStart=>exact⟨0,own,_,rfl,by omega,rfl,λ_ h=>h,λ_ h=>aH h,H.out,World.ownsRow_nil _ _ _ _,λg h=>(by cases h),Wr.refl _ _⟩
 case round=>
  obtain⟨k,KR,pv,rfl,hk,rfl,N7,Ir,Qf,hrow,N8,hwr⟩:=hrel;have fV:=hwr.size;have Cr:Below ai w wr:=hwr.below kE (λk hk=>(HOW.out k hk).1);have Kj:=ae N7;have rq:=ae Ir;have HHK:=ae Qf;have yS:=ae hrow;have VX:=ae N8;have mK:=ae hwr;by_cases hlt:k<n
  ·obtain⟨b,off,o,rfl,TG,gu,c0,c1,⟨v,c2,hv⟩,_,_⟩:=(HL.below Cr (aN _) (λ_ _ h=>h.below Cr (aN _))).get hlt;simp only[Nat.add_zero]at c0 c1 c2;obtain⟨IA,icap,Qb⟩:∃IA icap,v= .slice IA o.init.length icap:=(by obtain⟨A',c',h,_⟩:=hv;exact⟨_,_,h⟩)
   subst Qb;have yc:=ae gu;have qg:(k:Int)<(n:Int):=by omega
   have hbl:b<wr.heap.size:=by omega
   have hsz:=E7 s.mem (l.take k);rw[List.length_take,Nat.min_eq_left (by have:=Dd.out;omega)]at hsz;have Od:=Gu.out;have yR:=ae hsz;have VY:=ae (QO (s:={s with mem:=bf s.mem (l.take k)}) (w:=wr.alloc (.cells #[.int .i64 o.size,.int .i64 o.count,.slice IA o.init.length icap] 85)) o _ (Qf.below (aj _ _)) (vF.out o (List.mem_of_getElem? gu)) (hv.below ((aj wr _).mono (by omega)) (aN _)) (by show(au (bf s.mem (l.take k))).length+1<=1000000000;omega));simp only at VY;rw[hsz,Int.natCast_add]at VY;clear gu hv hwr Cr N7 Ir Qf hrow N8 hsz Od;go_wp2_with fail;refine VY.mono ?_;rintro e w1 ⟨rfl,own',h1,h2,h3,h4⟩;have yC:=h4.size;simp only[World.size_alloc]at yC
   have hown1:=aB (aB yS (di (aj wr (.cells #[.int .i64 o.size,.int .i64 o.count,.slice IA o.init.length icap] 85))) (λ_ _ h=>h)) h4 VX.out;have H1:=ae (And.intro h1 (And.intro h2 h3));have H4:=ae h4;have PB:=ae hown1;clear h1 h2 h3 h4 hown1;go_wp2_with(at_builtin;refine wpList_append_lies _ rfl (.tmp 13) (.tmp 17) 67 rfl w.heap.size 72 i0 (.agg #[.int .i64 0,.int .i64 0]) 2 16 underlying67 hi hz0 hz1 hz2 rfl (by decide) _ _ _ rfl (aB PB (di (aj w1 _)) (λ_ _ h=>h)) ⟨w1.heap.size,0,none⟩ 1 1 [.int .i64 (((au s.mem).length:Int)+(k:Int)),.int .i64 0] rfl rfl ?c1 ?c2 ?c3 ?c4 ?c5 ?c6 (w1.heap.size+1) (by simp) ?_)
   case c1=>exact cK _ _ _ _ _ (by simp)
   case c2=>exact dS _ _
   case c3=>omega
   case c4=>unfold maxLen;omega
   case c5=>omega
   case c6=>simp;omega
   ·intro gg fC w2 hown2 hgrow hat mA;have P5:∀g,pv.ownBlock=some g->w.heap.size<=g/\g<wr.heap.size:=λg hg=>(by obtain⟨h,cs,hr⟩:=aC yS.out hg;exact⟨h,hr.lt⟩)
    have hno:∀g,pv.ownBlock=some g->¬own' g:=λg hg h=>(by
     rcases H1.2.1 g h with h'|h'
     ·exact VX.out g hg h'
     ·have:=(P5 g hg).2;simp only[World.size_alloc]at h';omega)
    have PZ:Wr (λk=>pv.ownBlock=some k) (w1.alloc (.cells #[.int .i64 (((au s.mem).length:Int)+(k:Int)),.int .i64 0] 72)) w2:=Wr.grown hgrow (λk hk=>hk);have HF:=ae (show gS w2 ai own' cb hb ah {s with mem:=gG (bf s.mem (l.take k)) o}from(H1.2.2.below (aj _ _)).wr PZ (λg hg=>⟨by have:=(P5 g hg).1;omega,hno g hg⟩));have Dc:=ae (show¬own' gg from λh=>by
     rcases hat with h'|h'
     ·exact hno gg h' h
     ·have:=(H1.2.2.blocks.2.2 gg h).2;omega)
    have HWF:=ae (show Wr own w w2 from((((mK.trans (di (aj wr (.cells #[.int .i64 o.size,.int .i64 o.count,.slice IA o.init.length icap] 85))) (λ_ h=>h.elim)).trans H4.out rq.out).trans (di (aj w1 (.cells #[.int .i64 (((au s.mem).length:Int)+(k:Int)),.int .i64 0] 72))) (λ_ h=>h.elim)).trans PZ (λg hg=>aT (P5 g hg).1)));have Zc:=ae hown2;clear hown2 hgrow hat PZ P5 hno;go_wp2_with fail;go_roundw
    case rel=>
     refine⟨k+1,own',_,rfl,by omega,by go_num,λx hx=>H1.1 x (Kj.out x hx),λx hx=>?_,?_,?_,λg hg=>?_,HWF.out⟩
     ·rcases H1.2.1 x hx with h'|h'
      ·exact rq.out x h'
      ·simp only[World.size_alloc]at h';exact aT (by omega)
     ·rw[dH yc.out,pT];exact HF.out
     ·rw[LP];exact Zc.out
     ·simp only[Value.ownBlock,Option.some.injEq]at hg;exact hg▸Dc.out
    case measure=>simp[intOf];omega
  ·obtain rfl:k=n:=by omega
   have e:l.take k=l:=by rw[<-Dd.out];exact List.take_length
   rw[e]at HHK;clear hwr Cr N7 Ir Qf hrow N8;go_wp2_with fail;refine HQ _ _ _ ?_;refine aR (v:=_) (by simp[results,results25,go_sem]) rfl ⟨_,KR,rfl,Kj.out,rq.out,HHK.out,?_,VX.out,mK.out⟩;rw[Dd.out];exact yS.out
end Go.Proofs.YtikbdplllopjlaaGreat
namespace Go.Proofs.YtikbdplllopjlaaGreat
open Go.RowKit
theorem i4.kill{w:World}{ai:Nat}{own:Nat->Prop}{rb:Nat->Nat}{M:List MO}{g aA:Nat}(h:i4 w ai own (.slice (some ⟨g,0,none⟩) M.tail.length aA) rb M)(y:Nat):
  i4 ((w.setCell ⟨g,y*3+2,none⟩ (.bool true)).setCell ⟨g,y*3+1,none⟩ (.slice none 0 0)) ai own (.slice (some ⟨g,0,none⟩) M.tail.length aA) rb (M.modify (y+1) dead):=by
 have hw:=eB w g (y*3+2) (y*3+1) (.bool true) (.slice none 0 0);obtain⟨⟨xs,hx,oC⟩,hm,hi,gu,hn⟩:=h;have mS:(M.modify (y+1) dead).tail=M.tail.modify y dead:=by cases M<;>simp[List.modify_succ_cons]
 obtain⟨_,cs,hgr⟩:=aC hx (g:=g) rfl;have h1:=((hx.stored (y*3+2) (.bool true)).1.stored (y*3+1) (.slice none 0 0)).1;refine⟨⟨(xs.set (y*3+2) (.bool true)).set (y*3+1) (.slice none 0 0),by rw[mS,List.length_modify];exact h1,λk o ho=>?_⟩,λk o ho=>?_,λa b ha hb=>hi a b (by simpa [mS]using ha) (by simpa [mS]using hb),gu.kill (y+1),hn.J0 (y+1)⟩
 ·rw[mS]at ho;obtain⟨o0,h0,rfl⟩:=cY ho;obtain⟨p0,p1,p2⟩:=oC k o0 h0;have qg:k<M.tail.length:=by
   rcases Nat.lt_or_ge k M.tail.length with h|h
   ·exact h
   ·rw[List.getElem?_eq_none h]at h0;cases h0
  have sI:=hx.1;unfold vH;rw[List.getElem?_set_ne (by omega),List.getElem?_set_ne (by omega)];by_cases e:y=k
  ·subst e;rw[if_pos rfl,List.getElem?_set_self (by simp;omega),List.getElem?_set_ne (by omega),List.getElem?_set_self (by omega)];exact⟨p0,rfl,rfl⟩
  ·rw[if_neg e,List.getElem?_set_ne (by omega),List.getElem?_set_ne (by omega),List.getElem?_set_ne (by omega),List.getElem?_set_ne (by omega)];exact⟨p0,p1,p2⟩
 ·rw[mS]at ho;obtain⟨o0,h0,rfl⟩:=cY ho;obtain⟨q1,cv,q2,q3⟩:=hm k o0 h0;refine⟨q1,cv,q2.wr hw (λe=>q2.ne hgr (by decide) e),?_⟩;split
  ·exact q3
  ·exact q3
theorem HC.J0{w:World}{ai:Nat}{own:Nat->Prop}{cb hb:Nat}{ah:Int}{s:St}{inv outv:Value}{rb:Nat->Nat}{g q aA:Nat}(h:HC w ai own cb hb ah s inv outv (.slice (some ⟨g,0,none⟩) q aA) rb)(hq:q=(au s.mem).tail.length)(y:Nat):
  HC ((w.setCell ⟨g,y*3+2,none⟩ (.bool true)).setCell ⟨g,y*3+1,none⟩ (.slice none 0 0)) ai own cb hb ah {s with mem:=s.mem.modify (y+1) dead} inv outv (.slice (some ⟨g,0,none⟩) q aA) rb/\Wr own w ((w.setCell ⟨g,y*3+2,none⟩ (.bool true)).setCell ⟨g,y*3+1,none⟩ (.slice none 0 0)):=by
 have hw:=eB w g (y*3+2) (y*3+1) (.bool true) (.slice none 0 0);have hgo:=h.memo g rfl;have hgr:∃cs,Row w g cs 131:=by
  obtain⟨⟨xs,hx,_⟩,_⟩:=h.mem;exact(aC hx (g:=g) rfl).2
 obtain⟨cs,hgr⟩:=hgr;subst hq;refine⟨HC.remem (own':=own) (M:=s.mem.modify (y+1) dead) h hw (λk hk=>?_) (λ_ h=>h) (λ_ h=>aH h) (λk hk=>?_) ⟨?_,?_,h.memo⟩,hw.mono (λi hi=>aH (hi▸hgo))⟩
 ·subst hk;exact⟨hgo,cs,_,hgr,aT (aH rfl)⟩
 ·have:=(h.own k hk).2;simpa using this
 ·exact h.heap.wr hw (λe=>h.heap.ne hgr (by decide) e)
 ·have e:au (s.mem.modify (y+1) dead)=(au s.mem).modify (y+1) dead:=(uW s.mem [y+1]).symm;rw[e];exact h.mem.kill y
theorem Hz{M:List MO}{lo:List Nat}{k x:Nat}(h:lo[k]? =some x):dZ M (lo.take (k+1))=(dZ M (lo.take k)).modify x dead:=by
 rw[dH h,AP]
theorem QQ{ai:Nat}{own:Nat->Prop}{cb hb:Nat}{ah:Int}{s:St}{w:World}(lo:List Nat)(A:Option Addr)(n aA:Nat)(h:gS w ai own cb hb ah s)(qV:∀x,x∈lo->1<=x/\x<(au s.mem).length)(hn:lo.length=n)(sL:n<=1000000)
  (hp:∀j v,(sU lo)[j]? =some v->∃b off,A=some ⟨b,off,none⟩/\b<w.heap.size/\¬own b/\bg w b (off+j*2) v):
  Calls prog 46 #[.pointer (some ⟨hb,0,none⟩),.slice A n aA] w λe w'=>e= .returned (.tuple #[])/\gS w' ai own cb hb ah {s with mem:=dZ s.mem lo}/\Wr own w w':=by
 have H:=ae h;have Kn:=ae qV;have HN:=ae hn;have HP:=ae hp;clear h qV hn hp;go_enter func46,ntmps46;refine ak λQ HQ=>?_;go_wp2_with fail;go_loopw [9] (λi wr=>∃k:Nat,k<=n/\i= .int .i64 k/\gS wr ai own cb hb ah {s with mem:=dZ s.mem (lo.take k)}/\Wr own w wr) (λi _=>n-(intOf i).toNat)
 case atStart=>exact⟨0,by omega,rfl,H.out,Wr.refl _ _⟩
 case round=>
  obtain⟨k,hk,rfl,Qf,hwr⟩:=hrel;have fV:=hwr.size;have mK:=ae hwr;by_cases hlt:k<n
  ·have qg:k<lo.length:=by have:=HN.out;omega
   obtain⟨b,off,rfl,hbl,Qd,hv0,yD⟩:=HP.out k _ (Fa qg);have hx:=Kn (lo.getD k 0) (by rw[List.getD_eq_getElem?_getD,List.getElem?_eq_getElem qg];exact List.getElem_mem _);have HGX:=ae (show lo[k]? =some (lo.getD k 0)from by rw[List.getD_eq_getElem?_getD,List.getElem?_eq_getElem qg];rfl);obtain⟨y,hy⟩:∃y,lo.getD k 0=y+1:=⟨lo.getD k 0-1,by omega⟩
   rw[hy]at hv0 yD hx HGX;have hc0:wr.cell? ⟨b,off+k*2,none⟩=some (.int .i64 ((y:Int)+1)):=(World.cell?_of_block (a:=⟨b,_,none⟩) (hwr.block b hbl Qd)).trans (by simpa using hv0);have hc1:wr.cell? ⟨b,off+k*2+1,none⟩=some (.int .i64 0):=(World.cell?_of_block (a:=⟨b,_,none⟩) (hwr.block b hbl Qd)).trans yD;obtain⟨inv,outv,aU,rb,hC⟩:=id Qf;have Qa:(au (dZ s.mem (lo.take k))).length=(au s.mem).length:=by rw[<-uW,kD]
   obtain⟨MM,YG⟩:∃MM,MM=au (dZ s.mem (lo.take k)):=⟨_,rfl⟩
   have Fp:=hC.mem;have TB:=hC.memo;simp only at Fp;rw[<-YG]at Fp Qa;obtain⟨q,hq⟩:∃q,q=MM.tail.length:=⟨_,rfl⟩
   have hyq:y<q:=by rw[hq,List.length_tail];omega
   have Iy:=Fp.ok.many;have Dx:q<=4294967296:=by rw[hq,List.length_tail];omega
   obtain⟨⟨xs,QT,oC⟩,_⟩:=id Fp;rw[<-hq]at QT;obtain⟨g,eT,Ob⟩:∃g eT,aU= .slice (some ⟨g,0,none⟩) q eT:=(by obtain⟨_,h|⟨g,c,cur,h,_⟩⟩:=id QT;exact absurd h.2 (by omega);exact⟨_,_,h⟩)
   subst Ob;have p0:wr.cell? ⟨hb,0,none⟩=some (.slice (some ⟨g,0,none⟩) q eT):=hC.heap.cell rfl;obtain⟨_,cs,hgr⟩:=aC QT (g:=g) rfl;have hgo:=TB g rfl;have yF:=hgr.lt;have U3:=hC.heap.lt;obtain⟨oy,hoy⟩:∃oy,MM.tail[y]? =some oy:=⟨_,List.getElem?_eq_getElem (hq▸hyq)⟩
   obtain⟨o0,o1,o2⟩:=oC y oy hoy;have d1:=QT.cells (g:=g) rfl (y*3+1) _ o1;have d2:=QT.cells (g:=g) rfl (y*3+2) _ o2;rw[uJ]at d1 d2;have e1:=hgr.free (y*3+1);have e2:=hgr.free (y*3+2);have qE:(0:Int)<=(y:Int):=by omega
   have pU:(y:Int)<(q:Int):=by omega
   have bT:IntKind.i64.wrap (y:Int)=(y:Int):=IntWalk.i64_in _ (by omega);have hw2:IntKind.i64.wrap ((y:Int)+1-1)=(y:Int):=by rw[Int.add_sub_cancel];exact bT
   have iZ:(0:Int)<=(k:Int):=by omega
   have eY:(k:Int)<(n:Int):=by omega
   have aG:b<wr.heap.size:=by omega
   have S6:=ae hC;have HMEM:=ae Fp;have HMM:=ae YG;have VR:=ae hq;have HG:=ae (And.intro hgo hgr);clear Qf hwr hC Fp TB YG hq QT oC hgr hgo hoy o0 o1 o2 hv0 yD hx Qa Iy hy Qd;have hz1:hb<wr.heap.size+1:=by omega
   have hz2:g<wr.heap.size+1:=by omega
   have hz3:¬g=wr.heap.size:=by omega
   go_wp2_with fail;go_quiet (fail);go_wp2_with fail;go_roundw
   case rel=>
    obtain⟨a1,a2⟩:=(S6.wr (F:=λ_=>False) (Wr.of_below (below_drewN (aj wr (.cells #[.int .i64 ((y:Int)+1),.int .i64 0] 72)) nq)) (λ_ h=>h.elim)).J0 (by rw[VR.out,HMM.out]) y;refine⟨k+1,by omega,by go_num,?_,(mK.trans (di (below_drewN (aj wr (.cells #[.int .i64 ((y:Int)+1),.int .i64 0] 72)) nq)) (λ_ h=>h.elim)).trans a2 (λ_ h=>aH h)⟩;rw[Hz HGX.out];exact⟨_,_,_,_,a1⟩
   case measure=>simp[intOf];omega
  ·obtain rfl:k=n:=by omega
   have e:lo.take k=lo:=by rw[<-HN.out];exact List.take_length
   rw[e]at Qf;have HHK:=ae Qf;clear hwr Qf;go_wp2_with fail;refine HQ _ _ _ ?_
   go_end0
   exact⟨rfl,HHK.out,mK.out⟩
end Go.Proofs.YtikbdplllopjlaaGreat
namespace Go.Proofs.YtikbdplllopjlaaGreat
open Go.RowKit
attribute [local go_sem ↓] Go.wp_at_zero Go.wp_at_succ
structure cD (w:World) (fb tb:Nat) (tp:List V) (lv:Value) (lo:List Nat):Prop where
 row:Row w fb #[.slice (some ⟨tb,0,none⟩) tp.length tp.length,lv] 110
 ay:iq w tb tp
 az:w.ownsRow 0 72 2 lv lo.length (bV (sU lo))
 apart:∀g,lv.ownBlock=some g->g≠tb
 few:tp.length<=1000000
 fewl:lo.length<=1000000
structure jS (w:World) (rb cb hb:Nat) (P:Value×Value×Value) (gv:Value) (ng:Nat):Prop where
 row:Row w rb #[.pointer (some ⟨cb,0,none⟩),P.1,P.2.1,P.2.2,.pointer (some ⟨hb,0,none⟩),gv] 69
 ax:w.ownsRow 0 72 2 gv ng (bV (zF ng))
 few:ng<=1000000
structure mQ (ai:Nat) (own:Nat->Prop) (rb fb tb:Nat) (lv gv:Value):Prop where
 BN:¬own rb/\ai<=rb
 GD:¬own fb/\ai<=fb
 Dp:¬own tb/\ai<=tb
 E0:∀g,lv.ownBlock=some g->¬own g/\ai<=g
 zq:∀g,gv.ownBlock=some g->¬own g/\ai<=g/\g≠tb
 ort:rb≠tb
theorem cD.wr{F:Nat->Prop}{w w':World}{fb tb:Nat}{tp:List V}{lv:Value}{lo:List Nat}(h:cD w fb tb tp lv lo)(hb:Wr F w w')(h1:¬F fb)(h2:¬F tb)(h3:∀g,lv.ownBlock=some g->¬F g):cD w' fb tb tp lv lo:=by
 obtain⟨r1,⟨cs,r2,r3⟩,r4,r5,r6,r7⟩:=h;exact⟨r1.wr hb h1,⟨cs,r2.wr hb h2,r3⟩,aB r4 hb h3,r5,r6,r7⟩
theorem jS.wr{F:Nat->Prop}{w w':World}{rb cb hb:Nat}{P:Value×Value×Value}{gv:Value}{ng:Nat}(h:jS w rb cb hb P gv ng)(hw:Wr F w w')(h1:¬F rb)(h2:∀g,gv.ownBlock=some g->¬F g):jS w' rb cb hb P gv ng:=
 ⟨h.row.wr hw h1,aB h.ax hw h2,h.few⟩
theorem cD.below{w w':World}{fb tb:Nat}{tp:List V}{lv:Value}{lo:List Nat}(h:cD w fb tb tp lv lo)(hb:Below w.heap.size w w'):cD w' fb tb tp lv lo:=h.wr (di hb) (λh=>h) (λh=>h) (λ_ _ h=>h)
theorem jS.below{w w':World}{rb cb hb:Nat}{P:Value×Value×Value}{gv:Value}{ng:Nat}(h:jS w rb cb hb P gv ng)(aG:Below w.heap.size w w'):jS w' rb cb hb P gv ng:=h.wr (di aG) (λh=>h) (λ_ _ h=>h)
theorem cD.lt{w:World}{fb tb:Nat}{tp:List V}{lv:Value}{lo:List Nat}(h:cD w fb tb tp lv lo):fb<w.heap.size/\tb<w.heap.size:=⟨h.row.lt,by obtain⟨_,h,_⟩:=h.ay;exact h.lt⟩
theorem qp{w:World}{ai:Nat}{v:Value}{l:List V}{k:Nat}(h:w.ownsRow ai 72 2 v k (bV l))(hk:l.length=k):∃A aA,v= .slice A k aA/\Ed w w.heap.size A l/\(∀j x,l[j]? =some x->∃b off,A=some ⟨b,off,none⟩/\b<w.heap.size/\v.ownBlock=some b/\bg w b (off+j*2) x):=by
 rcases Nat.eq_zero_or_pos k with h0|hp
 ·have hl:l=[]:=List.eq_nil_of_length_eq_zero (by omega);subst hl;rcases h.2 with⟨e,e2⟩|⟨g,aA,cur,e,_⟩
  ·exact⟨none,0,by rw[e,h0],λj v hj=>by simp at hj,λj v hj=>by simp at hj⟩
  ·exact⟨_,aA,e,λj v hj=>by simp at hj,λj v hj=>by simp at hj⟩
 ·obtain⟨g,aA,e,h1,h2,h3⟩:=bQ h hk hp;refine⟨some ⟨g,0,none⟩,aA,e,λj x hj=>⟨g,0,rfl,h2,by rw[Nat.zero_add];exact h3 j x hj⟩,λj x hj=>⟨g,0,rfl,h2,by rw[e];rfl,by rw[Nat.zero_add];exact h3 j x hj⟩⟩
theorem DL(n:Nat):(zF n).length=n:=by simp[zF]
theorem zu(lo:List Nat):(sU lo).length=lo.length:=by simp[sU]
theorem QA{w:World}{ai:Nat}{own:Nat->Prop}{cb hb rb fb tb:Nat}{ah:Int}{s:St}{P:Value×Value×Value}{gv lv:Value}{ng:Nat}{tp:List V}{lo:List Nat}(h:gS w ai own cb hb ah s)(hR:jS w rb cb hb P gv ng)(hF:cD w fb tb tp lv lo):
  Jz w w.heap.size rb fb (au s.mem) tp lo ng/\b9 (au s.mem)/\fP (au s.mem):=by
 obtain⟨inv,outv,aU,rbf,h⟩:=h;obtain⟨A,aA,rfl,DG⟩:=h.mem.Tk;obtain⟨GA,gc,Be,hgr,_⟩:=qp hR.ax (DL ng);obtain⟨LA,lc,hlv,UL,_⟩:=qp hF.az (zu lo);obtain⟨cs,ht,jh⟩:=hF.ay;refine⟨⟨hb,_,aA,tp.length,lc,gc,A,some ⟨tb,0,none⟩,LA,GA,hR.row.cell (j:=4) rfl,h.heap.cell rfl,DG,?_,hgr,hF.row.cell (j:=0) rfl,λj v hj=>⟨tb,0,rfl,ht.lt,by rw[Nat.zero_add];exact⟨ht.cell (jh.2 j v hj).1,ht.cell (jh.2 j v hj).2⟩⟩,?_,UL,hR.row.lt,hF.row.lt,h.heap.lt⟩,h.mem.ok,h.mem.num⟩
 ·rw[<-Be];exact hR.row.cell (j:=5) rfl
 ·rw[<-hlv];exact hF.row.cell (j:=1) rfl
theorem JO{w:World}{ai:Nat}{own:Nat->Prop}{cb hb rb fb tb:Nat}{ah:Int}{s:St}{P:Value×Value×Value}{gv lv:Value}{ng:Nat}{tp:List V}{lo:List Nat}(t:T)(v0 v1 v2:Value)(h:gS w ai own cb hb ah s)(hR:jS w rb cb hb P gv ng)(hF:cD w fb tb tp lv lo)
  (gD:dW (au s.mem) tp lo ng)(hT:C8 tp.length lo.length ng t)(hv:aX w (dP ai) t v0 v1 v2):
  Calls prog 65 #[.pointer (some ⟨rb,0,none⟩),.pointer (some ⟨fb,0,none⟩),.agg #[v0,v1,v2]] w λe w'=>cH (bZ s.mem tp lo t) e/\Below w.heap.size w w':=by
 obtain⟨h1,h2,h3⟩:=QA h hR hF;have kE:ai<=w.heap.size:=by have:=h.blocks;have:=this.2.2 cb this.1;omega
 rw[<-vB];exact Kz t.size t w.heap.size rb fb (au s.mem) tp lo ng w v0 v1 v2 (aN _) (aN _) h1 h2 h3 gD hT hF.few hF.fewl hR.few (hv.below (bI _ _) kE)
def fJ(ai:Nat)(own:Nat->Prop)(cb hb:Nat)(ah:Int)(s:St)(r:Option (List V))(w:World)(e:Ending)(w':World):Prop:=
 match r with
 |some l=>∃pv,e= .returned (.tuple #[pv,.bool true])/\w'.ownsRow w.heap.size 72 2 pv l.length (bV l)/\Below w.heap.size w w'
 |none=>e= .returned (.tuple #[.slice none 0 0,.bool false])/\gS w' ai own cb hb ah {s with kind:=3}/\Wr (λb=>b=cb) w w'
theorem iA{w:World}{ai:Nat}{own:Nat->Prop}{cb hb rb fb tb:Nat}{ah:Int}{s:St}{P:Value×Value×Value}{gv lv:Value}{ng:Nat}{tp:List V}{lo:List Nat}(ks:List T)(A:Option Addr)(n aA:Nat)(h:gS w ai own cb hb ah s)(hR:jS w rb cb hb P gv ng)(hF:cD w fb tb tp lv lo)
  (gD:dW (au s.mem) tp lo ng)(hT:fY tp.length lo.length ng ks)(hk:bC w ai ks A n)(hn4:n<=1000):
  Calls prog 77 #[.pointer (some ⟨rb,0,none⟩),.pointer (some ⟨fb,0,none⟩),.slice A n aA] w λe w'=>fJ ai own cb hb ah s (aD s.mem tp lo ks) w e w':=by
 have kE:ai<=w.heap.size:=by have:=h.blocks;have:=this.2.2 cb this.1;omega
 have rK:=hR.row.lt;have dw:=hR.row.cell (j:=0) rfl;have hcb:cb<w.heap.size:=by have:=h.blocks;have:=this.2.2 cb this.1;omega
 obtain⟨i0,hi,hz0,hz1,hz2⟩:=info_parts dK;have H:=ae h;have HR:=ae hR;have HF:=ae hF;have EC:=ae gD;have HT:=ae hT;have HK:=ae hk;have Zq:=ae hk.1;have hn9:=hk.2.1;have iL:=ae dw;clear h hR hF gD hT hk dw;go_enter func77,ntmps77;refine ak λQ HQ=>?_;go_wp2_with fail;go_loopw [6,14] (λpv0 i wr=>∃(k:Nat)(l:List V)(pv:Value),pv=pv0/\k<=n/\i= .int .i64 k/\aD s.mem tp lo (ks.take k)=some l/\wr.ownsRow w.heap.size 72 2 pv k (bV l)/\Below w.heap.size w wr) (λ_ i _=>n-(intOf i).toNat)
 case atStart=>exact⟨0,[],_,rfl,by omega,rfl,by simp[aD],World.ownsRow_nil _ _ _ _,bI _ _⟩
 case round=>
  obtain⟨k,l,pv,rfl,hk,rfl,cu,hown,aG⟩:=hrel;have fV:=aG.size;have cV:=ae aG;have qh:=ae cu;have sZ:=ae hown;have hHw:=H.out.below aG;by_cases hlt:k<n
  ·obtain⟨b,off,t,v0,v1,v2,rfl,hb,bA,k0,k1,k2,ht⟩:=(HK.below (aG.mono kE) (aN _)).get hlt;obtain⟨A1,n1,c1,rfl,rfl,rfl⟩:=ht.Ti;obtain⟨a0,ha0⟩:∃a0,a0=t.op:=⟨_,rfl⟩
   obtain⟨a1,ha1⟩:∃a1,a1=t.n:=⟨_,rfl⟩
   rw[<-ha0]at k0 ht;rw[<-ha1]at k1 ht;clear ha0 ha1;have HC:=ae (λW(hb:Below wr.heap.size wr W)=>JO t _ _ _ (hHw.below hb) ((HR.below aG).below hb) ((HF.below aG).below hb) EC (HT.get bA) (ht.below (hb.mono (by omega)) (aN _)));have iw:=ae bA;have eY:(k:Int)<(n:Int):=by omega
   have hbl:b<wr.heap.size:=by omega
   clear bA ht cu hown aG hHw;cases hv:bZ s.mem tp lo t with
   |none=>
    have HN:=ae (cI iw.out hv);rw[hv]at HC;go_wp2_with fail;refine(HC _ (aj _ _)).mono ?_;rintro e w1 ⟨⟨y0,y1,rfl⟩,hb1⟩;have bn:=ae (cV.trans (((aj wr (.cells #[.int .i64 a0,.int .i64 a1,.slice A1 n1 c1] 90)).trans (hb1.mono (aj wr _).size)).mono fV));have NT:=hb1.size;simp only[World.size_alloc]at NT;have HH:=ae (λW(hb:Below w1.heap.size w1 W)=>Aq (H.out.below (bn.trans (hb.mono bn.size))));have g0:=ag iL.out bn.out rK;have zO:rb<w1.heap.size:=by omega
    have Cf:rb<w1.heap.size+1:=by omega
    clear hb1;go_wp2_with fail;refine(HH _ (aj _ _)).mono ?_;rintro e w2 ⟨rfl,J5,hw2⟩;have xU:=ae J5;have gU:=ae ((Wr.of_below (F:=λb=>b=cb) (bn.trans ((aj w1 (.cells #[.int .i64 y0,.int .i64 y1] 72)).mono bn.size))).trans hw2 (λ_ h=>aH h));clear J5 hw2;go_wp2_with fail;refine HQ _ _ _ ?_;refine aR (v:= .tuple #[.slice none 0 0,.bool false]) (by simp[results,results77,go_sem]) rfl ?_;rw[HN.out];exact⟨rfl,xU.out,gU.out⟩
   |some v=>
    rw[hv]at HC;simp only[cH,aI]at HC;have bG:l.length=k:=by
     have:=aK qh.out;rw[List.length_take,Zq.out]at this;omega
    go_wp2_with fail;refine(HC _ (aj _ _)).mono ?_;rintro e w1 ⟨rfl,hb1⟩;have NT:=hb1.size;simp only[World.size_alloc]at NT;have bn:=ae ((aj wr (.cells #[.int .i64 a0,.int .i64 a1,.slice A1 n1 c1] 90)).trans (hb1.mono (aj wr _).size));have hown1:=(aB sZ (di bn.out) (λ_ _ h=>h))
    have PB:=ae hown1;clear hb1 hown1;go_wp2_with(at_builtin;refine wpList_append_lies _ rfl (.tmp 32) (.tmp 34) 67 rfl w.heap.size 72 i0 (.agg #[.int .i64 0,.int .i64 0]) 2 16 underlying67 hi hz0 hz1 hz2 rfl (by decide) _ _ _ rfl (aB PB (di (aJ w1 _ _)) (λ_ _ h=>h)) ⟨w1.heap.size+1,0,none⟩ 1 1 [.int .i64 v.obj,.int .i64 v.n] rfl rfl ?c1 ?c2 ?c3 ?c4 ?c5 ?c6 (w1.heap.size+1+1) (by simp) ?_)
    case c1=>exact cK _ _ _ _ _ (by simp)
    case c2=>exact dS _ _
    case c3=>omega
    case c4=>unfold maxLen;omega
    case c5=>omega
    case c6=>simp;omega
    ·intro gg fC w2 hown2 hgrow hat mA;have bL:=ae ((cV.trans ((bn.trans ((aJ w1 (.cells #[.int .i64 v.obj,.int .i64 v.n] 72) (.cells #[.int .i64 v.obj,.int .i64 v.n] 72)).mono bn.size)).mono fV)).grown hgrow (by simp;omega) (λg hg=>(sZ.lt g hg).1));have rq:=ae hown2;clear hown2 hgrow hat;go_wp2_with fail;go_roundw
     case rel=>exact⟨k+1,l++[v],_,rfl,by omega,by go_num,cE qh.out iw.out hv,by rw[bP];exact rq.out,bL.out⟩
     case measure=>simp[intOf];omega
  ·obtain rfl:k=n:=by omega
   rw[show ks.take k=ks from by rw[<-Zq.out,List.take_length]]at qh;have bG:l.length=k:=by rw[aK qh.out,Zq.out]
   have HLK:=ae bG;clear cu hown aG hHw bG;go_wp2_with fail;refine HQ _ _ _ ?_;refine aR (v:= .tuple #[pv,.bool true]) (by simp[results,results77,go_sem]) rfl ?_;rw[qh.out];exact⟨pv,rfl,by rw[HLK.out];exact sZ.out,cV.out⟩
end Go.Proofs.YtikbdplllopjlaaGreat
namespace Go.Proofs.YtikbdplllopjlaaGreat
open Go.RowKit
def sO(p:aM)(nt nl:Nat)(x:cM):Prop:=
 fY nt nl p.ax.length x.args/\e9 x.args/\x.args.length<=1000/\
 ((x.op=1/\x.args.length=1/\0<=x.to/\x.to<nt)\/(x.op=2/\x.args.length=2/\x.to= -1/\(x.size=1\/x.size=2\/x.size=4\/x.size=8))\/
  (x.op=3/\(∃f g,x.fn=((f:Nat):Int)/\p.funcs[f]? =some g/\(x.args.length:Int)=g.params)/\(x.to= -1\/0<=x.to/\x.to<nt))\/(x.op=4/\x.args.length=1/\x.to= -1)\/
  (x.op=5/\x.args.length=0/\0<=x.to/\x.to<nt)\/(x.op=6/\x.args.length=1/\x.to= -1))
structure x6 (p:aM) (g:aP) (nt:Nat) (b:bW):Prop where
 steps:∀x,x∈b.steps->sO p nt g.az.length x
 few:b.steps.length<=1000000
 fin:b.fin=1\/b.fin=2\/b.fin=3
 next:0<=b.next/\b.next<g.blocks.length
 els:0<=b.els/\b.els<g.blocks.length
 cond:b.fin≠1->C8 nt g.az.length p.ax.length b.cond/\Pr b.cond
structure Dg (p:aM) (g:aP):Prop where
 nt:∃nt:Nat,g.ay=nt/\nt<=1000/\∀b,b∈g.blocks->x6 p g nt b
 params:0<=g.params/\g.params<=g.ay
 Uo:∀o,o∈g.az->q9 o/\∀x,x∈o.init->bz x
 az:g.az.length<=24
 one:0<g.blocks.length
 few:g.blocks.length<=1000000
structure sP (p:aM):Prop where
 ax:∀o,o∈p.ax->q9 o/\∀x,x∈o.init->bz x
 RB:p.ax.length<=16
 fns:∀g,g∈p.funcs->Dg p g
 main:∃f g,p.main=((f:Nat):Int)/\p.funcs[f]? =some g/\g.params=0
theorem dW.grow{M M':List MO}{tp:List V}{lo:List Nat}{ng:Nat}(h:dW M tp lo ng)(hl:M.length<=M'.length):dW M' tp lo ng:=
 ⟨λv hv=>(h.ay v hv).mono hl,λx hx=>kL (h.az x hx) hl,kL h.ax hl⟩
theorem dW.put{M:List MO}{tp:List V}{lo:List Nat}{ng:Nat}(h:dW M tp lo ng)(dst:Int){v:V}(hv:lY M.length v):dW M (pN tp dst v) lo ng:=by
 unfold pN;split
 ·exact⟨λu hu=>by rcases List.mem_or_eq_of_mem_set hu with h1|h1;exact h.ay u h1;exact h1▸hv,h.az,h.ax⟩
 ·exact h
theorem ou(tp:List V)(dst:Int)(v:V):(pN tp dst v).length=tp.length:=by unfold pN;split<;>simp
theorem b9.put{M:List MO}(h:b9 M)(k j:Nat){v:V}(hk:1<=k)(hv:lY M.length v):b9 (M.modify k λo=>{o with l:=o.l.set j v}):=by
 refine⟨by simpa using h.many,λo ho=>?_,λi o h1 ho=>?_,λo ho u hu=>?_⟩
 ·obtain⟨o0,h0,he⟩:=cY ho;rw[if_neg (by omega)]at he;subst he;exact h.zero _ h0
 ·obtain⟨o0,h0,rfl⟩:=cY ho;have:=h.size i o0 h1 h0;split
  ·simpa using this
  ·exact this
 ·rw[List.length_modify];rcases mem_modify ho with ho|⟨o0,h0,rfl⟩
  ·exact h.vals o ho u hu
  ·rcases List.mem_or_eq_of_mem_set hu with hu|hu
   ·exact h.vals o0 (List.mem_of_getElem? h0) u hu
   ·exact hu▸hv
theorem zi{M M':List MO}{size:Int}{a x:V}(hs:cS M size a x=some M')(h0:0<=size)(hm:b9 M)(hn:fP M)(hx:lY M.length x):b9 M'/\fP M'/\M'.length=M.length:=by
 refine⟨?_,hn.store hs h0,?_⟩
 ·unfold cS at hs;cases ha:qL M a size.toNat with
  |none=>rw[ha]at hs;simp at hs
  |some j=>
   rw[ha]at hs;simp only at hs;split at hs
   ·cases hs
   ·simp only[Option.some.injEq]at hs;subst hs;have hp:0<a.obj:=by
     unfold qL at ha;split at ha
     ·rename_i h1;exact h1.1
     ·cases ha
    refine hm.put a.obj j hp ?_;split
    ·exact⟨Nat.lt_of_le_of_lt (Nat.zero_le _) hx.1,λh=>absurd rfl h,rM hx.2.2⟩
    ·exact hx
 ·unfold cS at hs;split at hs
  ·cases hs
  ·split at hs
   ·cases hs
   ·simp only[Option.some.injEq]at hs;subst hs;simp
def zK(p:aM)(ah:Int)(c:Int)(R:cC):Prop:=
 ∀(f:Nat)g args s v s',p.funcs[f]? =some g->(args.length:Int)=g.params->GInv ah s->s.calls=c->(∀v,v∈args->lY (au s.mem).length v)->p.ax.length<(au s.mem).length->R f args s=(some v,s')->lF ah s s'/\lY (au s'.mem).length v
section
variable {p:aM} {ah:Int} {R:cC} {lo:List Nat} {nt nl:Nat}
theorem yM(hR:∀c,zK p ah c R){s s':St}{tp tp':List V}{x:cM}(hI:GInv ah s)(hF:dW (au s.mem) tp lo p.ax.length)(ht:tp.length=nt)(hl:lo.length=nl)(hx:sO p nt nl x)(h:bu R ah lo s tp x=(true,s',tp')):
  lF ah s s'/\dW (au s'.mem) tp' lo p.ax.length/\tp'.length=tp.length:=by
 subst ht hl;obtain⟨fH,qf,_,hop⟩:=hx;by_cases hy:(aW ah 1 s).1=true
 ·obtain⟨h1,kz⟩:=hI.tick (by omega) hy;cases he:aD s.mem tp lo x.args with
  |none=>
   unfold bu at h;rw[if_neg (by rw[hy];simp),sF,he]at h;cases h
  |some l=>
   have gu:=iF hI.mem hF x.args qf fH (by rw[eN];exact he);have hlen:=aK he;rw[cF hy h1 he]at h;have hK1:lF ah s {s with steps:=s.steps+1}:=⟨kz,rfl,aN _,by show s.steps<=s.steps+1;omega⟩
   have gP:=dY s.mem;have hg:=λj=>xF gP gu j;unfold ik at h;rcases hop with⟨h1,h2,h3,h4⟩|⟨h1,h2,h3,h4⟩|⟨h1,⟨f,g,h2,h3,h4⟩,h5⟩|⟨h1,h2,h3⟩|⟨h1,h2,h3,h4⟩|⟨h1,h2,h3⟩
   ·rw[if_pos h1]at h;simp only[Prod.mk.injEq,true_and]at h;obtain⟨rfl,rfl⟩:=h;exact⟨hK1,hF.put _ (hg 0),ou _ _ _⟩
   ·rw[if_neg (by omega),if_pos h1]at h;split at h
    ·rename_i M hst;simp only[Prod.mk.injEq,true_and]at h;obtain⟨rfl,rfl⟩:=h;have hb:=zk s.mem x.size (l.getD 0 ⟨0,0⟩) (l.getD 1 ⟨0,0⟩);simp only at hst;rw[hst]at hb;obtain⟨k1,k2,k3⟩:=zi hb (by omega) hI.mem hI.num (hg 1);refine⟨⟨⟨kz.kind,kz.lo,kz.hi,by show(au M).length<=_;rw[k3];exact kz.many,kz.outs,kz.calls,kz.deep,kz.inp,k1,k2⟩,rfl,by show _<=(au M).length;rw[k3];exact aN _,by show s.steps<=s.steps+1;omega⟩,?_,rfl⟩;exact hF.grow (by show _<=(au M).length;rw[k3];exact aN _)
    ·cases h
   ·rw[if_neg (by omega),if_neg (by omega),if_pos h1]at h;split at h
    ·rename_i v s2 hr;simp only[Prod.mk.injEq,true_and]at h;obtain⟨rfl,rfl⟩:=h;rw[h2]at hr;obtain⟨k1,k2⟩:=hR _ f g l _ v s2 h3 (by rw[hlen];exact h4) kz rfl gu hF.ax hr;exact⟨hK1.trans k1,(hF.grow k1.grow).put _ k2,ou _ _ _⟩
    ·cases h
   ·rw[if_neg (by omega),if_neg (by omega),if_neg (by omega),if_neg (by omega)]at h;split at h
    ·cases h
    ·rw[if_neg (by omega)]at h;simp only[Prod.mk.injEq,true_and]at h;obtain⟨rfl,rfl⟩:=h;have h0:=hI.lo;have h5:=hI.outs;refine⟨⟨⟨kz.kind,kz.lo,kz.hi,kz.many,?_,kz.calls,kz.deep,kz.inp,kz.mem,kz.num⟩,rfl,aN _,by show s.steps<=s.steps+1;omega⟩,hF,rfl⟩;show(s.out++_).length<=(s.steps+1).toNat;rw[List.length_append,List.length_singleton];omega
   ·rw[if_neg (by omega),if_neg (by omega),if_neg (by omega),if_pos h1]at h;split at h
    ·rename_i gZ;simp only[Prod.mk.injEq,true_and]at h;obtain⟨rfl,rfl⟩:=h;exact⟨hK1,hF.put _ (lY.num gP (by unfold bz;omega)),ou _ _ _⟩
    ·rename_i n r gZ;simp only[Prod.mk.injEq,true_and]at h;obtain⟨rfl,rfl⟩:=h;simp only at gZ;have UO:=hI.inp;rw[gZ]at UO;refine⟨⟨⟨kz.kind,kz.lo,kz.hi,kz.many,kz.outs,kz.calls,kz.deep,λx hx=>UO x (List.mem_cons_of_mem _ hx),kz.mem,kz.num⟩,rfl,aN _,by show s.steps<=s.steps+1;omega⟩,hF.put _ (lY.num gP (UO n (by simp))),ou _ _ _⟩
   ·rw[if_neg (by omega),if_neg (by omega),if_neg (by omega),if_neg (by omega)]at h;split at h
    ·cases h
    ·cases h
 ·unfold bu at h;rw[if_pos (by simpa using hy)]at h;cases h
theorem Av(hR:∀c,zK p ah c R):∀(xs:List cM){s s':St}{tp tp':List V},GInv ah s->dW (au s.mem) tp lo p.ax.length->tp.length=nt->lo.length=nl->(∀x,x∈xs->sO p nt nl x)->eL R ah lo s tp xs=(true,s',tp')->
  lF ah s s'/\dW (au s'.mem) tp' lo p.ax.length/\tp'.length=tp.length
 |[],s,s',tp,tp',hI,hF,_,_,_,h=>by
  rw[eL]at h;simp only[Prod.mk.injEq,true_and]at h;obtain⟨rfl,rfl⟩:=h;exact⟨lF.refl hI,hF,rfl⟩
 |x::r,s,s',tp,tp',hI,hF,ht,hl,hx,h=>by
  rw[eL]at h;split at h
  ·rename_i s1 PT h1;obtain⟨k1,k2,k3⟩:=yM hR hI hF ht hl (hx x (by simp)) h1;obtain⟨m1,m2,m3⟩:=Av hR r k1.inv k2 (k3.trans ht) hl (λy hy=>hx y (List.mem_cons_of_mem _ hy)) h;exact⟨k1.trans m1,m2,m3.trans k3⟩
  ·cases h
theorem q8(hR:∀c,zK p ah c R){g:aP}{b:bW}{s s':St}{tp tp':List V}{go:Goes}(hI:GInv ah s)(hF:dW (au s.mem) tp lo p.ax.length)(ht:tp.length=nt)(hl:lo.length=g.az.length)(hb:x6 p g nt b)(h:dN R ah lo s tp b=(go,s',tp'))(hgo:go≠.over):
  lF ah s s'/\dW (au s'.mem) tp' lo p.ax.length/\tp'.length=tp.length/\s.steps+1<=s'.steps/\(∀k,go= .next k->0<=k/\k<g.blocks.length)/\(∀v,go= .ret v->lY (au s'.mem).length v):=by
 unfold dN at h;split at h
 ·simp only[Prod.mk.injEq]at h;exact absurd h.1.symm hgo
 ·rename_i s1 PT h1;obtain⟨k1,k2,k3⟩:=Av hR b.steps hI hF ht hl hb.steps h1;have A7:=k1.steps;split at h
  ·simp only[Prod.mk.injEq]at h;exact absurd h.1.symm hgo
  ·rename_i hy;have hy':(aW ah 1 s1).1=true:=by simpa using hy
   obtain⟨e1,kz⟩:=k1.inv.tick (by omega) hy';rw[e1]at h;have hK:lF ah s {s1 with steps:=s1.steps+1}:=k1.trans ⟨kz,rfl,aN _,by show s1.steps<=s1.steps+1;omega⟩;split at h
   ·simp only[Prod.mk.injEq]at h;obtain⟨rfl,rfl,rfl⟩:=h;exact⟨hK,k2,k3,by show s.steps+1<=s1.steps+1;omega,λk hk=>(by injection hk with hk;exact hk▸hb.next),λv hv=>(by cases hv)⟩
   ·rename_i j4;obtain⟨hc1,hc2⟩:=hb.cond j4;split at h
    ·simp only[Prod.mk.injEq]at h;exact absurd h.1.symm hgo
    ·rename_i v hv;have hvok:=DO k1.inv.mem k2 b.cond hc2 (by rw[k3,ht,hl];exact hc1) (by rw[vB];exact hv);split at h
     ·simp only[Prod.mk.injEq]at h;obtain⟨rfl,rfl,rfl⟩:=h;exact⟨hK,k2,k3,by show s.steps+1<=s1.steps+1;omega,λk hk=>(by cases hk),λu hu=>(by injection hu with hu;exact hu▸hvok)⟩
     ·simp only[Prod.mk.injEq]at h;obtain⟨rfl,rfl,rfl⟩:=h;exact⟨hK,k2,k3,by show s.steps+1<=s1.steps+1;omega,λk hk=>(by injection hk with hk;subst hk;split;exact hb.els;exact hb.next),λu hu=>(by cases hu)⟩
theorem b9.kills{M:List MO}(h:b9 M):∀(l:List Nat),b9 (dZ M l)
 |[]=>h
 |k::l=>(h.kill k).kills l
theorem zI(hR:∀c,zK p ah c R){g:aP}(hl:lo.length=g.az.length)(hb:∀b,b∈g.blocks->x6 p g nt b):∀(m:Nat)(k:Int){s s':St}{tp:List V}{v:V},GInv ah s->1<=s.calls->dW (au s.mem) tp lo p.ax.length->tp.length=nt->0<=k->k<g.blocks.length->
  eQ R ah lo g.blocks m k s tp=(some v,s')->GInv ah s'/\s'.calls=s.calls-1/\(au s.mem).length<=(au s'.mem).length/\s.steps<=s'.steps/\lY (au s'.mem).length v
 |0,k,s,s',tp,v,_,_,_,_,_,_,h=>by rw[eQ]at h;cases h
 |m+1,k,s,s',tp,v,hI,hc,hF,ht,iZ,bA,h=>by
  rw[eQ]at h;obtain⟨kn,rfl⟩:=Int.eq_ofNat_of_zero_le iZ;have qg:kn<g.blocks.length:=by omega
  have df:g.blocks.getD ((kn:Int)).toNat JW∈g.blocks:=by
   rw[Int.toNat_natCast,List.getD_eq_getElem?_getD,List.getElem?_eq_getElem qg];exact List.getElem_mem _
  split at h
  ·cases h
  ·rename_i k' s1 PT h1;obtain⟨a1,a2,a3,a4,a5,_⟩:=q8 hR hI hF ht hl (hb _ df) h1 (by simp);obtain⟨k0,k1⟩:=a5 k' rfl;obtain⟨b1,b2,b3,b4,b5⟩:=zI hR hl hb m k' a1.inv (by rw[a1.calls];exact hc) a2 (a3.trans ht) k0 k1 h;exact⟨b1,by rw[b2,a1.calls],Nat.le_trans a1.grow b3,by omega,b5⟩
  ·rename_i u s1 PT h1;obtain⟨a1,a2,a3,a4,_,a6⟩:=q8 hR hI hF ht hl (hb _ df) h1 (by simp);simp only[Prod.mk.injEq,Option.some.injEq]at h;obtain⟨rfl,rfl⟩:=h;have e:au (dZ s1.mem lo)=dZ (au s1.mem) lo:=(uW _ _).symm;have el:(au (dZ s1.mem lo)).length=(au s1.mem).length:=by rw[e,kD]
   have hcs:=a1.calls;refine⟨⟨a1.inv.kind,a1.inv.lo,a1.inv.hi,by show(au (dZ s1.mem lo)).length<=_;rw[el];exact a1.inv.many,a1.inv.outs,by show 0<=s1.calls-1;omega,a1.inv.deep,a1.inv.inp,by show b9 (au (dZ s1.mem lo));rw[e];exact a1.inv.mem.kills lo,by show fP (au (dZ s1.mem lo));rw[e];exact a1.inv.num.kills lo⟩,by show s1.calls-1=s.calls-1;omega,by show _<=(au (dZ s1.mem lo)).length;rw[el];exact a1.grow,by show s.steps<=s1.steps;omega,by show lY (au (dZ s1.mem lo)).length u;rw[el];exact a6 u rfl⟩
theorem AL:∀(l:List jR){M:List MO},b9 (au M)->(∀o,o∈l->q9 o/\∀x,x∈o.init->bz x)->(au M).length+l.length<=4294967296->b9 (au (bf M l))
 |[],M,h,_,_=>h
 |o::l,M,h,ho,hm=>by
  have h1:=ho o (by simp);simp only[List.length_cons]at hm;have h2:=wX h o h1.1.1 (by have:=h1.1.2.2.1;omega) h1.2 (by rw[pQ];omega);rw[uT]at h2;refine AL l (M:=gG M o) (by rw[rQ];exact h2) (λx hx=>ho x (List.mem_cons_of_mem _ hx)) ?_;rw[rQ,wY];omega
theorem p7{g:aP}{s:St}{args:List V}(hg:Dg p g)(uZ:g.ay=nt)(hI:GInv ah s)(ha:∀v,v∈args->lY (au s.mem).length v)(OH:args.length<=nt)(yF:p.ax.length<(au s.mem).length)(hf:ah<=100000000)(hst:s.steps+aS g.az<=ah):
  GInv ah {s with calls:=s.calls+1,deep:=max s.deep (s.calls+1),steps:=s.steps+aS g.az,mem:=bf s.mem g.az}/\dW (au (bf s.mem g.az)) (gm nt args) (eE s.mem g.az.length) p.ax.length/\(gm nt args).length=nt/\(eE s.mem g.az.length).length=g.az.length/\(au (bf s.mem g.az)).length=(au s.mem).length+g.az.length:=by
 have hcb:=dU (λo ho=>(hg.Uo o ho).1);have Iy:=pR s.mem g.az;have h1:=hI.lo;have h2:=hI.many;have h3:=hI.outs;have h4:=hI.calls;have h5:=hI.deep;have gP:=dY s.mem;refine⟨⟨hI.kind,by show 0<=s.steps+_;omega,hst,?_,?_,by show 0<=s.calls+1;omega,by show 0<=max s.deep (s.calls+1);omega,hI.inp,?_,?_⟩,⟨?_,?_,by omega⟩,?_,fM _ _,Iy⟩
 ·show(au (bf s.mem g.az)).length<=20+(s.steps+aS g.az).toNat;omega
 ·show s.out.length<=(s.steps+aS g.az).toNat;omega
 ·exact AL g.az hI.mem hg.Uo (by omega)
 ·show fP (au (bf s.mem g.az));rw[<-rP];exact hI.num.makes g.az
 ·intro v hv;unfold gm at hv;rw[List.mem_append]at hv;rcases hv with hv|hv
  ·exact(ha v hv).mono (by omega)
  ·rw[List.mem_replicate]at hv;rw[hv.2];exact lY.num (by omega) (by unfold bz;omega)
 ·intro x hx;unfold eE at hx;simp only[List.mem_map,List.mem_range]at hx;obtain⟨i,hi,rfl⟩:=hx;rw[<-gq];omega
 ·unfold gm;rw[List.length_append,List.length_replicate];omega
end
theorem vC{p:aM}{ah:Int}{d f:Nat}{g:aP}{args:List V}{s:St}(hg:p.funcs[f]? =some g)(hy:(aW ah (aS g.az) {s with calls:=s.calls+1,deep:=max s.deep (s.calls+1)}).1=false):
  mF p ah (d+1) f args s=(none,(aW ah (aS g.az) {s with calls:=s.calls+1,deep:=max s.deep (s.calls+1)}).2):=by
 simp only[mF,Int.toNat_natCast,List.getD_eq_getElem?_getD,hg,Option.getD_some,hy,if_true]
theorem yP{p:aM}{ah:Int}{d f nt:Nat}{g:aP}{args:List V}{s:St}(hg:p.funcs[f]? =some g)(uZ:g.ay=nt)(hy:(aW ah (aS g.az) {s with calls:=s.calls+1,deep:=max s.deep (s.calls+1)}).1=true):
  mF p ah (d+1) f args s=eQ (mF p ah d) ah (eE s.mem g.az.length) g.blocks (ah-(s.steps+aS g.az)+1).toNat 0 {s with calls:=s.calls+1,deep:=max s.deep (s.calls+1),steps:=s.steps+aS g.az,mem:=bf s.mem g.az} (gm nt args):=by
 obtain⟨qE,pU,iY⟩:=cO hy;simp only[mF,Int.toNat_natCast,List.getD_eq_getElem?_getD,hg,Option.getD_some,hy,Bool.true_eq_false,if_false,iY,uZ]
theorem yO{p:aM}(hp:sP p){ah:Int}(hf:ah<=100000000):∀(d:Nat)(c:Int),zK p ah c (mF p ah d)
 |0,c,f,g,args,s,v,s',_,_,_,_,_,_,h=>by
  rw[mF]at h;cases h
 |d+1,c,f,g,args,s,v,s',hg,OH,hI,hc,ha,yF,h=>by
  have hfn:=hp.fns g (List.mem_of_getElem? hg);obtain⟨nt,uZ,Ra,df⟩:=hfn.nt;have XT:=hfn.params;by_cases hy:(aW ah (aS g.az) {s with calls:=s.calls+1,deep:=max s.deep (s.calls+1)}).1=true
  ·rw[yP hg uZ hy]at h;obtain⟨_,pU,_⟩:=cO hy;simp only at pU;obtain⟨k1,k2,k3,k4,k5⟩:=p7 hfn uZ hI ha (by omega) yF hf (by omega);obtain⟨b1,b2,b3,b4,b5⟩:=zI (λc=>yO hp hf d c) k4 df _ 0 k1 (by show 1<=s.calls+1;have:=hI.calls;omega) k2 k3 (by omega) (by have:=hfn.one;omega) h;have hcb:=dU (λo ho=>(hfn.Uo o ho).1);refine⟨⟨b1,by rw[b2];show s.calls+1-1=s.calls;omega,?_,?_⟩,b5⟩
   ·have b3':(au (bf s.mem g.az)).length<=(au s'.mem).length:=b3;omega
   ·have b4':s.steps+aS g.az<=s'.steps:=b4;omega
  ·rw[vC hg (by simpa using hy)]at h;cases h
end Go.Proofs.YtikbdplllopjlaaGreat
namespace Go.Proofs.YtikbdplllopjlaaGreat
open Go.RowKit
def mH(ai cb hb:Nat)(ah:Int)(fb tb:Nat)(lv:Value)(lo:List Nat)(own:Nat->Prop)(r:Bool×St×List V)(w:World)(e:Ending)(w':World):Prop:=
 e= .returned (.bool r.1)/\∃own':Nat->Prop,(∀k,own k->own' k)/\(∀k,own' k->own k\/w.heap.size<=k)/\gS w' ai own' cb hb ah r.2.1/\(r.1=true->cD w' fb tb r.2.2 lv lo)/\Wr (λb=>own b\/b=tb) w w'
theorem L4{R:cC}{ah:Int}{lo:List Nat}{s:St}{tp:List V}{x:cM}(h:(aW ah 1 s).1=false):bu R ah lo s tp x=(false,(aW ah 1 s).2,tp):=by
 unfold bu;rw[if_pos h]
theorem Jd{R:cC}{ah:Int}{lo:List Nat}{s:St}{tp:List V}{x:cM}(h:(aW ah 1 s).1=true)(he:aD s.mem tp lo x.args=none):bu R ah lo s tp x=(false,{(aW ah 1 s).2 with kind:=3},tp):=by
 unfold bu;rw[if_neg (by rw[h];simp),sF,he]
theorem Lz(ai cb hb rb fb tb:Nat)(own:Nat->Prop)(P:Value×Value×Value)(gv lv:Value)(ah:Int)(s:St)(tp:List V)(lo:List Nat)(ng:Nat)(R:cC)(op dst size fn:Int)(ks:List T)(A:Option Addr)(n aA:Nat)(w:World)
  (h:gS w ai own cb hb ah s)(hR:jS w rb cb hb P gv ng)(hF:cD w fb tb tp lv lo)(hO:mQ ai own rb fb tb lv gv)(gD:dW (au s.mem) tp lo ng)(hI:GInv ah s)(hf:ah<=100000000)(fH:fY tp.length lo.length ng ks)(hk:bC w ai ks A n)(hn:n<=1000)
  (hy:(aW ah 1 s).1=false):
  Calls prog 64 #[.pointer (some ⟨rb,0,none⟩),.pointer (some ⟨fb,0,none⟩),.agg #[.int .i64 op,.int .i64 dst,.int .i64 size,.int .i64 fn,.slice A n aA]] w λe w'=>mH ai cb hb ah fb tb lv lo own (bu R ah lo s tp ⟨op,dst,size,fn,ks⟩) w e w':=by
 rw[L4 hy];have df:=h.blocks;have hcb:=df.2.2 cb df.1;have rK:=hR.row.lt;have r0:=hR.row.cell (j:=0) rfl;have mN:rb≠cb:=λe=>hO.BN.1 (e▸df.1);have qN:=ae (iN (w:=w.alloc (.cells #[.int .i64 op,.int .i64 dst,.int .i64 size,.int .i64 fn,.slice A n aA] 96)) 1 (h.below (aj _ _)) hI.kind hf hI.lo hI.hi (by omega) (by omega));have HR:=ae hR;have HF:=ae hF;have HO:=ae hO;have dR:=ae df;have zO:rb<w.heap.size+1:=by omega
 have iL:=ae (Row.new w #[.int .i64 op,.int .i64 dst,.int .i64 size,.int .i64 fn,.slice A n aA] 96);have BS:=ae gD;rw[hy]at qN;clear h hR hF hO gD hI fH hk df hy;go_enter func64,ntmps64;refine ak λQ HQ=>?_;go_wp2_with fail;refine qN.mono ?_;rintro e w1 ⟨rfl,qG,bT⟩;have sA:=ae qG;have dG:=ae ((Wr.of_below (F:=λb=>b=cb) (aj w (.cells #[.int .i64 op,.int .i64 dst,.int .i64 size,.int .i64 fn,.slice A n aA] 96))).trans bT (λ_ h=>aH h));clear qG bT;go_wp2_with fail;refine HQ _ _ _ ?_;exact aR (v:= .bool false) (by simp[results,results64,go_sem]) rfl ⟨rfl,own,λ_ h=>h,λ_ h=>aH h,sA.out,λh=>(by cases h),dG.mono (λi hi=>aH (aH (hi▸dR.1)))⟩
theorem IQ(ai cb hb rb fb tb:Nat)(own:Nat->Prop)(P:Value×Value×Value)(gv lv:Value)(ah:Int)(s:St)(tp:List V)(lo:List Nat)(ng:Nat)(R:cC)(op dst size fn:Int)(ks:List T)(A:Option Addr)(n aA:Nat)(w:World)
  (h:gS w ai own cb hb ah s)(hR:jS w rb cb hb P gv ng)(hF:cD w fb tb tp lv lo)(hO:mQ ai own rb fb tb lv gv)(gD:dW (au s.mem) tp lo ng)(hI:GInv ah s)(hf:ah<=100000000)(fH:fY tp.length lo.length ng ks)(hk:bC w ai ks A n)(hn:n<=1000)
  (hy:(aW ah 1 s).1=true)(he:aD s.mem tp lo ks=none):
  Calls prog 64 #[.pointer (some ⟨rb,0,none⟩),.pointer (some ⟨fb,0,none⟩),.agg #[.int .i64 op,.int .i64 dst,.int .i64 size,.int .i64 fn,.slice A n aA]] w λe w'=>mH ai cb hb ah fb tb lv lo own (bu R ah lo s tp ⟨op,dst,size,fn,ks⟩) w e w':=by
 rw[Jd hy he];have hm:=sF ah 1 s;obtain⟨e1,kz⟩:=hI.tick (by omega) hy;have df:=h.blocks;have hcb:=df.2.2 cb df.1;have rK:=hR.row.lt;have r0:=hR.row.cell (j:=0) rfl;have mN:rb≠cb:=λe=>hO.BN.1 (e▸df.1);have qN:=ae (iN (w:=w.alloc (.cells #[.int .i64 op,.int .i64 dst,.int .i64 size,.int .i64 fn,.slice A n aA] 96)) 1 (h.below (aj _ _)) hI.kind hf hI.lo hI.hi (by omega) (by omega));have HR:=ae hR;have HF:=ae hF;have HO:=ae hO;have dR:=ae df;have zO:rb<w.heap.size+1:=by omega
 have iL:=ae (Row.new w #[.int .i64 op,.int .i64 dst,.int .i64 size,.int .i64 fn,.slice A n aA] 96);rw[hy,e1]at qN;rw[e1];have BS:=ae gD;have nZ:=ae (And.intro fH he);have HK:=ae hk;have kE:ai<=w.heap.size:=by omega
 clear h hR hF hO gD hI fH hk df hy he hm e1 kz;go_enter func64,ntmps64;refine ak λQ HQ=>?_;go_wp2_with fail;refine qN.mono ?_;rintro e w1 ⟨rfl,qG,bT⟩;have sA:=ae qG;have hW1:Wr (λb=>b=cb) w w1:=(Wr.of_below (F:=λb=>b=cb) (aj w (.cells #[.int .i64 op,.int .i64 dst,.int .i64 size,.int .i64 fn,.slice A n aA] 96))).trans bT (λ_ h=>aH h);have dG:=ae hW1;have Ca:=hW1.size;have hx1:=bT.size;simp only[World.size_alloc]at hx1;have mW:¬w.heap.size=cb:=by omega
 have jc:=HR.wr hW1 mN (λg hg e=>(HO.zq g hg).1 (e▸dR.1));have iK:=ae jc;have jB:=ae (HF.wr hW1 (λe=>HO.GD.1 (e▸dR.1)) (λe=>HO.Dp.1 (e▸dR.1)) (λg hg e=>(HO.E0 g hg).1 (e▸dR.1)));have kA:=ae (iL.wr bT mW);have hx:=kA.out;have b4:=hx.cell (j:=4) rfl;have sI:=hx.lt;have p0:=jc.row.cell (j:=0) rfl;have AY:=jc.row.lt;clear qG bT hW1 jc hx r0;go_wp2_with fail;refine(iA (s:={s with steps:=s.steps+1}) ks A n aA sA.out iK.out jB.out BS.out nZ.1 (HK.below (dG.below kE (λk hk=>by subst hk;omega)) (aN _)) hn).mono ?_;intro e w2 hT;simp only[nZ.2,fJ]at hT;obtain⟨rfl,J5,hw2⟩:=hT;have xU:=ae J5;have gU:=ae (dG.trans hw2 (λ_ h=>aH h));clear J5 hw2;go_wp2_with fail
 refine HQ _ _ _ ?_;exact aR (v:= .bool false) (by simp[results,results64,go_sem]) rfl ⟨rfl,own,λ_ h=>h,λ_ h=>aH h,xU.out,λh=>(by cases h),gU.mono (λi hi=>aH (aH (hi▸dR.1)))⟩
theorem Aw{tp:List V}{m:Nat}{v:V}:pN tp (m:Int) v=tp.set m v:=by
 unfold pN;rw[if_pos (by omega)];rfl
theorem cD.set{w:World}{fb tb:Nat}{tp:List V}{lv:Value}{lo:List Nat}(h:cD w fb tb tp lv lo)(k:Nat)(v:V):
  cD ((w.setCell ⟨tb,k*2,none⟩ (.int .i64 v.obj)).setCell ⟨tb,k*2+1,none⟩ (.int .i64 v.n)) fb tb (tp.set k v) lv lo:=by
 obtain⟨h1,h2,h3,h4,h5,h6⟩:=h;have hw:=eB w tb (k*2) (k*2+1) (.int .i64 v.obj) (.int .i64 v.n);obtain⟨cs,hr,hv⟩:=id h2;refine⟨?_,h2.set k v,aB h3 hw h4,h4,by simpa using h5,h6⟩;rw[List.length_set];exact h1.wr hw (λe=>h1.ne hr (by decide) e)
theorem Bo{ai cb hb fb tb rb:Nat}{own:Nat->Prop}{ah:Int}{s1:St}{tp:List V}{lv gv:Value}{lo:List Nat}{w w2 W:World}(h:gS w2 ai own cb hb ah s1)(hF:cD w2 fb tb tp lv lo)(hO:mQ ai own rb fb tb lv gv)(hw:Wr (λb=>b=cb) w w2)(hcb:own cb)(hb2:Below w2.heap.size w2 W)(m:Nat)(v:V):
  gS ((W.setCell ⟨tb,m*2,none⟩ (.int .i64 v.obj)).setCell ⟨tb,m*2+1,none⟩ (.int .i64 v.n)) ai own cb hb ah s1/\cD ((W.setCell ⟨tb,m*2,none⟩ (.int .i64 v.obj)).setCell ⟨tb,m*2+1,none⟩ (.int .i64 v.n)) fb tb (tp.set m v) lv lo/\
  Wr (λb=>own b\/b=tb) w ((W.setCell ⟨tb,m*2,none⟩ (.int .i64 v.obj)).setCell ⟨tb,m*2+1,none⟩ (.int .i64 v.n)):=by
 have Lg:=eB W tb (m*2) (m*2+1) (.int .i64 v.obj) (.int .i64 v.n);exact⟨(h.below hb2).wr Lg (λk hk=>(by subst hk;exact⟨hO.Dp.2,hO.Dp.1⟩)),(hF.below hb2).set m v,
  ((hw.mono (λi hi=>aH (aH (hi▸hcb)))).trans (di hb2) (λ_ h=>h.elim)).trans Lg (λi hi=>aH (aT hi))⟩
theorem OT{ai cb hb fb tb:Nat}{own F:Nat->Prop}{ah:Int}{s1:St}{tp Wh:List V}{lv:Value}{lo:List Nat}{w w3 W:World}(h:gS w3 ai own cb hb ah s1)(hF:cD w3 fb tb tp lv lo)(hF0:cD w fb tb Wh lv lo)(hown:∀k,own k->k<w.heap.size)(kE:ai<=w.heap.size)
  (hW:Wr F w3 W)(FC:∀k,F k->w.heap.size<=k):gS W ai own cb hb ah s1/\cD W fb tb tp lv lo:=by
 have hl:=hF0.lt;refine⟨h.wr hW (λk hk=>⟨by have:=FC k hk;omega,λho=>by have:=FC k hk;have:=hown k ho;omega⟩),hF.wr hW (λhk=>by have:=FC _ hk;omega) (λhk=>by have:=FC _ hk;omega) (λg hg hk=>?_)⟩;obtain⟨_,cs,hr⟩:=aC hF0.az hg;have:=hr.lt;have:=FC _ hk;omega
theorem Lu(ai cb hb rb fb tb:Nat)(own:Nat->Prop)(P:Value×Value×Value)(gv lv:Value)(ah:Int)(s:St)(tp:List V)(lo:List Nat)(ng:Nat)(R:cC)(size fn:Int)(m:Nat)(ks:List T)(A:Option Addr)(n aA:Nat)(w:World)
  (h:gS w ai own cb hb ah s)(hR:jS w rb cb hb P gv ng)(hF:cD w fb tb tp lv lo)(hO:mQ ai own rb fb tb lv gv)(gD:dW (au s.mem) tp lo ng)(hI:GInv ah s)(hf:ah<=100000000)(fH:fY tp.length lo.length ng ks)(hk:bC w ai ks A n)(hn:n<=1000)
  (hy:(aW ah 1 s).1=true)(l:List V)(he:aD s.mem tp lo ks=some l)(hl:l.length=1)(Re:m<tp.length):
  Calls prog 64 #[.pointer (some ⟨rb,0,none⟩),.pointer (some ⟨fb,0,none⟩),.agg #[.int .i64 1,.int .i64 (m:Int),.int .i64 size,.int .i64 fn,.slice A n aA]] w λe w'=>mH ai cb hb ah fb tb lv lo own (bu R ah lo s tp ⟨1,(m:Int),size,fn,ks⟩) w e w':=by
 obtain⟨e1,kz⟩:=hI.tick (by omega) hy;rw[cF hy e1 he];have hres:ik R {s with steps:=s.steps+1} tp ⟨1,(m:Int),size,fn,ks⟩ l=(true,{s with steps:=s.steps+1},tp.set m (l.getD 0 ⟨0,0⟩)):=by
  unfold ik;rw[if_pos rfl,Aw]
 rw[hres];have df:=h.blocks;have hcb:=df.2.2 cb df.1;have rK:=hR.row.lt;have r0:=hR.row.cell (j:=0) rfl;have mN:rb≠cb:=λe=>hO.BN.1 (e▸df.1);have qN:=ae (iN (w:=w.alloc (.cells #[.int .i64 1,.int .i64 (m:Int),.int .i64 size,.int .i64 fn,.slice A n aA] 96)) 1 (h.below (aj _ _)) hI.kind hf hI.lo hI.hi (by omega) (by omega));have HR:=ae hR;have HF:=ae hF;have HO:=ae hO;have dR:=ae df;have zO:rb<w.heap.size+1:=by omega
 have iL:=ae (Row.new w #[.int .i64 1,.int .i64 (m:Int),.int .i64 size,.int .i64 fn,.slice A n aA] 96);rw[hy,e1]at qN;have BS:=ae gD;have nZ:=ae (And.intro fH he);have HK:=ae hk;have kE:ai<=w.heap.size:=by omega
 clear h hR hF hO gD hI fH hk df hy he e1 kz hres;go_enter func64,ntmps64;refine ak λQ HQ=>?_;go_wp2_with fail;refine qN.mono ?_;rintro e w1 ⟨rfl,qG,bT⟩;have sA:=ae qG;have hW1:Wr (λb=>b=cb) w w1:=(Wr.of_below (F:=λb=>b=cb) (aj w (.cells #[.int .i64 1,.int .i64 (m:Int),.int .i64 size,.int .i64 fn,.slice A n aA] 96))).trans bT (λ_ h=>aH h);have dG:=ae hW1;have Ca:=hW1.size;have hx1:=bT.size;simp only[World.size_alloc]at hx1;have mW:¬w.heap.size=cb:=by omega
 have jc:=HR.wr hW1 mN (λg hg e=>(HO.zq g hg).1 (e▸dR.1));have iK:=ae jc;have jB:=ae (HF.wr hW1 (λe=>HO.GD.1 (e▸dR.1)) (λe=>HO.Dp.1 (e▸dR.1)) (λg hg e=>(HO.E0 g hg).1 (e▸dR.1)));have kA:=ae (iL.wr bT mW);have hx:=kA.out;have b4:=hx.cell (j:=4) rfl;have sI:=hx.lt;have p0:=jc.row.cell (j:=0) rfl;have AY:=jc.row.lt;clear qG bT hW1 jc hx r0;go_wp2_with fail;refine(iA (s:={s with steps:=s.steps+1}) ks A n aA sA.out iK.out jB.out BS.out nZ.1 (HK.below (dG.below kE (λk hk=>by subst hk;omega)) (aN _)) hn).mono ?_;intro e w2 hT;simp only[nZ.2,fJ]at hT;obtain⟨pv,rfl,hown2,hb2⟩:=hT;have B9:=hb2.size;have xU:=ae (sA.below hb2);have bL:=ae hb2;have jr:=ae hown2
 have jq:=ae (kA.below hb2 sI);have jX:=ae (iK.below hb2);have iy:=ae (jB.below hb2);have x0:=jq.cell (j:=0) rfl;have x1:=jq.cell (j:=1) rfl;have x2:=jq.cell (j:=2) rfl;have x3:=jq.cell (j:=3) rfl;have zN:=jq.lt;have p2:=jX.row.cell (j:=0) rfl;have p3:=jX.row.cell (j:=4) rfl;have Cf:=jX.row.lt;have Ce:rb<w2.heap.size+1:=by omega
 have Dt:w.heap.size<w2.heap.size+1:=by omega
 have gU:=ae (dG.trans (di hb2) (λ_ h=>h.elim));clear hb2 hown2 b4 p0;obtain⟨v,rfl⟩:∃v,l=[v]:=nH hl;obtain⟨g,iE,rfl,hg0,hg1,Be⟩:=bQ jr.out rfl (by simp);obtain⟨v0,v1⟩:=Be 0 v rfl;simp only[Nat.zero_mul,Nat.zero_add,List.length_singleton]at v0 v1;have hg3:g<w2.heap.size+1:=by omega
 have Fu:¬g=w2.heap.size:=by omega
 clear Be;have ft:=iy.row.cell (j:=0) rfl;have hfb2:=iy.row.lt;have htb2:=iy.lt.2;obtain⟨cs,iR,jh⟩:=id iy.ay;have Rc:m<tp.length:=Re;obtain⟨Nc,Nb⟩:=jh.2 m _ (List.getElem?_eq_getElem Rc);have t0:=iR.cell Nc;have t1:=iR.cell Nb;have t2:=iR.free (m*2);have t3:=iR.free (m*2+1);have hfb3:fb<w2.heap.size+1:=by omega
 have htb3:tb<w2.heap.size+1:=by omega
 have htne:¬tb=w2.heap.size:=by omega
 have mX:(0:Int)<=(m:Int):=by omega
 have mr:(m:Int)<(tp.length:Int):=by omega
 have XF:(tp.length:Int)<=1000000:=by have:=iy.few;omega
 clear jh Nc Nb iR;go_wp2_with fail;refine bJ 8 (by kernel_rfl) (by kernel_rfl) ?_;simp only[List.take_succ_cons,List.take_zero,List.drop_succ_cons,List.drop_zero]
 repeat(go_big_quiet_step (fail))
 refine wpQuiet_nil ?_;go_wp2_with fail;refine HQ _ _ _ ?_;obtain⟨z1,z2,z3⟩:=Bo xU.out iy.out HO.out gU.out dR.1 (bI _ _) m v;have Yu:=(aj ((w2.setCell ⟨tb,m*2,none⟩ (.int .i64 v.obj)).setCell ⟨tb,m*2+1,none⟩ (.int .i64 v.n)) (.cells #[.int .i64 v.obj,.int .i64 v.n] 72)).drew;exact aR (v:= .bool true) (by simp[results,results64,go_sem]) rfl ⟨rfl,own,λ_ h=>h,λ_ h=>aH h,z1.below Yu,λ_=>z2.below Yu,z3.trans (di Yu) (λ_ h=>h.elim)⟩
theorem Lx(ai cb hb rb fb tb:Nat)(own:Nat->Prop)(P:Value×Value×Value)(gv lv:Value)(ah:Int)(s:St)(tp:List V)(lo:List Nat)(ng:Nat)(R:cC)(size fn:Int)(m:Nat)(ks:List T)(A:Option Addr)(n aA:Nat)(w:World)
  (h:gS w ai own cb hb ah s)(hR:jS w rb cb hb P gv ng)(hF:cD w fb tb tp lv lo)(hO:mQ ai own rb fb tb lv gv)(gD:dW (au s.mem) tp lo ng)(hI:GInv ah s)(hf:ah<=100000000)(fH:fY tp.length lo.length ng ks)(hk:bC w ai ks A n)(hn:n<=1000)
  (hy:(aW ah 1 s).1=true)(l:List V)(he:aD s.mem tp lo ks=some l)(Re:m<tp.length):
  Calls prog 64 #[.pointer (some ⟨rb,0,none⟩),.pointer (some ⟨fb,0,none⟩),.agg #[.int .i64 5,.int .i64 (m:Int),.int .i64 size,.int .i64 fn,.slice A n aA]] w λe w'=>mH ai cb hb ah fb tb lv lo own (bu R ah lo s tp ⟨5,(m:Int),size,fn,ks⟩) w e w':=by
 obtain⟨e1,kz⟩:=hI.tick (by omega) hy;rw[cF hy e1 he];have hres:ik R {s with steps:=s.steps+1} tp ⟨5,(m:Int),size,fn,ks⟩ l=(true,(I1 {s with steps:=s.steps+1}).2,tp.set m ⟨0,(I1 {s with steps:=s.steps+1}).1⟩):=by
  unfold ik I1;rw[if_neg (show¬(5:Int)=1 by decide),if_neg (show¬(5:Int)=2 by decide),if_neg (show¬(5:Int)=3 by decide),if_pos rfl];cases gZ:s.inp<;>simp only[gZ,Aw]
 rw[hres];have df:=h.blocks;have hcb:=df.2.2 cb df.1;have rK:=hR.row.lt;have r0:=hR.row.cell (j:=0) rfl;have mN:rb≠cb:=λe=>hO.BN.1 (e▸df.1);have qN:=ae (iN (w:=w.alloc (.cells #[.int .i64 5,.int .i64 (m:Int),.int .i64 size,.int .i64 fn,.slice A n aA] 96)) 1 (h.below (aj _ _)) hI.kind hf hI.lo hI.hi (by omega) (by omega));have HR:=ae hR;have HF:=ae hF;have HO:=ae hO;have dR:=ae df;have zO:rb<w.heap.size+1:=by omega
 have iL:=ae (Row.new w #[.int .i64 5,.int .i64 (m:Int),.int .i64 size,.int .i64 fn,.slice A n aA] 96);rw[hy,e1]at qN;have BS:=ae gD;have nZ:=ae (And.intro fH he);have HK:=ae hk;have kE:ai<=w.heap.size:=by omega
 clear h hR hF hO gD hI fH hk df hy he e1 kz hres;go_enter func64,ntmps64;refine ak λQ HQ=>?_;go_wp2_with fail;refine qN.mono ?_;rintro e w1 ⟨rfl,qG,bT⟩;have sA:=ae qG;have hW1:Wr (λb=>b=cb) w w1:=(Wr.of_below (F:=λb=>b=cb) (aj w (.cells #[.int .i64 5,.int .i64 (m:Int),.int .i64 size,.int .i64 fn,.slice A n aA] 96))).trans bT (λ_ h=>aH h);have dG:=ae hW1;have Ca:=hW1.size;have hx1:=bT.size;simp only[World.size_alloc]at hx1;have mW:¬w.heap.size=cb:=by omega
 have jc:=HR.wr hW1 mN (λg hg e=>(HO.zq g hg).1 (e▸dR.1));have iK:=ae jc;have jB:=ae (HF.wr hW1 (λe=>HO.GD.1 (e▸dR.1)) (λe=>HO.Dp.1 (e▸dR.1)) (λg hg e=>(HO.E0 g hg).1 (e▸dR.1)));have kA:=ae (iL.wr bT mW);have hx:=kA.out;have b4:=hx.cell (j:=4) rfl;have sI:=hx.lt;have p0:=jc.row.cell (j:=0) rfl;have AY:=jc.row.lt;clear qG bT hW1 jc hx r0;go_wp2_with fail;refine(iA (s:={s with steps:=s.steps+1}) ks A n aA sA.out iK.out jB.out BS.out nZ.1 (HK.below (dG.below kE (λk hk=>by subst hk;omega)) (aN _)) hn).mono ?_;intro e w2 hT;simp only[nZ.2,fJ]at hT;obtain⟨pv,rfl,hown2,hb2⟩:=hT;have B9:=hb2.size;have xU:=ae (sA.below hb2);have bL:=ae hb2;have jr:=ae hown2
 have jq:=ae (kA.below hb2 sI);have jX:=ae (iK.below hb2);have iy:=ae (jB.below hb2);have x0:=jq.cell (j:=0) rfl;have x1:=jq.cell (j:=1) rfl;have x2:=jq.cell (j:=2) rfl;have x3:=jq.cell (j:=3) rfl;have zN:=jq.lt;have p2:=jX.row.cell (j:=0) rfl;have p3:=jX.row.cell (j:=4) rfl;have Cf:=jX.row.lt;have Ce:rb<w2.heap.size+1:=by omega
 have Dt:w.heap.size<w2.heap.size+1:=by omega
 have gU:=ae (dG.trans (di hb2) (λ_ h=>h.elim));clear hb2 hown2 b4 p0;have ft:=iy.row.cell (j:=0) rfl;have hfb2:=iy.row.lt;have htb2:=iy.lt.2;obtain⟨cs,iR,jh⟩:=id iy.ay;have Rc:m<tp.length:=Re;obtain⟨Nc,Nb⟩:=jh.2 m _ (List.getElem?_eq_getElem Rc);have t0:=iR.cell Nc;have t1:=iR.cell Nb;have t2:=iR.free (m*2);have t3:=iR.free (m*2+1);have hfb3:fb<w2.heap.size+1:=by omega
 have htb3:tb<w2.heap.size+1:=by omega
 have htne:¬tb=w2.heap.size:=by omega
 have mX:(0:Int)<=(m:Int):=by omega
 have mr:(m:Int)<(tp.length:Int):=by omega
 have XF:(tp.length:Int)<=1000000:=by have:=iy.few;omega
 clear jh Nc Nb iR;go_wp2_with fail;refine(U8 (xU.below (aj w2 (.cells #[.int .i64 0,.int .i64 0] 72)))).mono ?_;rintro e w3 ⟨rfl,DI,hw3⟩;obtain⟨gx,hgx⟩:∃gx,gx=I1 {s with steps:=s.steps+1}:=⟨_,rfl⟩
 rw[<-hgx]at DI ⊢ HQ;have yY:=ae DI;have hz3:=hw3.size;simp only[World.size_alloc]at hz3;have QY:Wr (λb=>b=cb) w2 w3:=(Wr.of_below (F:=λb=>b=cb) (aj w2 (.cells #[.int .i64 0,.int .i64 0] 72))).trans hw3 (λ_ h=>aH h);have lZ:=ae (gU.trans QY (λ_ h=>aH h));have nQ:=ae (iy.wr QY (λe=>HO.GD.1 (e▸dR.1)) (λe=>HO.Dp.1 (e▸dR.1)) (λg hg e=>(HO.E0 g hg).1 (e▸dR.1)));have hx3:=jq.wr QY mW;have y1:=hx3.cell (j:=1) rfl;have hyl:=hx3.lt;have hncw:¬w2.heap.size=cb:=by omega
 have ig:=(Row.new w2 #[.int .i64 0,.int .i64 0] 72).wr hw3 hncw;have z0:=ig.cell (j:=0) rfl;have z1:=ig.cell (j:=1) rfl;have z2:=ig.free 0;have z3:=ig.free 1;have zl:=ig.lt;have u0:=nQ.row.cell (j:=0) rfl;have ul:=nQ.row.lt;have ul2:=nQ.lt.2;obtain⟨cs,iR,jh⟩:=id nQ.ay;obtain⟨Nc,Nb⟩:=jh.2 m _ (List.getElem?_eq_getElem Rc);have u1:=iR.cell Nc;have u2:=iR.cell Nb;have u3:=iR.free (m*2);have u4:=iR.free (m*2+1);have une:¬tb=w2.heap.size:=by omega
 have une2:¬w2.heap.size=tb:=by omega
 have une3:¬w2.heap.size=fb:=by omega
 have WQ:¬w2.heap.size=w.heap.size:=by omega
 clear hgx DI hw3 QY hx3 ig jh iR Nc Nb x0 x1 x2 x3 p2 p3 ft t0 t1 t2 t3;go_wp2_with fail;refine bJ 8 (by kernel_rfl) (by kernel_rfl) ?_;simp only[List.take_succ_cons,List.take_zero,List.drop_succ_cons,List.drop_zero]
 repeat(go_big_quiet_step (fail))
 refine wpQuiet_nil ?_;go_wp2_with fail;refine HQ _ _ _ ?_;have Yv:=eB w3 w2.heap.size 0 1 (.int .i64 0) (.int .i64 gx.1);obtain⟨q1,q2⟩:=OT yY.out nQ.out HF (λk hk=>(dR.2.2 k hk).2) kE Yv (λk hk=>by omega);obtain⟨q3,q4,q5⟩:=Bo (w:=w3.setCell ⟨w2.heap.size,0,none⟩ (.int .i64 0)|>.setCell ⟨w2.heap.size,1,none⟩ (.int .i64 gx.1)) q1 q2 HO (Wr.refl _ _) dR.1 (bI _ _) m ⟨0,gx.1⟩;have q6:=(((lZ.mono (G:=λb=>own b\/b=tb) (λi hi=>aH (aH (hi▸dR.1)))).trans Yv (λi hi=>aT (by omega))).trans q5 (λ_ h=>aH h))
 exact aR (v:= .bool true) (by simp[results,results64,go_sem]) rfl ⟨rfl,own,λ_ h=>h,λ_ h=>aH h,q3.below (bI _ _).drew,λ_=>q4.below (bI _ _).drew,q6.gz⟩
end Go.Proofs.YtikbdplllopjlaaGreat
