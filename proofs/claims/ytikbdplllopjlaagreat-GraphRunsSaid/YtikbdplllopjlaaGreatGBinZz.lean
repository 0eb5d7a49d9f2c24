/- The graph's heap: an op of two. Conditions: as stated. -/
import Derived.Test.YtikbdplllopjlaaGreatGNearZz
set_option linter.unusedVariables false
set_option linter.unusedSimpArgs false
set_option maxHeartbeats 8000000
set_option maxRecDepth 100000
open Go.Proofs.Tryz
namespace Go.Proofs.YtikbdplllopjlaaGreat
open Go.RowKit
theorem Ev{w:World}{B hb n aA:Nat}{A:Option Addr}{M:List MO}(hB:B<=w.heap.size)(aZ:hb<w.heap.size)(hc:w.cell? ⟨hb,0,none⟩=some (.slice A n aA))(hM:cB w B A n M)(W:World)(aG:Below w.heap.size w W):B<=W.heap.size/\hb<W.heap.size/\W.cell? ⟨hb,0,none⟩=some (.slice A n aA)/\cB W B A n M:=⟨Nat.le_trans hB aG.size,kL aZ aG.size,ag hc aG aZ,hM.below (aG.mono hB) (aN _)⟩
theorem M8(hb n aA B:Nat)(op:Int)(a b:V)(A:Option Addr)(M:List MO)(w:World)(hB:B<=w.heap.size)(aZ:hb<w.heap.size)(hc:w.cell? ⟨hb,0,none⟩=some (.slice A n aA))(hM:cB w B A n M)(hka:a.obj≠0->a.obj<M.length/\0<=a.n/\a.n<=512)(hkb:b.obj≠0->b.obj<M.length/\0<=b.n/\b.n<=512)(h0:12<=op)(h1:op<=30)(ha:a.obj=0)(hz:b.obj=0):
  Calls prog 85 #[.pointer (some ⟨hb,0,none⟩),.int .i64 op,.agg #[.int .i64 a.obj,.int .i64 a.n],.agg #[.int .i64 b.obj,.int .i64 b.n]] w λe w'=>e= .returned (.tuple #[.agg #[.int .i64 0,.int .i64 (bO op a.n b.n)],.bool true])/\Below w.heap.size w w':=by
 have ha1:((a.obj:Int)==0)=true:=by simp[ha]
 have ha2:decide ((0:Int)<(a.obj:Int))=false:=by simp[ha]
 have FB:decide (0<a.obj)=false:=by simp[ha]
 have hz1:((b.obj:Int)==0)=true:=by simp[hz]
 have hz2:decide ((0:Int)<(b.obj:Int))=false:=by simp[hz]
 have hz3:decide (0<b.obj)=false:=by simp[hz]
 have Qj:=ae (λW=>qP op a.n b.n W h0 h1);have p9:=ae (Ev hB aZ hc hM);have H3:=ae (m9.mk' w a b);clear hc hM ha hz hka hkb;go_enter func85,ntmps85;refine ak λQ HQ=>?_;go_wp2_with fail;refine(Qj _).mono ?_;rintro e w1 ⟨rfl,q,rfl⟩;have H4:=ae (H3.grow (below_drewN (bI _ _) q));go_wp2_with fail;refine HQ _ _ _ ?_;refine aR (v:= .tuple #[.agg #[.int .i64 0,.int .i64 (bO op a.n b.n)],.bool true]) (by simp[results,results85,go_sem]) rfl ⟨rfl,?_⟩
 exact(H4.below.setCell (by first|(simp;done)|(simp;omega)) _).setCell (by first|(simp;done)|(simp;omega)) _
theorem GZ(hb n aA B:Nat)(op:Int)(a b:V)(A:Option Addr)(M:List MO)(w:World)(hB:B<=w.heap.size)(aZ:hb<w.heap.size)(hc:w.cell? ⟨hb,0,none⟩=some (.slice A n aA))(hM:cB w B A n M)(hka:a.obj≠0->a.obj<M.length/\0<=a.n/\a.n<=512)(hkb:b.obj≠0->b.obj<M.length/\0<=b.n/\b.n<=512)(h0:12<=op)(h1:op<=30)(ha:a.obj≠0)(hz:b.obj≠0):
  Calls prog 85 #[.pointer (some ⟨hb,0,none⟩),.int .i64 op,.agg #[.int .i64 a.obj,.int .i64 a.n],.agg #[.int .i64 b.obj,.int .i64 b.n]] w λe w'=>cH (gR bO M op a b) e/\Below w.heap.size w w':=by
 have ha1:((a.obj:Int)==0)=false:=by simp;exact ha
 have ha2:decide ((0:Int)<(a.obj:Int))=true:=by simp;omega
 have FB:decide (0<a.obj)=true:=by simp;omega
 have hz1:((b.obj:Int)==0)=false:=by simp;exact hz
 have hz2:decide ((0:Int)<(b.obj:Int))=true:=by simp;omega
 have hz3:decide (0<b.obj)=true:=by simp;omega
 have p9:=ae (Ev hB aZ hc hM);have H3:=ae (m9.mk' w a b);have jY:=ae (λW(aG:Below w.heap.size w W)=>Hn hb n aA B op a b A M W (p9.out W aG).1 (p9.out W aG).2.1 (p9.out W aG).2.2.1 (p9.out W aG).2.2.2 ha (hka ha).1 hz (hkb hz).1 h0 h1);obtain⟨sv,rR⟩:∃s,s=gR bO M op a b:=⟨_,rfl⟩
 rw[<-rR]at jY ⊢;clear hc hM rR hka hkb ha hz;go_enter func85,ntmps85;refine ak λQ HQ=>?_;go_wp2_with fail;refine(jY _ H3.below).mono ?_;rintro e w1 ⟨he,hb1⟩;have H4:=ae (H3.grow hb1);clear hb1;have r0:=H4.r2.cell (j:=0) rfl;have r1:=H4.r2.cell (j:=1) rfl;have f0:=H4.r2.free 0;have f1:=H4.r2.free 1;cases sv with
 |none=>
  obtain⟨x,y,rfl⟩:=he;go_wp2_with fail;refine HQ _ _ _ ?_;refine aR (v:= .tuple #[.agg #[.int .i64 x,.int .i64 y],.bool false]) (by simp[results,results85,go_sem,r0,r1]) rfl ⟨⟨x,y,rfl⟩,?_⟩;exact(H4.below.setCell (by first|(simp;done)|(simp;omega)) _).setCell (by first|(simp;done)|(simp;omega)) _
 |some v=>
  simp only[cH,aI]at he;subst he;go_wp2_with fail;refine HQ _ _ _ ?_;refine aR (v:= .tuple #[.agg #[.int .i64 v.obj,.int .i64 v.n],.bool true]) (by simp[results,results85,go_sem,r0,r1]) rfl ⟨by simp[cH,aI],?_⟩;exact(H4.below.setCell (by first|(simp;done)|(simp;omega)) _).setCell (by first|(simp;done)|(simp;omega)) _
theorem Kw(hb n aA B:Nat)(op:Int)(a b:V)(A:Option Addr)(M:List MO)(w:World)(hB:B<=w.heap.size)(aZ:hb<w.heap.size)(hc:w.cell? ⟨hb,0,none⟩=some (.slice A n aA))(hM:cB w B A n M)(hka:a.obj≠0->a.obj<M.length/\0<=a.n/\a.n<=512)(hkb:b.obj≠0->b.obj<M.length/\0<=b.n/\b.n<=512)(h0:12<=op)(h1:op<=30)(ha:a.obj≠0)(hz:b.obj=0)(h2:op=12):
  Calls prog 85 #[.pointer (some ⟨hb,0,none⟩),.int .i64 op,.agg #[.int .i64 a.obj,.int .i64 a.n],.agg #[.int .i64 b.obj,.int .i64 b.n]] w λe w'=>cH (dD M a b.n) e/\Below w.heap.size w w':=by
 subst h2;have ha1:((a.obj:Int)==0)=false:=by simp;exact ha
 have ha2:decide ((0:Int)<(a.obj:Int))=true:=by simp;omega
 have FB:decide (0<a.obj)=true:=by simp;omega
 have hz1:((b.obj:Int)==0)=true:=by simp[hz]
 have hz2:decide ((0:Int)<(b.obj:Int))=false:=by simp[hz]
 have hz3:decide (0<b.obj)=false:=by simp[hz]
 have p9:=ae (Ev hB aZ hc hM);have H3:=ae (m9.mk' w a b);have jY:=ae (λW(aG:Below w.heap.size w W)=>sM hb n aA B (b.n) a A M W (p9.out W aG).1 (p9.out W aG).2.1 (p9.out W aG).2.2.1 (p9.out W aG).2.2.2 ha (hka ha).1 (hka ha).2);obtain⟨sv,rR⟩:∃s,s=dD M a b.n:=⟨_,rfl⟩
 rw[<-rR]at jY ⊢;clear hc hM rR hka hkb ha hz;go_enter func85,ntmps85;refine ak λQ HQ=>?_;go_wp2_with fail;refine(jY _ H3.below).mono ?_;rintro e w1 ⟨he,hb1⟩;have H4:=ae (H3.grow hb1);clear hb1;have r0:=H4.r2.cell (j:=0) rfl;have r1:=H4.r2.cell (j:=1) rfl;have f0:=H4.r2.free 0;have f1:=H4.r2.free 1;cases sv with
 |none=>
  obtain⟨x,y,rfl⟩:=he;go_wp2_with fail;refine HQ _ _ _ ?_;refine aR (v:= .tuple #[.agg #[.int .i64 x,.int .i64 y],.bool false]) (by simp[results,results85,go_sem,r0,r1]) rfl ⟨⟨x,y,rfl⟩,?_⟩;exact(H4.below.setCell (by first|(simp;done)|(simp;omega)) _).setCell (by first|(simp;done)|(simp;omega)) _
 |some v=>
  simp only[cH,aI]at he;subst he;go_wp2_with fail;refine HQ _ _ _ ?_;refine aR (v:= .tuple #[.agg #[.int .i64 v.obj,.int .i64 v.n],.bool true]) (by simp[results,results85,go_sem,r0,r1]) rfl ⟨by simp[cH,aI],?_⟩;exact(H4.below.setCell (by first|(simp;done)|(simp;omega)) _).setCell (by first|(simp;done)|(simp;omega)) _
theorem Kv(hb n aA B:Nat)(op:Int)(a b:V)(A:Option Addr)(M:List MO)(w:World)(hB:B<=w.heap.size)(aZ:hb<w.heap.size)(hc:w.cell? ⟨hb,0,none⟩=some (.slice A n aA))(hM:cB w B A n M)(hka:a.obj≠0->a.obj<M.length/\0<=a.n/\a.n<=512)(hkb:b.obj≠0->b.obj<M.length/\0<=b.n/\b.n<=512)(h0:12<=op)(h1:op<=30)(ha:a.obj=0)(hz:b.obj≠0)(h2:op=12):
  Calls prog 85 #[.pointer (some ⟨hb,0,none⟩),.int .i64 op,.agg #[.int .i64 a.obj,.int .i64 a.n],.agg #[.int .i64 b.obj,.int .i64 b.n]] w λe w'=>cH (dD M b a.n) e/\Below w.heap.size w w':=by
 subst h2;have ha1:((a.obj:Int)==0)=true:=by simp[ha]
 have ha2:decide ((0:Int)<(a.obj:Int))=false:=by simp[ha]
 have FB:decide (0<a.obj)=false:=by simp[ha]
 have hz1:((b.obj:Int)==0)=false:=by simp;exact hz
 have hz2:decide ((0:Int)<(b.obj:Int))=true:=by simp;omega
 have hz3:decide (0<b.obj)=true:=by simp;omega
 have p9:=ae (Ev hB aZ hc hM);have H3:=ae (m9.mk' w a b);have jY:=ae (λW(aG:Below w.heap.size w W)=>sM hb n aA B (a.n) b A M W (p9.out W aG).1 (p9.out W aG).2.1 (p9.out W aG).2.2.1 (p9.out W aG).2.2.2 hz (hkb hz).1 (hkb hz).2);obtain⟨sv,rR⟩:∃s,s=dD M b a.n:=⟨_,rfl⟩
 rw[<-rR]at jY ⊢;clear hc hM rR hka hkb ha hz;go_enter func85,ntmps85;refine ak λQ HQ=>?_;go_wp2_with fail;refine(jY _ H3.below).mono ?_;rintro e w1 ⟨he,hb1⟩;have H4:=ae (H3.grow hb1);clear hb1;have r0:=H4.r2.cell (j:=0) rfl;have r1:=H4.r2.cell (j:=1) rfl;have f0:=H4.r2.free 0;have f1:=H4.r2.free 1;cases sv with
 |none=>
  obtain⟨x,y,rfl⟩:=he;go_wp2_with fail;refine HQ _ _ _ ?_;refine aR (v:= .tuple #[.agg #[.int .i64 x,.int .i64 y],.bool false]) (by simp[results,results85,go_sem,r0,r1]) rfl ⟨⟨x,y,rfl⟩,?_⟩;exact(H4.below.setCell (by first|(simp;done)|(simp;omega)) _).setCell (by first|(simp;done)|(simp;omega)) _
 |some v=>
  simp only[cH,aI]at he;subst he;go_wp2_with fail;refine HQ _ _ _ ?_;refine aR (v:= .tuple #[.agg #[.int .i64 v.obj,.int .i64 v.n],.bool true]) (by simp[results,results85,go_sem,r0,r1]) rfl ⟨by simp[cH,aI],?_⟩;exact(H4.below.setCell (by first|(simp;done)|(simp;omega)) _).setCell (by first|(simp;done)|(simp;omega)) _
theorem Qu(hb n aA B:Nat)(op:Int)(a b:V)(A:Option Addr)(M:List MO)(w:World)(hB:B<=w.heap.size)(aZ:hb<w.heap.size)(hc:w.cell? ⟨hb,0,none⟩=some (.slice A n aA))(hM:cB w B A n M)(hka:a.obj≠0->a.obj<M.length/\0<=a.n/\a.n<=512)(hkb:b.obj≠0->b.obj<M.length/\0<=b.n/\b.n<=512)(h0:12<=op)(h1:op<=30)(ha:a.obj≠0)(hz:b.obj=0)(h2:op=13)(hn:b.n≠0)(hw:IntKind.i64.wrap (-b.n)= -b.n)(hw2:(b.n== -b.n)=false):
  Calls prog 85 #[.pointer (some ⟨hb,0,none⟩),.int .i64 op,.agg #[.int .i64 a.obj,.int .i64 a.n],.agg #[.int .i64 b.obj,.int .i64 b.n]] w λe w'=>cH (dD M a (-b.n)) e/\Below w.heap.size w w':=by
 subst h2;have ha1:((a.obj:Int)==0)=false:=by simp;exact ha
 have ha2:decide ((0:Int)<(a.obj:Int))=true:=by simp;omega
 have FB:decide (0<a.obj)=true:=by simp;omega
 have hz1:((b.obj:Int)==0)=true:=by simp[hz]
 have hz2:decide ((0:Int)<(b.obj:Int))=false:=by simp[hz]
 have hz3:decide (0<b.obj)=false:=by simp[hz]
 have p9:=ae (Ev hB aZ hc hM);have H3:=ae (m9.mk' w a b);have jY:=ae (λW(aG:Below w.heap.size w W)=>sM hb n aA B (-b.n) a A M W (p9.out W aG).1 (p9.out W aG).2.1 (p9.out W aG).2.2.1 (p9.out W aG).2.2.2 ha (hka ha).1 (hka ha).2);obtain⟨sv,rR⟩:∃s,s=dD M a (-b.n):=⟨_,rfl⟩
 rw[<-rR]at jY ⊢;clear hc hM rR hka hkb ha hz hn;go_enter func85,ntmps85;refine ak λQ HQ=>?_;go_wp2_with fail;refine(jY _ H3.below).mono ?_;rintro e w1 ⟨he,hb1⟩;have H4:=ae (H3.grow hb1);clear hb1;have r0:=H4.r2.cell (j:=0) rfl;have r1:=H4.r2.cell (j:=1) rfl;have f0:=H4.r2.free 0;have f1:=H4.r2.free 1;cases sv with
 |none=>
  obtain⟨x,y,rfl⟩:=he;go_wp2_with fail;refine HQ _ _ _ ?_;refine aR (v:= .tuple #[.agg #[.int .i64 x,.int .i64 y],.bool false]) (by simp[results,results85,go_sem,r0,r1]) rfl ⟨⟨x,y,rfl⟩,?_⟩;exact(H4.below.setCell (by first|(simp;done)|(simp;omega)) _).setCell (by first|(simp;done)|(simp;omega)) _
 |some v=>
  simp only[cH,aI]at he;subst he;go_wp2_with fail;refine HQ _ _ _ ?_;refine aR (v:= .tuple #[.agg #[.int .i64 v.obj,.int .i64 v.n],.bool true]) (by simp[results,results85,go_sem,r0,r1]) rfl ⟨by simp[cH,aI],?_⟩;exact(H4.below.setCell (by first|(simp;done)|(simp;omega)) _).setCell (by first|(simp;done)|(simp;omega)) _
theorem M7(hb n aA B:Nat)(op:Int)(a b:V)(A:Option Addr)(M:List MO)(w:World)(hB:B<=w.heap.size)(aZ:hb<w.heap.size)(hc:w.cell? ⟨hb,0,none⟩=some (.slice A n aA))(hM:cB w B A n M)(hka:a.obj≠0->a.obj<M.length/\0<=a.n/\a.n<=512)(hkb:b.obj≠0->b.obj<M.length/\0<=b.n/\b.n<=512)(h0:12<=op)(h1:op<=30)(ha:a.obj≠0)(hz:b.obj=0)(h2:op=13)(jw:(b.n !=0)=false)(hw:IntKind.i64.wrap (-b.n)= -b.n)(hw2:(b.n== -b.n)=true):
  Calls prog 85 #[.pointer (some ⟨hb,0,none⟩),.int .i64 op,.agg #[.int .i64 a.obj,.int .i64 a.n],.agg #[.int .i64 b.obj,.int .i64 b.n]] w λe w'=>cH (dD M a (-b.n)) e/\Below w.heap.size w w':=by
 subst h2;have ha1:((a.obj:Int)==0)=false:=by simp;exact ha
 have ha2:decide ((0:Int)<(a.obj:Int))=true:=by simp;omega
 have FB:decide (0<a.obj)=true:=by simp;omega
 have hz1:((b.obj:Int)==0)=true:=by simp[hz]
 have hz2:decide ((0:Int)<(b.obj:Int))=false:=by simp[hz]
 have hz3:decide (0<b.obj)=false:=by simp[hz]
 have p9:=ae (Ev hB aZ hc hM);have H3:=ae (m9.mk' w a b);have jY:=ae (λW(aG:Below w.heap.size w W)=>sM hb n aA B (-b.n) a A M W (p9.out W aG).1 (p9.out W aG).2.1 (p9.out W aG).2.2.1 (p9.out W aG).2.2.2 ha (hka ha).1 (hka ha).2);obtain⟨sv,rR⟩:∃s,s=dD M a (-b.n):=⟨_,rfl⟩
 rw[<-rR]at jY ⊢;clear hc hM rR hka hkb ha hz;go_enter func85,ntmps85;refine ak λQ HQ=>?_;go_wp2_with fail;refine(jY _ H3.below).mono ?_;rintro e w1 ⟨he,hb1⟩;have H4:=ae (H3.grow hb1);clear hb1;have r0:=H4.r2.cell (j:=0) rfl;have r1:=H4.r2.cell (j:=1) rfl;have f0:=H4.r2.free 0;have f1:=H4.r2.free 1;cases sv with
 |none=>
  obtain⟨x,y,rfl⟩:=he;go_wp2_with fail;refine HQ _ _ _ ?_;refine aR (v:= .tuple #[.agg #[.int .i64 x,.int .i64 y],.bool false]) (by simp[results,results85,go_sem,r0,r1]) rfl ⟨⟨x,y,rfl⟩,?_⟩;exact(H4.below.setCell (by first|(simp;done)|(simp;omega)) _).setCell (by first|(simp;done)|(simp;omega)) _
 |some v=>
  simp only[cH,aI]at he;subst he;go_wp2_with fail;refine HQ _ _ _ ?_;refine aR (v:= .tuple #[.agg #[.int .i64 v.obj,.int .i64 v.n],.bool true]) (by simp[results,results85,go_sem,r0,r1]) rfl ⟨by simp[cH,aI],?_⟩;exact(H4.below.setCell (by first|(simp;done)|(simp;omega)) _).setCell (by first|(simp;done)|(simp;omega)) _
theorem EI(hb n aA B:Nat)(op:Int)(a b:V)(A:Option Addr)(M:List MO)(w:World)(hB:B<=w.heap.size)(aZ:hb<w.heap.size)(hc:w.cell? ⟨hb,0,none⟩=some (.slice A n aA))(hM:cB w B A n M)(hka:a.obj≠0->a.obj<M.length/\0<=a.n/\a.n<=512)(hkb:b.obj≠0->b.obj<M.length/\0<=b.n/\b.n<=512)(h0:12<=op)(h1:op<=30)(ha:a.obj≠0)(hz:b.obj=0)(h2:op=13)(hn:(b.n !=0)=true)(hw:IntKind.i64.wrap (-b.n)=b.n):
  Calls prog 85 #[.pointer (some ⟨hb,0,none⟩),.int .i64 op,.agg #[.int .i64 a.obj,.int .i64 a.n],.agg #[.int .i64 b.obj,.int .i64 b.n]] w λe w'=>e= .returned (.tuple #[.agg #[.int .i64 0,.int .i64 (0)],.bool false])/\Below w.heap.size w w':=by
 subst h2;have ha1:((a.obj:Int)==0)=false:=by simp;exact ha
 have ha2:decide ((0:Int)<(a.obj:Int))=true:=by simp;omega
 have FB:decide (0<a.obj)=true:=by simp;omega
 have hz1:((b.obj:Int)==0)=true:=by simp[hz]
 have hz2:decide ((0:Int)<(b.obj:Int))=false:=by simp[hz]
 have hz3:decide (0<b.obj)=false:=by simp[hz]
 have p9:=ae (Ev hB aZ hc hM);have H3:=ae (m9.mk' w a b);clear hc hM hka hkb ha hz;go_enter func85,ntmps85;refine ak λQ HQ=>?_;go_wp2_with fail;refine HQ _ _ _ ?_;refine aR (v:= .tuple #[.agg #[.int .i64 0,.int .i64 (0)],.bool false]) (by simp[results,results85,go_sem]) rfl ⟨rfl,?_⟩
 first|exact aO _ _ _ _|exact((aO _ _ _ _).setCell (by first|(simp;done)|(simp;omega)) _).setCell (by first|(simp;done)|(simp;omega)) _
theorem Am(hb n aA B:Nat)(op:Int)(a b:V)(A:Option Addr)(M:List MO)(w:World)(hB:B<=w.heap.size)(aZ:hb<w.heap.size)(hc:w.cell? ⟨hb,0,none⟩=some (.slice A n aA))(hM:cB w B A n M)(hka:a.obj≠0->a.obj<M.length/\0<=a.n/\a.n<=512)(hkb:b.obj≠0->b.obj<M.length/\0<=b.n/\b.n<=512)(h0:12<=op)(h1:op<=30)(ha:a.obj≠0)(hz:b.obj=0)(h2:op=25)(hn:(b.n==0)=true):
  Calls prog 85 #[.pointer (some ⟨hb,0,none⟩),.int .i64 op,.agg #[.int .i64 a.obj,.int .i64 a.n],.agg #[.int .i64 b.obj,.int .i64 b.n]] w λe w'=>e= .returned (.tuple #[.agg #[.int .i64 0,.int .i64 (0)],.bool true])/\Below w.heap.size w w':=by
 subst h2;have ha1:((a.obj:Int)==0)=false:=by simp;exact ha
 have ha2:decide ((0:Int)<(a.obj:Int))=true:=by simp;omega
 have FB:decide (0<a.obj)=true:=by simp;omega
 have hz1:((b.obj:Int)==0)=true:=by simp[hz]
 have hz2:decide ((0:Int)<(b.obj:Int))=false:=by simp[hz]
 have hz3:decide (0<b.obj)=false:=by simp[hz]
 have p9:=ae (Ev hB aZ hc hM);have H3:=ae (m9.mk' w a b);clear hc hM hka hkb ha hz;go_enter func85,ntmps85;refine ak λQ HQ=>?_;go_wp2_with fail;refine HQ _ _ _ ?_;refine aR (v:= .tuple #[.agg #[.int .i64 0,.int .i64 (0)],.bool true]) (by simp[results,results85,go_sem]) rfl ⟨rfl,?_⟩
 first|exact aO _ _ _ _|exact((aO _ _ _ _).setCell (by first|(simp;done)|(simp;omega)) _).setCell (by first|(simp;done)|(simp;omega)) _
theorem B3(hb n aA B:Nat)(op:Int)(a b:V)(A:Option Addr)(M:List MO)(w:World)(hB:B<=w.heap.size)(aZ:hb<w.heap.size)(hc:w.cell? ⟨hb,0,none⟩=some (.slice A n aA))(hM:cB w B A n M)(hka:a.obj≠0->a.obj<M.length/\0<=a.n/\a.n<=512)(hkb:b.obj≠0->b.obj<M.length/\0<=b.n/\b.n<=512)(h0:12<=op)(h1:op<=30)(ha:a.obj≠0)(hz:b.obj=0)(h2:op=25)(hn:(b.n==0)=false):
  Calls prog 85 #[.pointer (some ⟨hb,0,none⟩),.int .i64 op,.agg #[.int .i64 a.obj,.int .i64 a.n],.agg #[.int .i64 b.obj,.int .i64 b.n]] w λe w'=>e= .returned (.tuple #[.agg #[.int .i64 0,.int .i64 (0)],.bool false])/\Below w.heap.size w w':=by
 subst h2;have ha1:((a.obj:Int)==0)=false:=by simp;exact ha
 have ha2:decide ((0:Int)<(a.obj:Int))=true:=by simp;omega
 have FB:decide (0<a.obj)=true:=by simp;omega
 have hz1:((b.obj:Int)==0)=true:=by simp[hz]
 have hz2:decide ((0:Int)<(b.obj:Int))=false:=by simp[hz]
 have hz3:decide (0<b.obj)=false:=by simp[hz]
 have p9:=ae (Ev hB aZ hc hM);have H3:=ae (m9.mk' w a b);clear hc hM hka hkb ha hz;go_enter func85,ntmps85;refine ak λQ HQ=>?_;go_wp2_with fail;refine HQ _ _ _ ?_;refine aR (v:= .tuple #[.agg #[.int .i64 0,.int .i64 (0)],.bool false]) (by simp[results,results85,go_sem]) rfl ⟨rfl,?_⟩
 first|exact aO _ _ _ _|exact((aO _ _ _ _).setCell (by first|(simp;done)|(simp;omega)) _).setCell (by first|(simp;done)|(simp;omega)) _
theorem Al(hb n aA B:Nat)(op:Int)(a b:V)(A:Option Addr)(M:List MO)(w:World)(hB:B<=w.heap.size)(aZ:hb<w.heap.size)(hc:w.cell? ⟨hb,0,none⟩=some (.slice A n aA))(hM:cB w B A n M)(hka:a.obj≠0->a.obj<M.length/\0<=a.n/\a.n<=512)(hkb:b.obj≠0->b.obj<M.length/\0<=b.n/\b.n<=512)(h0:12<=op)(h1:op<=30)(ha:a.obj≠0)(hz:b.obj=0)(h2:op=26)(hn:(b.n==0)=true):
  Calls prog 85 #[.pointer (some ⟨hb,0,none⟩),.int .i64 op,.agg #[.int .i64 a.obj,.int .i64 a.n],.agg #[.int .i64 b.obj,.int .i64 b.n]] w λe w'=>e= .returned (.tuple #[.agg #[.int .i64 0,.int .i64 (1)],.bool true])/\Below w.heap.size w w':=by
 subst h2;have ha1:((a.obj:Int)==0)=false:=by simp;exact ha
 have ha2:decide ((0:Int)<(a.obj:Int))=true:=by simp;omega
 have FB:decide (0<a.obj)=true:=by simp;omega
 have hz1:((b.obj:Int)==0)=true:=by simp[hz]
 have hz2:decide ((0:Int)<(b.obj:Int))=false:=by simp[hz]
 have hz3:decide (0<b.obj)=false:=by simp[hz]
 have p9:=ae (Ev hB aZ hc hM);have H3:=ae (m9.mk' w a b);clear hc hM hka hkb ha hz;go_enter func85,ntmps85;refine ak λQ HQ=>?_;go_wp2_with fail;refine HQ _ _ _ ?_;refine aR (v:= .tuple #[.agg #[.int .i64 0,.int .i64 (1)],.bool true]) (by simp[results,results85,go_sem]) rfl ⟨rfl,?_⟩
 first|exact aO _ _ _ _|exact((aO _ _ _ _).setCell (by first|(simp;done)|(simp;omega)) _).setCell (by first|(simp;done)|(simp;omega)) _
theorem B2(hb n aA B:Nat)(op:Int)(a b:V)(A:Option Addr)(M:List MO)(w:World)(hB:B<=w.heap.size)(aZ:hb<w.heap.size)(hc:w.cell? ⟨hb,0,none⟩=some (.slice A n aA))(hM:cB w B A n M)(hka:a.obj≠0->a.obj<M.length/\0<=a.n/\a.n<=512)(hkb:b.obj≠0->b.obj<M.length/\0<=b.n/\b.n<=512)(h0:12<=op)(h1:op<=30)(ha:a.obj≠0)(hz:b.obj=0)(h2:op=26)(hn:(b.n==0)=false):
  Calls prog 85 #[.pointer (some ⟨hb,0,none⟩),.int .i64 op,.agg #[.int .i64 a.obj,.int .i64 a.n],.agg #[.int .i64 b.obj,.int .i64 b.n]] w λe w'=>e= .returned (.tuple #[.agg #[.int .i64 0,.int .i64 (1)],.bool false])/\Below w.heap.size w w':=by
 subst h2;have ha1:((a.obj:Int)==0)=false:=by simp;exact ha
 have ha2:decide ((0:Int)<(a.obj:Int))=true:=by simp;omega
 have FB:decide (0<a.obj)=true:=by simp;omega
 have hz1:((b.obj:Int)==0)=true:=by simp[hz]
 have hz2:decide ((0:Int)<(b.obj:Int))=false:=by simp[hz]
 have hz3:decide (0<b.obj)=false:=by simp[hz]
 have p9:=ae (Ev hB aZ hc hM);have H3:=ae (m9.mk' w a b);clear hc hM hka hkb ha hz;go_enter func85,ntmps85;refine ak λQ HQ=>?_;go_wp2_with fail;refine HQ _ _ _ ?_;refine aR (v:= .tuple #[.agg #[.int .i64 0,.int .i64 (1)],.bool false]) (by simp[results,results85,go_sem]) rfl ⟨rfl,?_⟩
 first|exact aO _ _ _ _|exact((aO _ _ _ _).setCell (by first|(simp;done)|(simp;omega)) _).setCell (by first|(simp;done)|(simp;omega)) _
theorem Na(hb n aA B:Nat)(op:Int)(a b:V)(A:Option Addr)(M:List MO)(w:World)(hB:B<=w.heap.size)(aZ:hb<w.heap.size)(hc:w.cell? ⟨hb,0,none⟩=some (.slice A n aA))(hM:cB w B A n M)(hka:a.obj≠0->a.obj<M.length/\0<=a.n/\a.n<=512)(hkb:b.obj≠0->b.obj<M.length/\0<=b.n/\b.n<=512)(h0:12<=op)(h1:op<=30)(ha:a.obj≠0)(hz:b.obj=0)(h2:op≠12/\op≠25/\op≠26)(h3:op≠13):
  Calls prog 85 #[.pointer (some ⟨hb,0,none⟩),.int .i64 op,.agg #[.int .i64 a.obj,.int .i64 a.n],.agg #[.int .i64 b.obj,.int .i64 b.n]] w λe w'=>e= .returned (.tuple #[.agg #[.int .i64 0,.int .i64 (0)],.bool false])/\Below w.heap.size w w':=by
 have ha1:((a.obj:Int)==0)=false:=by simp;exact ha
 have ha2:decide ((0:Int)<(a.obj:Int))=true:=by simp;omega
 have FB:decide (0<a.obj)=true:=by simp;omega
 have hz1:((b.obj:Int)==0)=true:=by simp[hz]
 have hz2:decide ((0:Int)<(b.obj:Int))=false:=by simp[hz]
 have hz3:decide (0<b.obj)=false:=by simp[hz]
 have e1:(op==12)=false:=by simp;omega
 have e2:(op==25)=false:=by simp;omega
 have e3:(op==26)=false:=by simp;omega
 have e4:(op==13)=false:=by simp;omega
 have p9:=ae (Ev hB aZ hc hM);have H3:=ae (m9.mk' w a b);clear hc hM hka hkb ha hz h2 h3;go_enter func85,ntmps85;refine ak λQ HQ=>?_;go_wp2_with fail;refine HQ _ _ _ ?_;refine aR (v:= .tuple #[.agg #[.int .i64 0,.int .i64 (0)],.bool false]) (by simp[results,results85,go_sem]) rfl ⟨rfl,?_⟩
 first|exact aO _ _ _ _|exact((aO _ _ _ _).setCell (by first|(simp;done)|(simp;omega)) _).setCell (by first|(simp;done)|(simp;omega)) _
theorem Ak(hb n aA B:Nat)(op:Int)(a b:V)(A:Option Addr)(M:List MO)(w:World)(hB:B<=w.heap.size)(aZ:hb<w.heap.size)(hc:w.cell? ⟨hb,0,none⟩=some (.slice A n aA))(hM:cB w B A n M)(hka:a.obj≠0->a.obj<M.length/\0<=a.n/\a.n<=512)(hkb:b.obj≠0->b.obj<M.length/\0<=b.n/\b.n<=512)(h0:12<=op)(h1:op<=30)(ha:a.obj=0)(hz:b.obj≠0)(h2:op=25)(hn:(a.n==0)=true):
  Calls prog 85 #[.pointer (some ⟨hb,0,none⟩),.int .i64 op,.agg #[.int .i64 a.obj,.int .i64 a.n],.agg #[.int .i64 b.obj,.int .i64 b.n]] w λe w'=>e= .returned (.tuple #[.agg #[.int .i64 0,.int .i64 (0)],.bool true])/\Below w.heap.size w w':=by
 subst h2;have ha1:((a.obj:Int)==0)=true:=by simp[ha]
 have ha2:decide ((0:Int)<(a.obj:Int))=false:=by simp[ha]
 have FB:decide (0<a.obj)=false:=by simp[ha]
 have hz1:((b.obj:Int)==0)=false:=by simp;exact hz
 have hz2:decide ((0:Int)<(b.obj:Int))=true:=by simp;omega
 have hz3:decide (0<b.obj)=true:=by simp;omega
 have p9:=ae (Ev hB aZ hc hM);have H3:=ae (m9.mk' w a b);clear hc hM hka hkb ha hz;go_enter func85,ntmps85;refine ak λQ HQ=>?_;go_wp2_with fail;refine HQ _ _ _ ?_;refine aR (v:= .tuple #[.agg #[.int .i64 0,.int .i64 (0)],.bool true]) (by simp[results,results85,go_sem]) rfl ⟨rfl,?_⟩
 first|exact aO _ _ _ _|exact((aO _ _ _ _).setCell (by first|(simp;done)|(simp;omega)) _).setCell (by first|(simp;done)|(simp;omega)) _
theorem B0(hb n aA B:Nat)(op:Int)(a b:V)(A:Option Addr)(M:List MO)(w:World)(hB:B<=w.heap.size)(aZ:hb<w.heap.size)(hc:w.cell? ⟨hb,0,none⟩=some (.slice A n aA))(hM:cB w B A n M)(hka:a.obj≠0->a.obj<M.length/\0<=a.n/\a.n<=512)(hkb:b.obj≠0->b.obj<M.length/\0<=b.n/\b.n<=512)(h0:12<=op)(h1:op<=30)(ha:a.obj=0)(hz:b.obj≠0)(h2:op=25)(hn:(a.n==0)=false):
  Calls prog 85 #[.pointer (some ⟨hb,0,none⟩),.int .i64 op,.agg #[.int .i64 a.obj,.int .i64 a.n],.agg #[.int .i64 b.obj,.int .i64 b.n]] w λe w'=>e= .returned (.tuple #[.agg #[.int .i64 0,.int .i64 (0)],.bool false])/\Below w.heap.size w w':=by
 subst h2;have ha1:((a.obj:Int)==0)=true:=by simp[ha]
 have ha2:decide ((0:Int)<(a.obj:Int))=false:=by simp[ha]
 have FB:decide (0<a.obj)=false:=by simp[ha]
 have hz1:((b.obj:Int)==0)=false:=by simp;exact hz
 have hz2:decide ((0:Int)<(b.obj:Int))=true:=by simp;omega
 have hz3:decide (0<b.obj)=true:=by simp;omega
 have p9:=ae (Ev hB aZ hc hM);have H3:=ae (m9.mk' w a b);clear hc hM hka hkb ha hz;go_enter func85,ntmps85;refine ak λQ HQ=>?_;go_wp2_with fail;refine HQ _ _ _ ?_;refine aR (v:= .tuple #[.agg #[.int .i64 0,.int .i64 (0)],.bool false]) (by simp[results,results85,go_sem]) rfl ⟨rfl,?_⟩
 first|exact aO _ _ _ _|exact((aO _ _ _ _).setCell (by first|(simp;done)|(simp;omega)) _).setCell (by first|(simp;done)|(simp;omega)) _
theorem Aj(hb n aA B:Nat)(op:Int)(a b:V)(A:Option Addr)(M:List MO)(w:World)(hB:B<=w.heap.size)(aZ:hb<w.heap.size)(hc:w.cell? ⟨hb,0,none⟩=some (.slice A n aA))(hM:cB w B A n M)(hka:a.obj≠0->a.obj<M.length/\0<=a.n/\a.n<=512)(hkb:b.obj≠0->b.obj<M.length/\0<=b.n/\b.n<=512)(h0:12<=op)(h1:op<=30)(ha:a.obj=0)(hz:b.obj≠0)(h2:op=26)(hn:(a.n==0)=true):
  Calls prog 85 #[.pointer (some ⟨hb,0,none⟩),.int .i64 op,.agg #[.int .i64 a.obj,.int .i64 a.n],.agg #[.int .i64 b.obj,.int .i64 b.n]] w λe w'=>e= .returned (.tuple #[.agg #[.int .i64 0,.int .i64 (1)],.bool true])/\Below w.heap.size w w':=by
 subst h2;have ha1:((a.obj:Int)==0)=true:=by simp[ha]
 have ha2:decide ((0:Int)<(a.obj:Int))=false:=by simp[ha]
 have FB:decide (0<a.obj)=false:=by simp[ha]
 have hz1:((b.obj:Int)==0)=false:=by simp;exact hz
 have hz2:decide ((0:Int)<(b.obj:Int))=true:=by simp;omega
 have hz3:decide (0<b.obj)=true:=by simp;omega
 have p9:=ae (Ev hB aZ hc hM);have H3:=ae (m9.mk' w a b);clear hc hM hka hkb ha hz;go_enter func85,ntmps85;refine ak λQ HQ=>?_;go_wp2_with fail;refine HQ _ _ _ ?_;refine aR (v:= .tuple #[.agg #[.int .i64 0,.int .i64 (1)],.bool true]) (by simp[results,results85,go_sem]) rfl ⟨rfl,?_⟩
 first|exact aO _ _ _ _|exact((aO _ _ _ _).setCell (by first|(simp;done)|(simp;omega)) _).setCell (by first|(simp;done)|(simp;omega)) _
theorem BZ(hb n aA B:Nat)(op:Int)(a b:V)(A:Option Addr)(M:List MO)(w:World)(hB:B<=w.heap.size)(aZ:hb<w.heap.size)(hc:w.cell? ⟨hb,0,none⟩=some (.slice A n aA))(hM:cB w B A n M)(hka:a.obj≠0->a.obj<M.length/\0<=a.n/\a.n<=512)(hkb:b.obj≠0->b.obj<M.length/\0<=b.n/\b.n<=512)(h0:12<=op)(h1:op<=30)(ha:a.obj=0)(hz:b.obj≠0)(h2:op=26)(hn:(a.n==0)=false):
  Calls prog 85 #[.pointer (some ⟨hb,0,none⟩),.int .i64 op,.agg #[.int .i64 a.obj,.int .i64 a.n],.agg #[.int .i64 b.obj,.int .i64 b.n]] w λe w'=>e= .returned (.tuple #[.agg #[.int .i64 0,.int .i64 (1)],.bool false])/\Below w.heap.size w w':=by
 subst h2;have ha1:((a.obj:Int)==0)=true:=by simp[ha]
 have ha2:decide ((0:Int)<(a.obj:Int))=false:=by simp[ha]
 have FB:decide (0<a.obj)=false:=by simp[ha]
 have hz1:((b.obj:Int)==0)=false:=by simp;exact hz
 have hz2:decide ((0:Int)<(b.obj:Int))=true:=by simp;omega
 have hz3:decide (0<b.obj)=true:=by simp;omega
 have p9:=ae (Ev hB aZ hc hM);have H3:=ae (m9.mk' w a b);clear hc hM hka hkb ha hz;go_enter func85,ntmps85;refine ak λQ HQ=>?_;go_wp2_with fail;refine HQ _ _ _ ?_;refine aR (v:= .tuple #[.agg #[.int .i64 0,.int .i64 (1)],.bool false]) (by simp[results,results85,go_sem]) rfl ⟨rfl,?_⟩
 first|exact aO _ _ _ _|exact((aO _ _ _ _).setCell (by first|(simp;done)|(simp;omega)) _).setCell (by first|(simp;done)|(simp;omega)) _
theorem M9(hb n aA B:Nat)(op:Int)(a b:V)(A:Option Addr)(M:List MO)(w:World)(hB:B<=w.heap.size)(aZ:hb<w.heap.size)(hc:w.cell? ⟨hb,0,none⟩=some (.slice A n aA))(hM:cB w B A n M)(hka:a.obj≠0->a.obj<M.length/\0<=a.n/\a.n<=512)(hkb:b.obj≠0->b.obj<M.length/\0<=b.n/\b.n<=512)(h0:12<=op)(h1:op<=30)(ha:a.obj=0)(hz:b.obj≠0)(h2:op≠12/\op≠25/\op≠26)(h3:op≠13):
  Calls prog 85 #[.pointer (some ⟨hb,0,none⟩),.int .i64 op,.agg #[.int .i64 a.obj,.int .i64 a.n],.agg #[.int .i64 b.obj,.int .i64 b.n]] w λe w'=>e= .returned (.tuple #[.agg #[.int .i64 0,.int .i64 (0)],.bool false])/\Below w.heap.size w w':=by
 have ha1:((a.obj:Int)==0)=true:=by simp[ha]
 have ha2:decide ((0:Int)<(a.obj:Int))=false:=by simp[ha]
 have FB:decide (0<a.obj)=false:=by simp[ha]
 have hz1:((b.obj:Int)==0)=false:=by simp;exact hz
 have hz2:decide ((0:Int)<(b.obj:Int))=true:=by simp;omega
 have hz3:decide (0<b.obj)=true:=by simp;omega
 have e1:(op==12)=false:=by simp;omega
 have e2:(op==25)=false:=by simp;omega
 have e3:(op==26)=false:=by simp;omega
 have e4:(op==13)=false:=by simp;omega
 have p9:=ae (Ev hB aZ hc hM);have H3:=ae (m9.mk' w a b);clear hc hM hka hkb ha hz h2 h3;go_enter func85,ntmps85;refine ak λQ HQ=>?_;go_wp2_with fail;refine HQ _ _ _ ?_;refine aR (v:= .tuple #[.agg #[.int .i64 0,.int .i64 (0)],.bool false]) (by simp[results,results85,go_sem]) rfl ⟨rfl,?_⟩
 first|exact aO _ _ _ _|exact((aO _ _ _ _).setCell (by first|(simp;done)|(simp;omega)) _).setCell (by first|(simp;done)|(simp;omega)) _
theorem G4(hb n aA B:Nat)(op:Int)(a b:V)(A:Option Addr)(M:List MO)(w:World)(hB:B<=w.heap.size)(aZ:hb<w.heap.size)(hc:w.cell? ⟨hb,0,none⟩=some (.slice A n aA))(hM:cB w B A n M)(hka:a.obj≠0->a.obj<M.length/\0<=a.n/\a.n<=512)(hkb:b.obj≠0->b.obj<M.length/\0<=b.n/\b.n<=512)(h0:12<=op)(h1:op<=30)(ha:a.obj=0)(hz:b.obj≠0)(h2:op=13):
  Calls prog 85 #[.pointer (some ⟨hb,0,none⟩),.int .i64 op,.agg #[.int .i64 a.obj,.int .i64 a.n],.agg #[.int .i64 b.obj,.int .i64 b.n]] w λe w'=>e= .returned (.tuple #[.agg #[.int .i64 0,.int .i64 (0)],.bool false])/\Below w.heap.size w w':=by
 subst h2;have ha1:((a.obj:Int)==0)=true:=by simp[ha]
 have ha2:decide ((0:Int)<(a.obj:Int))=false:=by simp[ha]
 have FB:decide (0<a.obj)=false:=by simp[ha]
 have hz1:((b.obj:Int)==0)=false:=by simp;exact hz
 have hz2:decide ((0:Int)<(b.obj:Int))=true:=by simp;omega
 have hz3:decide (0<b.obj)=true:=by simp;omega
 have p9:=ae (Ev hB aZ hc hM);have H3:=ae (m9.mk' w a b);clear hc hM hka hkb ha hz;go_enter func85,ntmps85;refine ak λQ HQ=>?_;go_wp2_with fail;refine HQ _ _ _ ?_;refine aR (v:= .tuple #[.agg #[.int .i64 0,.int .i64 (0)],.bool false]) (by simp[results,results85,go_sem]) rfl ⟨rfl,?_⟩
 first|exact aO _ _ _ _|exact((aO _ _ _ _).setCell (by first|(simp;done)|(simp;omega)) _).setCell (by first|(simp;done)|(simp;omega)) _
end Go.Proofs.YtikbdplllopjlaaGreat
