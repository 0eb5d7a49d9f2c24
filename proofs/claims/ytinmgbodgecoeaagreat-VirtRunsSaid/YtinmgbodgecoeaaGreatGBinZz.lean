/- The graph's heap: an op of two. Conditions: as stated. -/
import Derived.Test.YtinmgbodgecoeaaGreatGNearZz
set_option linter.unusedSimpArgs false
set_option linter.unusedVariables false
set_option maxHeartbeats 8000000
set_option maxRecDepth 100000
open Go.Proofs.Tryz
namespace Go.Proofs.YtinmgbodgecoeaaGreat
open Go.RowKit
theorem Ff{w:World}{B hb n aA:Nat}{A:Option Addr}{M:List MO}(hB:B<=w.heap.size)(hpb:hb<w.heap.size)(hc:w.cell? ⟨hb,0,none⟩=some (.slice A n aA))(hM:bU w B A n M)(W:World)(aJ:Below w.heap.size w W):B<=W.heap.size/\hb<W.heap.size/\W.cell? ⟨hb,0,none⟩=some (.slice A n aA)/\bU W B A n M:=⟨Nat.le_trans hB aJ.size,fQ hpb aJ.size,ag hc aJ hpb,hM.below (aJ.mono hB) (aY _)⟩
theorem Oj(hb n aA B:Nat)(op:Int)(a b:V)(A:Option Addr)(M:List MO)(w:World)(hB:B<=w.heap.size)(hpb:hb<w.heap.size)(hc:w.cell? ⟨hb,0,none⟩=some (.slice A n aA))(hM:bU w B A n M)(hka:a.obj≠0->a.obj<M.length/\0<=a.n/\a.n<=512)(hkb:b.obj≠0->b.obj<M.length/\0<=b.n/\b.n<=512)(h0:12<=op)(h1:op<=30)(ha:a.obj=0)(hz:b.obj=0):
  Calls prog 100 #[.pointer (some ⟨hb,0,none⟩),.int .i64 op,.agg #[.int .i64 a.obj,.int .i64 a.n],.agg #[.int .i64 b.obj,.int .i64 b.n]] w λe w'=>e= .returned (.tuple #[.agg #[.int .i64 0,.int .i64 (bF op a.n b.n)],.bool true])/\Below w.heap.size w w':=by
 have ha1:((a.obj:Int)==0)=true:=by simp[ha]
 have ha2:decide ((0:Int)<(a.obj:Int))=false:=by simp[ha]
 have GU:decide (0<a.obj)=false:=by simp[ha]
 have hz1:((b.obj:Int)==0)=true:=by simp[hz]
 have hz2:decide ((0:Int)<(b.obj:Int))=false:=by simp[hz]
 have hz3:decide (0<b.obj)=false:=by simp[hz]
 have Ra:=ae (λW=>rK op a.n b.n W h0 h1);have sQ:=ae (Ff hB hpb hc hM);have H3:=ae (oZ.mk' w a b);clear hc hM ha hz hka hkb;go_enter func100,ntmps100;refine aj λQ HQ=>?_;go_wp2_with fail;refine(Ra _).mono ?_;rintro e w1 ⟨rfl,q,rfl⟩;have H4:=ae (H3.grow (below_drewN (aV _ _) q));go_wp2_with fail;refine HQ _ _ _ ?_;refine aS (v:= .tuple #[.agg #[.int .i64 0,.int .i64 (bF op a.n b.n)],.bool true]) (by simp[results,results100,go_sem]) rfl ⟨rfl,?_⟩
 exact(H4.below.setCell (by first|(simp;done)|(simp;omega)) _).setCell (by first|(simp;done)|(simp;omega)) _
theorem Ji(hb n aA B:Nat)(op:Int)(a b:V)(A:Option Addr)(M:List MO)(w:World)(hB:B<=w.heap.size)(hpb:hb<w.heap.size)(hc:w.cell? ⟨hb,0,none⟩=some (.slice A n aA))(hM:bU w B A n M)(hka:a.obj≠0->a.obj<M.length/\0<=a.n/\a.n<=512)(hkb:b.obj≠0->b.obj<M.length/\0<=b.n/\b.n<=512)(h0:12<=op)(h1:op<=30)(ha:a.obj≠0)(hz:b.obj≠0):
  Calls prog 100 #[.pointer (some ⟨hb,0,none⟩),.int .i64 op,.agg #[.int .i64 a.obj,.int .i64 a.n],.agg #[.int .i64 b.obj,.int .i64 b.n]] w λe w'=>cN (dm bF M op a b) e/\Below w.heap.size w w':=by
 have ha1:((a.obj:Int)==0)=false:=by simp;exact ha
 have ha2:decide ((0:Int)<(a.obj:Int))=true:=by simp;omega
 have GU:decide (0<a.obj)=true:=by simp;omega
 have hz1:((b.obj:Int)==0)=false:=by simp;exact hz
 have hz2:decide ((0:Int)<(b.obj:Int))=true:=by simp;omega
 have hz3:decide (0<b.obj)=true:=by simp;omega
 have sQ:=ae (Ff hB hpb hc hM);have H3:=ae (oZ.mk' w a b);have iE:=ae (λW(aJ:Below w.heap.size w W)=>JJ hb n aA B op a b A M W (sQ.out W aJ).1 (sQ.out W aJ).2.1 (sQ.out W aJ).2.2.1 (sQ.out W aJ).2.2.2 ha (hka ha).1 hz (hkb hz).1 h0 h1);obtain⟨sv,vA⟩:∃s,s=dm bF M op a b:=⟨_,rfl⟩
 rw[<-vA]at iE ⊢;clear hc hM vA hka hkb ha hz;go_enter func100,ntmps100;refine aj λQ HQ=>?_;go_wp2_with fail;refine(iE _ H3.below).mono ?_;rintro e w1 ⟨he,hb1⟩;have H4:=ae (H3.grow hb1);clear hb1;have r0:=H4.r2.cell (j:=0) rfl;have r1:=H4.r2.cell (j:=1) rfl;have f0:=H4.r2.free 0;have f1:=H4.r2.free 1;cases sv with
 |none=>
  obtain⟨x,y,rfl⟩:=he;go_wp2_with fail;refine HQ _ _ _ ?_;refine aS (v:= .tuple #[.agg #[.int .i64 x,.int .i64 y],.bool false]) (by simp[results,results100,go_sem,r0,r1]) rfl ⟨⟨x,y,rfl⟩,?_⟩;exact(H4.below.setCell (by first|(simp;done)|(simp;omega)) _).setCell (by first|(simp;done)|(simp;omega)) _
 |some v=>
  simp only[cN,aO]at he;subst he;go_wp2_with fail;refine HQ _ _ _ ?_;refine aS (v:= .tuple #[.agg #[.int .i64 v.obj,.int .i64 v.n],.bool true]) (by simp[results,results100,go_sem,r0,r1]) rfl ⟨by simp[cN,aO],?_⟩;exact(H4.below.setCell (by first|(simp;done)|(simp;omega)) _).setCell (by first|(simp;done)|(simp;omega)) _
theorem L9(hb n aA B:Nat)(op:Int)(a b:V)(A:Option Addr)(M:List MO)(w:World)(hB:B<=w.heap.size)(hpb:hb<w.heap.size)(hc:w.cell? ⟨hb,0,none⟩=some (.slice A n aA))(hM:bU w B A n M)(hka:a.obj≠0->a.obj<M.length/\0<=a.n/\a.n<=512)(hkb:b.obj≠0->b.obj<M.length/\0<=b.n/\b.n<=512)(h0:12<=op)(h1:op<=30)(ha:a.obj≠0)(hz:b.obj=0)(h2:op=12):
  Calls prog 100 #[.pointer (some ⟨hb,0,none⟩),.int .i64 op,.agg #[.int .i64 a.obj,.int .i64 a.n],.agg #[.int .i64 b.obj,.int .i64 b.n]] w λe w'=>cN (cT M a b.n) e/\Below w.heap.size w w':=by
 subst h2;have ha1:((a.obj:Int)==0)=false:=by simp;exact ha
 have ha2:decide ((0:Int)<(a.obj:Int))=true:=by simp;omega
 have GU:decide (0<a.obj)=true:=by simp;omega
 have hz1:((b.obj:Int)==0)=true:=by simp[hz]
 have hz2:decide ((0:Int)<(b.obj:Int))=false:=by simp[hz]
 have hz3:decide (0<b.obj)=false:=by simp[hz]
 have sQ:=ae (Ff hB hpb hc hM);have H3:=ae (oZ.mk' w a b);have iE:=ae (λW(aJ:Below w.heap.size w W)=>tU hb n aA B (b.n) a A M W (sQ.out W aJ).1 (sQ.out W aJ).2.1 (sQ.out W aJ).2.2.1 (sQ.out W aJ).2.2.2 ha (hka ha).1 (hka ha).2);obtain⟨sv,vA⟩:∃s,s=cT M a b.n:=⟨_,rfl⟩
 rw[<-vA]at iE ⊢;clear hc hM vA hka hkb ha hz;go_enter func100,ntmps100;refine aj λQ HQ=>?_;go_wp2_with fail;refine(iE _ H3.below).mono ?_;rintro e w1 ⟨he,hb1⟩;have H4:=ae (H3.grow hb1);clear hb1;have r0:=H4.r2.cell (j:=0) rfl;have r1:=H4.r2.cell (j:=1) rfl;have f0:=H4.r2.free 0;have f1:=H4.r2.free 1;cases sv with
 |none=>
  obtain⟨x,y,rfl⟩:=he;go_wp2_with fail;refine HQ _ _ _ ?_;refine aS (v:= .tuple #[.agg #[.int .i64 x,.int .i64 y],.bool false]) (by simp[results,results100,go_sem,r0,r1]) rfl ⟨⟨x,y,rfl⟩,?_⟩;exact(H4.below.setCell (by first|(simp;done)|(simp;omega)) _).setCell (by first|(simp;done)|(simp;omega)) _
 |some v=>
  simp only[cN,aO]at he;subst he;go_wp2_with fail;refine HQ _ _ _ ?_;refine aS (v:= .tuple #[.agg #[.int .i64 v.obj,.int .i64 v.n],.bool true]) (by simp[results,results100,go_sem,r0,r1]) rfl ⟨by simp[cN,aO],?_⟩;exact(H4.below.setCell (by first|(simp;done)|(simp;omega)) _).setCell (by first|(simp;done)|(simp;omega)) _
theorem L8(hb n aA B:Nat)(op:Int)(a b:V)(A:Option Addr)(M:List MO)(w:World)(hB:B<=w.heap.size)(hpb:hb<w.heap.size)(hc:w.cell? ⟨hb,0,none⟩=some (.slice A n aA))(hM:bU w B A n M)(hka:a.obj≠0->a.obj<M.length/\0<=a.n/\a.n<=512)(hkb:b.obj≠0->b.obj<M.length/\0<=b.n/\b.n<=512)(h0:12<=op)(h1:op<=30)(ha:a.obj=0)(hz:b.obj≠0)(h2:op=12):
  Calls prog 100 #[.pointer (some ⟨hb,0,none⟩),.int .i64 op,.agg #[.int .i64 a.obj,.int .i64 a.n],.agg #[.int .i64 b.obj,.int .i64 b.n]] w λe w'=>cN (cT M b a.n) e/\Below w.heap.size w w':=by
 subst h2;have ha1:((a.obj:Int)==0)=true:=by simp[ha]
 have ha2:decide ((0:Int)<(a.obj:Int))=false:=by simp[ha]
 have GU:decide (0<a.obj)=false:=by simp[ha]
 have hz1:((b.obj:Int)==0)=false:=by simp;exact hz
 have hz2:decide ((0:Int)<(b.obj:Int))=true:=by simp;omega
 have hz3:decide (0<b.obj)=true:=by simp;omega
 have sQ:=ae (Ff hB hpb hc hM);have H3:=ae (oZ.mk' w a b);have iE:=ae (λW(aJ:Below w.heap.size w W)=>tU hb n aA B (a.n) b A M W (sQ.out W aJ).1 (sQ.out W aJ).2.1 (sQ.out W aJ).2.2.1 (sQ.out W aJ).2.2.2 hz (hkb hz).1 (hkb hz).2);obtain⟨sv,vA⟩:∃s,s=cT M b a.n:=⟨_,rfl⟩
 rw[<-vA]at iE ⊢;clear hc hM vA hka hkb ha hz;go_enter func100,ntmps100;refine aj λQ HQ=>?_;go_wp2_with fail;refine(iE _ H3.below).mono ?_;rintro e w1 ⟨he,hb1⟩;have H4:=ae (H3.grow hb1);clear hb1;have r0:=H4.r2.cell (j:=0) rfl;have r1:=H4.r2.cell (j:=1) rfl;have f0:=H4.r2.free 0;have f1:=H4.r2.free 1;cases sv with
 |none=>
  obtain⟨x,y,rfl⟩:=he;go_wp2_with fail;refine HQ _ _ _ ?_;refine aS (v:= .tuple #[.agg #[.int .i64 x,.int .i64 y],.bool false]) (by simp[results,results100,go_sem,r0,r1]) rfl ⟨⟨x,y,rfl⟩,?_⟩;exact(H4.below.setCell (by first|(simp;done)|(simp;omega)) _).setCell (by first|(simp;done)|(simp;omega)) _
 |some v=>
  simp only[cN,aO]at he;subst he;go_wp2_with fail;refine HQ _ _ _ ?_;refine aS (v:= .tuple #[.agg #[.int .i64 v.obj,.int .i64 v.n],.bool true]) (by simp[results,results100,go_sem,r0,r1]) rfl ⟨by simp[cN,aO],?_⟩;exact(H4.below.setCell (by first|(simp;done)|(simp;omega)) _).setCell (by first|(simp;done)|(simp;omega)) _
theorem Ro(hb n aA B:Nat)(op:Int)(a b:V)(A:Option Addr)(M:List MO)(w:World)(hB:B<=w.heap.size)(hpb:hb<w.heap.size)(hc:w.cell? ⟨hb,0,none⟩=some (.slice A n aA))(hM:bU w B A n M)(hka:a.obj≠0->a.obj<M.length/\0<=a.n/\a.n<=512)(hkb:b.obj≠0->b.obj<M.length/\0<=b.n/\b.n<=512)(h0:12<=op)(h1:op<=30)(ha:a.obj≠0)(hz:b.obj=0)(h2:op=13)(hn:b.n≠0)(hw:IntKind.i64.wrap (-b.n)= -b.n)(hw2:(b.n== -b.n)=false):
  Calls prog 100 #[.pointer (some ⟨hb,0,none⟩),.int .i64 op,.agg #[.int .i64 a.obj,.int .i64 a.n],.agg #[.int .i64 b.obj,.int .i64 b.n]] w λe w'=>cN (cT M a (-b.n)) e/\Below w.heap.size w w':=by
 subst h2;have ha1:((a.obj:Int)==0)=false:=by simp;exact ha
 have ha2:decide ((0:Int)<(a.obj:Int))=true:=by simp;omega
 have GU:decide (0<a.obj)=true:=by simp;omega
 have hz1:((b.obj:Int)==0)=true:=by simp[hz]
 have hz2:decide ((0:Int)<(b.obj:Int))=false:=by simp[hz]
 have hz3:decide (0<b.obj)=false:=by simp[hz]
 have sQ:=ae (Ff hB hpb hc hM);have H3:=ae (oZ.mk' w a b);have iE:=ae (λW(aJ:Below w.heap.size w W)=>tU hb n aA B (-b.n) a A M W (sQ.out W aJ).1 (sQ.out W aJ).2.1 (sQ.out W aJ).2.2.1 (sQ.out W aJ).2.2.2 ha (hka ha).1 (hka ha).2);obtain⟨sv,vA⟩:∃s,s=cT M a (-b.n):=⟨_,rfl⟩
 rw[<-vA]at iE ⊢;clear hc hM vA hka hkb ha hz hn;go_enter func100,ntmps100;refine aj λQ HQ=>?_;go_wp2_with fail;refine(iE _ H3.below).mono ?_;rintro e w1 ⟨he,hb1⟩;have H4:=ae (H3.grow hb1);clear hb1;have r0:=H4.r2.cell (j:=0) rfl;have r1:=H4.r2.cell (j:=1) rfl;have f0:=H4.r2.free 0;have f1:=H4.r2.free 1;cases sv with
 |none=>
  obtain⟨x,y,rfl⟩:=he;go_wp2_with fail;refine HQ _ _ _ ?_;refine aS (v:= .tuple #[.agg #[.int .i64 x,.int .i64 y],.bool false]) (by simp[results,results100,go_sem,r0,r1]) rfl ⟨⟨x,y,rfl⟩,?_⟩;exact(H4.below.setCell (by first|(simp;done)|(simp;omega)) _).setCell (by first|(simp;done)|(simp;omega)) _
 |some v=>
  simp only[cN,aO]at he;subst he;go_wp2_with fail;refine HQ _ _ _ ?_;refine aS (v:= .tuple #[.agg #[.int .i64 v.obj,.int .i64 v.n],.bool true]) (by simp[results,results100,go_sem,r0,r1]) rfl ⟨by simp[cN,aO],?_⟩;exact(H4.below.setCell (by first|(simp;done)|(simp;omega)) _).setCell (by first|(simp;done)|(simp;omega)) _
theorem Oi(hb n aA B:Nat)(op:Int)(a b:V)(A:Option Addr)(M:List MO)(w:World)(hB:B<=w.heap.size)(hpb:hb<w.heap.size)(hc:w.cell? ⟨hb,0,none⟩=some (.slice A n aA))(hM:bU w B A n M)(hka:a.obj≠0->a.obj<M.length/\0<=a.n/\a.n<=512)(hkb:b.obj≠0->b.obj<M.length/\0<=b.n/\b.n<=512)(h0:12<=op)(h1:op<=30)(ha:a.obj≠0)(hz:b.obj=0)(h2:op=13)(rT:(b.n !=0)=false)(hw:IntKind.i64.wrap (-b.n)= -b.n)(hw2:(b.n== -b.n)=true):
  Calls prog 100 #[.pointer (some ⟨hb,0,none⟩),.int .i64 op,.agg #[.int .i64 a.obj,.int .i64 a.n],.agg #[.int .i64 b.obj,.int .i64 b.n]] w λe w'=>cN (cT M a (-b.n)) e/\Below w.heap.size w w':=by
 subst h2;have ha1:((a.obj:Int)==0)=false:=by simp;exact ha
 have ha2:decide ((0:Int)<(a.obj:Int))=true:=by simp;omega
 have GU:decide (0<a.obj)=true:=by simp;omega
 have hz1:((b.obj:Int)==0)=true:=by simp[hz]
 have hz2:decide ((0:Int)<(b.obj:Int))=false:=by simp[hz]
 have hz3:decide (0<b.obj)=false:=by simp[hz]
 have sQ:=ae (Ff hB hpb hc hM);have H3:=ae (oZ.mk' w a b);have iE:=ae (λW(aJ:Below w.heap.size w W)=>tU hb n aA B (-b.n) a A M W (sQ.out W aJ).1 (sQ.out W aJ).2.1 (sQ.out W aJ).2.2.1 (sQ.out W aJ).2.2.2 ha (hka ha).1 (hka ha).2);obtain⟨sv,vA⟩:∃s,s=cT M a (-b.n):=⟨_,rfl⟩
 rw[<-vA]at iE ⊢;clear hc hM vA hka hkb ha hz;go_enter func100,ntmps100;refine aj λQ HQ=>?_;go_wp2_with fail;refine(iE _ H3.below).mono ?_;rintro e w1 ⟨he,hb1⟩;have H4:=ae (H3.grow hb1);clear hb1;have r0:=H4.r2.cell (j:=0) rfl;have r1:=H4.r2.cell (j:=1) rfl;have f0:=H4.r2.free 0;have f1:=H4.r2.free 1;cases sv with
 |none=>
  obtain⟨x,y,rfl⟩:=he;go_wp2_with fail;refine HQ _ _ _ ?_;refine aS (v:= .tuple #[.agg #[.int .i64 x,.int .i64 y],.bool false]) (by simp[results,results100,go_sem,r0,r1]) rfl ⟨⟨x,y,rfl⟩,?_⟩;exact(H4.below.setCell (by first|(simp;done)|(simp;omega)) _).setCell (by first|(simp;done)|(simp;omega)) _
 |some v=>
  simp only[cN,aO]at he;subst he;go_wp2_with fail;refine HQ _ _ _ ?_;refine aS (v:= .tuple #[.agg #[.int .i64 v.obj,.int .i64 v.n],.bool true]) (by simp[results,results100,go_sem,r0,r1]) rfl ⟨by simp[cN,aO],?_⟩;exact(H4.below.setCell (by first|(simp;done)|(simp;omega)) _).setCell (by first|(simp;done)|(simp;omega)) _
theorem FE(hb n aA B:Nat)(op:Int)(a b:V)(A:Option Addr)(M:List MO)(w:World)(hB:B<=w.heap.size)(hpb:hb<w.heap.size)(hc:w.cell? ⟨hb,0,none⟩=some (.slice A n aA))(hM:bU w B A n M)(hka:a.obj≠0->a.obj<M.length/\0<=a.n/\a.n<=512)(hkb:b.obj≠0->b.obj<M.length/\0<=b.n/\b.n<=512)(h0:12<=op)(h1:op<=30)(ha:a.obj≠0)(hz:b.obj=0)(h2:op=13)(hn:(b.n !=0)=true)(hw:IntKind.i64.wrap (-b.n)=b.n):
  Calls prog 100 #[.pointer (some ⟨hb,0,none⟩),.int .i64 op,.agg #[.int .i64 a.obj,.int .i64 a.n],.agg #[.int .i64 b.obj,.int .i64 b.n]] w λe w'=>e= .returned (.tuple #[.agg #[.int .i64 0,.int .i64 (0)],.bool false])/\Below w.heap.size w w':=by
 subst h2;have ha1:((a.obj:Int)==0)=false:=by simp;exact ha
 have ha2:decide ((0:Int)<(a.obj:Int))=true:=by simp;omega
 have GU:decide (0<a.obj)=true:=by simp;omega
 have hz1:((b.obj:Int)==0)=true:=by simp[hz]
 have hz2:decide ((0:Int)<(b.obj:Int))=false:=by simp[hz]
 have hz3:decide (0<b.obj)=false:=by simp[hz]
 have sQ:=ae (Ff hB hpb hc hM);have H3:=ae (oZ.mk' w a b);clear hc hM hka hkb ha hz;go_enter func100,ntmps100;refine aj λQ HQ=>?_;go_wp2_with fail;refine HQ _ _ _ ?_;refine aS (v:= .tuple #[.agg #[.int .i64 0,.int .i64 (0)],.bool false]) (by simp[results,results100,go_sem]) rfl ⟨rfl,?_⟩
 first|exact aN _ _ _ _|exact((aN _ _ _ _).setCell (by first|(simp;done)|(simp;omega)) _).setCell (by first|(simp;done)|(simp;omega)) _
theorem Ak(hb n aA B:Nat)(op:Int)(a b:V)(A:Option Addr)(M:List MO)(w:World)(hB:B<=w.heap.size)(hpb:hb<w.heap.size)(hc:w.cell? ⟨hb,0,none⟩=some (.slice A n aA))(hM:bU w B A n M)(hka:a.obj≠0->a.obj<M.length/\0<=a.n/\a.n<=512)(hkb:b.obj≠0->b.obj<M.length/\0<=b.n/\b.n<=512)(h0:12<=op)(h1:op<=30)(ha:a.obj≠0)(hz:b.obj=0)(h2:op=25)(hn:(b.n==0)=true):
  Calls prog 100 #[.pointer (some ⟨hb,0,none⟩),.int .i64 op,.agg #[.int .i64 a.obj,.int .i64 a.n],.agg #[.int .i64 b.obj,.int .i64 b.n]] w λe w'=>e= .returned (.tuple #[.agg #[.int .i64 0,.int .i64 (0)],.bool true])/\Below w.heap.size w w':=by
 subst h2;have ha1:((a.obj:Int)==0)=false:=by simp;exact ha
 have ha2:decide ((0:Int)<(a.obj:Int))=true:=by simp;omega
 have GU:decide (0<a.obj)=true:=by simp;omega
 have hz1:((b.obj:Int)==0)=true:=by simp[hz]
 have hz2:decide ((0:Int)<(b.obj:Int))=false:=by simp[hz]
 have hz3:decide (0<b.obj)=false:=by simp[hz]
 have sQ:=ae (Ff hB hpb hc hM);have H3:=ae (oZ.mk' w a b);clear hc hM hka hkb ha hz;go_enter func100,ntmps100;refine aj λQ HQ=>?_;go_wp2_with fail;refine HQ _ _ _ ?_;refine aS (v:= .tuple #[.agg #[.int .i64 0,.int .i64 (0)],.bool true]) (by simp[results,results100,go_sem]) rfl ⟨rfl,?_⟩
 first|exact aN _ _ _ _|exact((aN _ _ _ _).setCell (by first|(simp;done)|(simp;omega)) _).setCell (by first|(simp;done)|(simp;omega)) _
theorem CR(hb n aA B:Nat)(op:Int)(a b:V)(A:Option Addr)(M:List MO)(w:World)(hB:B<=w.heap.size)(hpb:hb<w.heap.size)(hc:w.cell? ⟨hb,0,none⟩=some (.slice A n aA))(hM:bU w B A n M)(hka:a.obj≠0->a.obj<M.length/\0<=a.n/\a.n<=512)(hkb:b.obj≠0->b.obj<M.length/\0<=b.n/\b.n<=512)(h0:12<=op)(h1:op<=30)(ha:a.obj≠0)(hz:b.obj=0)(h2:op=25)(hn:(b.n==0)=false):
  Calls prog 100 #[.pointer (some ⟨hb,0,none⟩),.int .i64 op,.agg #[.int .i64 a.obj,.int .i64 a.n],.agg #[.int .i64 b.obj,.int .i64 b.n]] w λe w'=>e= .returned (.tuple #[.agg #[.int .i64 0,.int .i64 (0)],.bool false])/\Below w.heap.size w w':=by
 subst h2;have ha1:((a.obj:Int)==0)=false:=by simp;exact ha
 have ha2:decide ((0:Int)<(a.obj:Int))=true:=by simp;omega
 have GU:decide (0<a.obj)=true:=by simp;omega
 have hz1:((b.obj:Int)==0)=true:=by simp[hz]
 have hz2:decide ((0:Int)<(b.obj:Int))=false:=by simp[hz]
 have hz3:decide (0<b.obj)=false:=by simp[hz]
 have sQ:=ae (Ff hB hpb hc hM);have H3:=ae (oZ.mk' w a b);clear hc hM hka hkb ha hz;go_enter func100,ntmps100;refine aj λQ HQ=>?_;go_wp2_with fail;refine HQ _ _ _ ?_;refine aS (v:= .tuple #[.agg #[.int .i64 0,.int .i64 (0)],.bool false]) (by simp[results,results100,go_sem]) rfl ⟨rfl,?_⟩
 first|exact aN _ _ _ _|exact((aN _ _ _ _).setCell (by first|(simp;done)|(simp;omega)) _).setCell (by first|(simp;done)|(simp;omega)) _
theorem Aj(hb n aA B:Nat)(op:Int)(a b:V)(A:Option Addr)(M:List MO)(w:World)(hB:B<=w.heap.size)(hpb:hb<w.heap.size)(hc:w.cell? ⟨hb,0,none⟩=some (.slice A n aA))(hM:bU w B A n M)(hka:a.obj≠0->a.obj<M.length/\0<=a.n/\a.n<=512)(hkb:b.obj≠0->b.obj<M.length/\0<=b.n/\b.n<=512)(h0:12<=op)(h1:op<=30)(ha:a.obj≠0)(hz:b.obj=0)(h2:op=26)(hn:(b.n==0)=true):
  Calls prog 100 #[.pointer (some ⟨hb,0,none⟩),.int .i64 op,.agg #[.int .i64 a.obj,.int .i64 a.n],.agg #[.int .i64 b.obj,.int .i64 b.n]] w λe w'=>e= .returned (.tuple #[.agg #[.int .i64 0,.int .i64 (1)],.bool true])/\Below w.heap.size w w':=by
 subst h2;have ha1:((a.obj:Int)==0)=false:=by simp;exact ha
 have ha2:decide ((0:Int)<(a.obj:Int))=true:=by simp;omega
 have GU:decide (0<a.obj)=true:=by simp;omega
 have hz1:((b.obj:Int)==0)=true:=by simp[hz]
 have hz2:decide ((0:Int)<(b.obj:Int))=false:=by simp[hz]
 have hz3:decide (0<b.obj)=false:=by simp[hz]
 have sQ:=ae (Ff hB hpb hc hM);have H3:=ae (oZ.mk' w a b);clear hc hM hka hkb ha hz;go_enter func100,ntmps100;refine aj λQ HQ=>?_;go_wp2_with fail;refine HQ _ _ _ ?_;refine aS (v:= .tuple #[.agg #[.int .i64 0,.int .i64 (1)],.bool true]) (by simp[results,results100,go_sem]) rfl ⟨rfl,?_⟩
 first|exact aN _ _ _ _|exact((aN _ _ _ _).setCell (by first|(simp;done)|(simp;omega)) _).setCell (by first|(simp;done)|(simp;omega)) _
theorem CQ(hb n aA B:Nat)(op:Int)(a b:V)(A:Option Addr)(M:List MO)(w:World)(hB:B<=w.heap.size)(hpb:hb<w.heap.size)(hc:w.cell? ⟨hb,0,none⟩=some (.slice A n aA))(hM:bU w B A n M)(hka:a.obj≠0->a.obj<M.length/\0<=a.n/\a.n<=512)(hkb:b.obj≠0->b.obj<M.length/\0<=b.n/\b.n<=512)(h0:12<=op)(h1:op<=30)(ha:a.obj≠0)(hz:b.obj=0)(h2:op=26)(hn:(b.n==0)=false):
  Calls prog 100 #[.pointer (some ⟨hb,0,none⟩),.int .i64 op,.agg #[.int .i64 a.obj,.int .i64 a.n],.agg #[.int .i64 b.obj,.int .i64 b.n]] w λe w'=>e= .returned (.tuple #[.agg #[.int .i64 0,.int .i64 (1)],.bool false])/\Below w.heap.size w w':=by
 subst h2;have ha1:((a.obj:Int)==0)=false:=by simp;exact ha
 have ha2:decide ((0:Int)<(a.obj:Int))=true:=by simp;omega
 have GU:decide (0<a.obj)=true:=by simp;omega
 have hz1:((b.obj:Int)==0)=true:=by simp[hz]
 have hz2:decide ((0:Int)<(b.obj:Int))=false:=by simp[hz]
 have hz3:decide (0<b.obj)=false:=by simp[hz]
 have sQ:=ae (Ff hB hpb hc hM);have H3:=ae (oZ.mk' w a b);clear hc hM hka hkb ha hz;go_enter func100,ntmps100;refine aj λQ HQ=>?_;go_wp2_with fail;refine HQ _ _ _ ?_;refine aS (v:= .tuple #[.agg #[.int .i64 0,.int .i64 (1)],.bool false]) (by simp[results,results100,go_sem]) rfl ⟨rfl,?_⟩
 first|exact aN _ _ _ _|exact((aN _ _ _ _).setCell (by first|(simp;done)|(simp;omega)) _).setCell (by first|(simp;done)|(simp;omega)) _
theorem Om(hb n aA B:Nat)(op:Int)(a b:V)(A:Option Addr)(M:List MO)(w:World)(hB:B<=w.heap.size)(hpb:hb<w.heap.size)(hc:w.cell? ⟨hb,0,none⟩=some (.slice A n aA))(hM:bU w B A n M)(hka:a.obj≠0->a.obj<M.length/\0<=a.n/\a.n<=512)(hkb:b.obj≠0->b.obj<M.length/\0<=b.n/\b.n<=512)(h0:12<=op)(h1:op<=30)(ha:a.obj≠0)(hz:b.obj=0)(h2:op≠12/\op≠25/\op≠26)(h3:op≠13):
  Calls prog 100 #[.pointer (some ⟨hb,0,none⟩),.int .i64 op,.agg #[.int .i64 a.obj,.int .i64 a.n],.agg #[.int .i64 b.obj,.int .i64 b.n]] w λe w'=>e= .returned (.tuple #[.agg #[.int .i64 0,.int .i64 (0)],.bool false])/\Below w.heap.size w w':=by
 have ha1:((a.obj:Int)==0)=false:=by simp;exact ha
 have ha2:decide ((0:Int)<(a.obj:Int))=true:=by simp;omega
 have GU:decide (0<a.obj)=true:=by simp;omega
 have hz1:((b.obj:Int)==0)=true:=by simp[hz]
 have hz2:decide ((0:Int)<(b.obj:Int))=false:=by simp[hz]
 have hz3:decide (0<b.obj)=false:=by simp[hz]
 have e1:(op==12)=false:=by simp;omega
 have e2:(op==25)=false:=by simp;omega
 have e3:(op==26)=false:=by simp;omega
 have e4:(op==13)=false:=by simp;omega
 have sQ:=ae (Ff hB hpb hc hM);have H3:=ae (oZ.mk' w a b);clear hc hM hka hkb ha hz h2 h3;go_enter func100,ntmps100;refine aj λQ HQ=>?_;go_wp2_with fail;refine HQ _ _ _ ?_;refine aS (v:= .tuple #[.agg #[.int .i64 0,.int .i64 (0)],.bool false]) (by simp[results,results100,go_sem]) rfl ⟨rfl,?_⟩
 first|exact aN _ _ _ _|exact((aN _ _ _ _).setCell (by first|(simp;done)|(simp;omega)) _).setCell (by first|(simp;done)|(simp;omega)) _
theorem Ai(hb n aA B:Nat)(op:Int)(a b:V)(A:Option Addr)(M:List MO)(w:World)(hB:B<=w.heap.size)(hpb:hb<w.heap.size)(hc:w.cell? ⟨hb,0,none⟩=some (.slice A n aA))(hM:bU w B A n M)(hka:a.obj≠0->a.obj<M.length/\0<=a.n/\a.n<=512)(hkb:b.obj≠0->b.obj<M.length/\0<=b.n/\b.n<=512)(h0:12<=op)(h1:op<=30)(ha:a.obj=0)(hz:b.obj≠0)(h2:op=25)(hn:(a.n==0)=true):
  Calls prog 100 #[.pointer (some ⟨hb,0,none⟩),.int .i64 op,.agg #[.int .i64 a.obj,.int .i64 a.n],.agg #[.int .i64 b.obj,.int .i64 b.n]] w λe w'=>e= .returned (.tuple #[.agg #[.int .i64 0,.int .i64 (0)],.bool true])/\Below w.heap.size w w':=by
 subst h2;have ha1:((a.obj:Int)==0)=true:=by simp[ha]
 have ha2:decide ((0:Int)<(a.obj:Int))=false:=by simp[ha]
 have GU:decide (0<a.obj)=false:=by simp[ha]
 have hz1:((b.obj:Int)==0)=false:=by simp;exact hz
 have hz2:decide ((0:Int)<(b.obj:Int))=true:=by simp;omega
 have hz3:decide (0<b.obj)=true:=by simp;omega
 have sQ:=ae (Ff hB hpb hc hM);have H3:=ae (oZ.mk' w a b);clear hc hM hka hkb ha hz;go_enter func100,ntmps100;refine aj λQ HQ=>?_;go_wp2_with fail;refine HQ _ _ _ ?_;refine aS (v:= .tuple #[.agg #[.int .i64 0,.int .i64 (0)],.bool true]) (by simp[results,results100,go_sem]) rfl ⟨rfl,?_⟩
 first|exact aN _ _ _ _|exact((aN _ _ _ _).setCell (by first|(simp;done)|(simp;omega)) _).setCell (by first|(simp;done)|(simp;omega)) _
theorem CP(hb n aA B:Nat)(op:Int)(a b:V)(A:Option Addr)(M:List MO)(w:World)(hB:B<=w.heap.size)(hpb:hb<w.heap.size)(hc:w.cell? ⟨hb,0,none⟩=some (.slice A n aA))(hM:bU w B A n M)(hka:a.obj≠0->a.obj<M.length/\0<=a.n/\a.n<=512)(hkb:b.obj≠0->b.obj<M.length/\0<=b.n/\b.n<=512)(h0:12<=op)(h1:op<=30)(ha:a.obj=0)(hz:b.obj≠0)(h2:op=25)(hn:(a.n==0)=false):
  Calls prog 100 #[.pointer (some ⟨hb,0,none⟩),.int .i64 op,.agg #[.int .i64 a.obj,.int .i64 a.n],.agg #[.int .i64 b.obj,.int .i64 b.n]] w λe w'=>e= .returned (.tuple #[.agg #[.int .i64 0,.int .i64 (0)],.bool false])/\Below w.heap.size w w':=by
 subst h2;have ha1:((a.obj:Int)==0)=true:=by simp[ha]
 have ha2:decide ((0:Int)<(a.obj:Int))=false:=by simp[ha]
 have GU:decide (0<a.obj)=false:=by simp[ha]
 have hz1:((b.obj:Int)==0)=false:=by simp;exact hz
 have hz2:decide ((0:Int)<(b.obj:Int))=true:=by simp;omega
 have hz3:decide (0<b.obj)=true:=by simp;omega
 have sQ:=ae (Ff hB hpb hc hM);have H3:=ae (oZ.mk' w a b);clear hc hM hka hkb ha hz;go_enter func100,ntmps100;refine aj λQ HQ=>?_;go_wp2_with fail;refine HQ _ _ _ ?_;refine aS (v:= .tuple #[.agg #[.int .i64 0,.int .i64 (0)],.bool false]) (by simp[results,results100,go_sem]) rfl ⟨rfl,?_⟩
 first|exact aN _ _ _ _|exact((aN _ _ _ _).setCell (by first|(simp;done)|(simp;omega)) _).setCell (by first|(simp;done)|(simp;omega)) _
theorem Ah(hb n aA B:Nat)(op:Int)(a b:V)(A:Option Addr)(M:List MO)(w:World)(hB:B<=w.heap.size)(hpb:hb<w.heap.size)(hc:w.cell? ⟨hb,0,none⟩=some (.slice A n aA))(hM:bU w B A n M)(hka:a.obj≠0->a.obj<M.length/\0<=a.n/\a.n<=512)(hkb:b.obj≠0->b.obj<M.length/\0<=b.n/\b.n<=512)(h0:12<=op)(h1:op<=30)(ha:a.obj=0)(hz:b.obj≠0)(h2:op=26)(hn:(a.n==0)=true):
  Calls prog 100 #[.pointer (some ⟨hb,0,none⟩),.int .i64 op,.agg #[.int .i64 a.obj,.int .i64 a.n],.agg #[.int .i64 b.obj,.int .i64 b.n]] w λe w'=>e= .returned (.tuple #[.agg #[.int .i64 0,.int .i64 (1)],.bool true])/\Below w.heap.size w w':=by
 subst h2;have ha1:((a.obj:Int)==0)=true:=by simp[ha]
 have ha2:decide ((0:Int)<(a.obj:Int))=false:=by simp[ha]
 have GU:decide (0<a.obj)=false:=by simp[ha]
 have hz1:((b.obj:Int)==0)=false:=by simp;exact hz
 have hz2:decide ((0:Int)<(b.obj:Int))=true:=by simp;omega
 have hz3:decide (0<b.obj)=true:=by simp;omega
 have sQ:=ae (Ff hB hpb hc hM);have H3:=ae (oZ.mk' w a b);clear hc hM hka hkb ha hz;go_enter func100,ntmps100;refine aj λQ HQ=>?_;go_wp2_with fail;refine HQ _ _ _ ?_;refine aS (v:= .tuple #[.agg #[.int .i64 0,.int .i64 (1)],.bool true]) (by simp[results,results100,go_sem]) rfl ⟨rfl,?_⟩
 first|exact aN _ _ _ _|exact((aN _ _ _ _).setCell (by first|(simp;done)|(simp;omega)) _).setCell (by first|(simp;done)|(simp;omega)) _
theorem CO(hb n aA B:Nat)(op:Int)(a b:V)(A:Option Addr)(M:List MO)(w:World)(hB:B<=w.heap.size)(hpb:hb<w.heap.size)(hc:w.cell? ⟨hb,0,none⟩=some (.slice A n aA))(hM:bU w B A n M)(hka:a.obj≠0->a.obj<M.length/\0<=a.n/\a.n<=512)(hkb:b.obj≠0->b.obj<M.length/\0<=b.n/\b.n<=512)(h0:12<=op)(h1:op<=30)(ha:a.obj=0)(hz:b.obj≠0)(h2:op=26)(hn:(a.n==0)=false):
  Calls prog 100 #[.pointer (some ⟨hb,0,none⟩),.int .i64 op,.agg #[.int .i64 a.obj,.int .i64 a.n],.agg #[.int .i64 b.obj,.int .i64 b.n]] w λe w'=>e= .returned (.tuple #[.agg #[.int .i64 0,.int .i64 (1)],.bool false])/\Below w.heap.size w w':=by
 subst h2;have ha1:((a.obj:Int)==0)=true:=by simp[ha]
 have ha2:decide ((0:Int)<(a.obj:Int))=false:=by simp[ha]
 have GU:decide (0<a.obj)=false:=by simp[ha]
 have hz1:((b.obj:Int)==0)=false:=by simp;exact hz
 have hz2:decide ((0:Int)<(b.obj:Int))=true:=by simp;omega
 have hz3:decide (0<b.obj)=true:=by simp;omega
 have sQ:=ae (Ff hB hpb hc hM);have H3:=ae (oZ.mk' w a b);clear hc hM hka hkb ha hz;go_enter func100,ntmps100;refine aj λQ HQ=>?_;go_wp2_with fail;refine HQ _ _ _ ?_;refine aS (v:= .tuple #[.agg #[.int .i64 0,.int .i64 (1)],.bool false]) (by simp[results,results100,go_sem]) rfl ⟨rfl,?_⟩
 first|exact aN _ _ _ _|exact((aN _ _ _ _).setCell (by first|(simp;done)|(simp;omega)) _).setCell (by first|(simp;done)|(simp;omega)) _
theorem Ol(hb n aA B:Nat)(op:Int)(a b:V)(A:Option Addr)(M:List MO)(w:World)(hB:B<=w.heap.size)(hpb:hb<w.heap.size)(hc:w.cell? ⟨hb,0,none⟩=some (.slice A n aA))(hM:bU w B A n M)(hka:a.obj≠0->a.obj<M.length/\0<=a.n/\a.n<=512)(hkb:b.obj≠0->b.obj<M.length/\0<=b.n/\b.n<=512)(h0:12<=op)(h1:op<=30)(ha:a.obj=0)(hz:b.obj≠0)(h2:op≠12/\op≠25/\op≠26)(h3:op≠13):
  Calls prog 100 #[.pointer (some ⟨hb,0,none⟩),.int .i64 op,.agg #[.int .i64 a.obj,.int .i64 a.n],.agg #[.int .i64 b.obj,.int .i64 b.n]] w λe w'=>e= .returned (.tuple #[.agg #[.int .i64 0,.int .i64 (0)],.bool false])/\Below w.heap.size w w':=by
 have ha1:((a.obj:Int)==0)=true:=by simp[ha]
 have ha2:decide ((0:Int)<(a.obj:Int))=false:=by simp[ha]
 have GU:decide (0<a.obj)=false:=by simp[ha]
 have hz1:((b.obj:Int)==0)=false:=by simp;exact hz
 have hz2:decide ((0:Int)<(b.obj:Int))=true:=by simp;omega
 have hz3:decide (0<b.obj)=true:=by simp;omega
 have e1:(op==12)=false:=by simp;omega
 have e2:(op==25)=false:=by simp;omega
 have e3:(op==26)=false:=by simp;omega
 have e4:(op==13)=false:=by simp;omega
 have sQ:=ae (Ff hB hpb hc hM);have H3:=ae (oZ.mk' w a b);clear hc hM hka hkb ha hz h2 h3;go_enter func100,ntmps100;refine aj λQ HQ=>?_;go_wp2_with fail;refine HQ _ _ _ ?_;refine aS (v:= .tuple #[.agg #[.int .i64 0,.int .i64 (0)],.bool false]) (by simp[results,results100,go_sem]) rfl ⟨rfl,?_⟩
 first|exact aN _ _ _ _|exact((aN _ _ _ _).setCell (by first|(simp;done)|(simp;omega)) _).setCell (by first|(simp;done)|(simp;omega)) _
theorem Jj(hb n aA B:Nat)(op:Int)(a b:V)(A:Option Addr)(M:List MO)(w:World)(hB:B<=w.heap.size)(hpb:hb<w.heap.size)(hc:w.cell? ⟨hb,0,none⟩=some (.slice A n aA))(hM:bU w B A n M)(hka:a.obj≠0->a.obj<M.length/\0<=a.n/\a.n<=512)(hkb:b.obj≠0->b.obj<M.length/\0<=b.n/\b.n<=512)(h0:12<=op)(h1:op<=30)(ha:a.obj=0)(hz:b.obj≠0)(h2:op=13):
  Calls prog 100 #[.pointer (some ⟨hb,0,none⟩),.int .i64 op,.agg #[.int .i64 a.obj,.int .i64 a.n],.agg #[.int .i64 b.obj,.int .i64 b.n]] w λe w'=>e= .returned (.tuple #[.agg #[.int .i64 0,.int .i64 (0)],.bool false])/\Below w.heap.size w w':=by
 subst h2;have ha1:((a.obj:Int)==0)=true:=by simp[ha]
 have ha2:decide ((0:Int)<(a.obj:Int))=false:=by simp[ha]
 have GU:decide (0<a.obj)=false:=by simp[ha]
 have hz1:((b.obj:Int)==0)=false:=by simp;exact hz
 have hz2:decide ((0:Int)<(b.obj:Int))=true:=by simp;omega
 have hz3:decide (0<b.obj)=true:=by simp;omega
 have sQ:=ae (Ff hB hpb hc hM);have H3:=ae (oZ.mk' w a b);clear hc hM hka hkb ha hz;go_enter func100,ntmps100;refine aj λQ HQ=>?_;go_wp2_with fail;refine HQ _ _ _ ?_;refine aS (v:= .tuple #[.agg #[.int .i64 0,.int .i64 (0)],.bool false]) (by simp[results,results100,go_sem]) rfl ⟨rfl,?_⟩
 first|exact aN _ _ _ _|exact((aN _ _ _ _).setCell (by first|(simp;done)|(simp;omega)) _).setCell (by first|(simp;done)|(simp;omega)) _
end Go.Proofs.YtinmgbodgecoeaaGreat
