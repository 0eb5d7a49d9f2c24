/- The graph's heap: ops of two places in one object. Conditions: as stated. -/
import Derived.Test.YtinmgbodgecoeaaGreatQ07Zz
set_option linter.unusedSimpArgs false
set_option linter.unusedVariables false
set_option maxHeartbeats 8000000
set_option maxRecDepth 100000
open Go.Proofs.Tryz
namespace Go.Proofs.YtinmgbodgecoeaaGreat
open Go.RowKit
theorem Ep(hb n aA B k:Nat)(op:Int)(x y:Int)(A:Option Addr)(M:List MO)(w:World)(hB:B<=w.heap.size)(hpb:hb<w.heap.size)(hc:w.cell? ⟨hb,0,none⟩=some (.slice A n aA))(hM:bU w B A n M)(hk:k+1<M.length)(h0:12<=op)(h1:op<=30)(hl:(aG M (k+1)).live=false)(h2:op≠25/\op≠26):
  Calls prog 107 #[.pointer (some ⟨hb,0,none⟩),.int .i64 op,.agg #[.int .i64 ((k:Int)+1),.int .i64 x],.agg #[.int .i64 ((k:Int)+1),.int .i64 y]] w λe w'=>e= .returned (.tuple #[.agg #[.int .i64 0,.int .i64 0],.bool false])/\Below w.heap.size w w':=by
 obtain⟨mb,mo,rfl,gV,hkn,A',len,cap',c0,c1,c2,hll,hl2,hsa,Ey⟩:=hM.get hk;have hmb:mb<w.heap.size:=by omega
 rw[hl]at c2;have hz1:hb<w.heap.size+1:=by omega
 have hz2:hb<w.heap.size+1+1:=by omega
 have hz3:mb<w.heap.size+1:=by omega
 have vT:mb<w.heap.size+1+1:=by omega
 have hk0:(0:Int)<=(k:Int):=by omega
 have hk1:(k:Int)<(n:Int):=by omega
 have hn:=hM.2.1;have hw1:IntKind.i64.wrap (k:Int)=(k:Int):=IntWalk.i64_in _ (by omega);have hw2:IntKind.i64.wrap ((k:Int)+1-1)=(k:Int):=by rw[Int.add_sub_cancel];exact hw1
 have Ra:=ae (λW=>rK op x y W h0 h1);have e1:(op==25)=false:=by simp;omega
 have e2:(op==26)=false:=by simp;omega
 clear hM hk hl hll c0 c1;go_enter func107,ntmps107;refine aj λQ HQ=>?_;go_wp2_with fail;go_quiet (fail);go_wp2_with fail;refine HQ _ _ _ ?_;refine aS (v:= .tuple #[.agg #[.int .i64 0,.int .i64 0],.bool false]) (by simp[results,results107,go_sem]) rfl ⟨rfl,?_⟩;exact((below_drewN (aN _ _ _ _) _).setCell (by first|(simp;done)|(simp;omega)) _).setCell (by first|(simp;done)|(simp;omega)) _
theorem Er(hb n aA B k:Nat)(op:Int)(x y:Int)(A:Option Addr)(M:List MO)(w:World)(hB:B<=w.heap.size)(hpb:hb<w.heap.size)(hc:w.cell? ⟨hb,0,none⟩=some (.slice A n aA))(hM:bU w B A n M)(hk:k+1<M.length)(h0:12<=op)(h1:op<=30)(hl:(aG M (k+1)).live=false)(h2:op=25\/op=26):
  Calls prog 107 #[.pointer (some ⟨hb,0,none⟩),.int .i64 op,.agg #[.int .i64 ((k:Int)+1),.int .i64 x],.agg #[.int .i64 ((k:Int)+1),.int .i64 y]] w λe w'=>e= .returned (.tuple #[.agg #[.int .i64 0,.int .i64 0],.bool false])/\Below w.heap.size w w':=by
 obtain⟨mb,mo,rfl,gV,hkn,A',len,cap',c0,c1,c2,hll,hl2,hsa,Ey⟩:=hM.get hk;have hmb:mb<w.heap.size:=by omega
 rw[hl]at c2;have hz1:hb<w.heap.size+1:=by omega
 have hz2:hb<w.heap.size+1+1:=by omega
 have hz3:mb<w.heap.size+1:=by omega
 have vT:mb<w.heap.size+1+1:=by omega
 have hk0:(0:Int)<=(k:Int):=by omega
 have hk1:(k:Int)<(n:Int):=by omega
 have hn:=hM.2.1;have hw1:IntKind.i64.wrap (k:Int)=(k:Int):=IntWalk.i64_in _ (by omega);have hw2:IntKind.i64.wrap ((k:Int)+1-1)=(k:Int):=by rw[Int.add_sub_cancel];exact hw1
 have Ra:=ae (λW=>rK op x y W h0 h1);clear hM hk hl hll c0 c1;rcases h2 with rfl|rfl
 all_goals
  go_enter func107,ntmps107;refine aj λQ HQ=>?_;go_wp2_with fail;go_quiet (fail);go_wp2_with fail;refine HQ _ _ _ ?_;refine aS (v:= .tuple #[.agg #[.int .i64 0,.int .i64 0],.bool false]) (by simp[results,results107,go_sem]) rfl ⟨rfl,?_⟩;exact((below_drewN (aN _ _ _ _) _).setCell (by first|(simp;done)|(simp;omega)) _).setCell (by first|(simp;done)|(simp;omega)) _
theorem RS(hb n aA B k:Nat)(op:Int)(x y:Int)(A:Option Addr)(M:List MO)(w:World)(hB:B<=w.heap.size)(hpb:hb<w.heap.size)(hc:w.cell? ⟨hb,0,none⟩=some (.slice A n aA))(hM:bU w B A n M)(hk:k+1<M.length)(h0:12<=op)(h1:op<=30)(hl:(aG M (k+1)).live=true)(h2:op=25\/op=26):
  Calls prog 107 #[.pointer (some ⟨hb,0,none⟩),.int .i64 op,.agg #[.int .i64 ((k:Int)+1),.int .i64 x],.agg #[.int .i64 ((k:Int)+1),.int .i64 y]] w λe w'=>e= .returned (.tuple #[.agg #[.int .i64 0,.int .i64 (bF op x y)],.bool true])/\Below w.heap.size w w':=by
 obtain⟨mb,mo,rfl,gV,hkn,A',len,cap',c0,c1,c2,hll,hl2,hsa,Ey⟩:=hM.get hk;have hmb:mb<w.heap.size:=by omega
 rw[hl]at c2;have hz1:hb<w.heap.size+1:=by omega
 have hz2:hb<w.heap.size+1+1:=by omega
 have hz3:mb<w.heap.size+1:=by omega
 have vT:mb<w.heap.size+1+1:=by omega
 have hk0:(0:Int)<=(k:Int):=by omega
 have hk1:(k:Int)<(n:Int):=by omega
 have hn:=hM.2.1;have hw1:IntKind.i64.wrap (k:Int)=(k:Int):=IntWalk.i64_in _ (by omega);have hw2:IntKind.i64.wrap ((k:Int)+1-1)=(k:Int):=by rw[Int.add_sub_cancel];exact hw1
 have Ra:=ae (λW=>rK op x y W h0 h1);clear hM hk hl hll c0 c1;rcases h2 with rfl|rfl
 all_goals
  go_enter func107,ntmps107;refine aj λQ HQ=>?_;go_wp2_with fail;go_quiet (fail);go_wp2_with fail;refine(Ra _).mono ?_;rintro e w2 ⟨rfl,q,rfl⟩;go_wp2_with fail;refine HQ _ _ _ ?_;refine aS (v:= .tuple #[.agg #[.int .i64 0,.int .i64 (bF _ x y)],.bool true]) (by simp[results,results107,go_sem]) rfl ⟨rfl,?_⟩;exact((below_drewN (aN _ _ _ _) _).setCell (by first|(simp;done)|(simp;omega)) _).setCell (by first|(simp;done)|(simp;omega)) _
theorem OU(hb n aA B k:Nat)(op:Int)(x y:Int)(A:Option Addr)(M:List MO)(w:World)(hB:B<=w.heap.size)(hpb:hb<w.heap.size)(hc:w.cell? ⟨hb,0,none⟩=some (.slice A n aA))(hM:bU w B A n M)(hk:k+1<M.length)(h0:12<=op)(h1:op<=30)(hl:(aG M (k+1)).live=true)(h2:op=13):
  Calls prog 107 #[.pointer (some ⟨hb,0,none⟩),.int .i64 op,.agg #[.int .i64 ((k:Int)+1),.int .i64 x],.agg #[.int .i64 ((k:Int)+1),.int .i64 y]] w λe w'=>e= .returned (.tuple #[.agg #[.int .i64 0,.int .i64 (bF op x y)],.bool true])/\Below w.heap.size w w':=by
 obtain⟨mb,mo,rfl,gV,hkn,A',len,cap',c0,c1,c2,hll,hl2,hsa,Ey⟩:=hM.get hk;have hmb:mb<w.heap.size:=by omega
 rw[hl]at c2;have hz1:hb<w.heap.size+1:=by omega
 have hz2:hb<w.heap.size+1+1:=by omega
 have hz3:mb<w.heap.size+1:=by omega
 have vT:mb<w.heap.size+1+1:=by omega
 have hk0:(0:Int)<=(k:Int):=by omega
 have hk1:(k:Int)<(n:Int):=by omega
 have hn:=hM.2.1;have hw1:IntKind.i64.wrap (k:Int)=(k:Int):=IntWalk.i64_in _ (by omega);have hw2:IntKind.i64.wrap ((k:Int)+1-1)=(k:Int):=by rw[Int.add_sub_cancel];exact hw1
 have Ra:=ae (λW=>rK op x y W h0 h1);clear hM hk hl hll c0 c1;subst h2
 all_goals
  go_enter func107,ntmps107;refine aj λQ HQ=>?_;go_wp2_with fail;go_quiet (fail);go_wp2_with fail;refine(Ra _).mono ?_;rintro e w2 ⟨rfl,q,rfl⟩;go_wp2_with fail;refine HQ _ _ _ ?_;refine aS (v:= .tuple #[.agg #[.int .i64 0,.int .i64 (bF _ x y)],.bool true]) (by simp[results,results107,go_sem]) rfl ⟨rfl,?_⟩;exact((below_drewN (aN _ _ _ _) _).setCell (by first|(simp;done)|(simp;omega)) _).setCell (by first|(simp;done)|(simp;omega)) _
theorem OV(hb n aA B k:Nat)(op:Int)(x y:Int)(A:Option Addr)(M:List MO)(w:World)(hB:B<=w.heap.size)(hpb:hb<w.heap.size)(hc:w.cell? ⟨hb,0,none⟩=some (.slice A n aA))(hM:bU w B A n M)(hk:k+1<M.length)(h0:12<=op)(h1:op<=30)(hl:(aG M (k+1)).live=true)(h2:27<=op):
  Calls prog 107 #[.pointer (some ⟨hb,0,none⟩),.int .i64 op,.agg #[.int .i64 ((k:Int)+1),.int .i64 x],.agg #[.int .i64 ((k:Int)+1),.int .i64 y]] w λe w'=>e= .returned (.tuple #[.agg #[.int .i64 0,.int .i64 (bF op x y)],.bool true])/\Below w.heap.size w w':=by
 obtain⟨mb,mo,rfl,gV,hkn,A',len,cap',c0,c1,c2,hll,hl2,hsa,Ey⟩:=hM.get hk;have hmb:mb<w.heap.size:=by omega
 rw[hl]at c2;have hz1:hb<w.heap.size+1:=by omega
 have hz2:hb<w.heap.size+1+1:=by omega
 have hz3:mb<w.heap.size+1:=by omega
 have vT:mb<w.heap.size+1+1:=by omega
 have hk0:(0:Int)<=(k:Int):=by omega
 have hk1:(k:Int)<(n:Int):=by omega
 have hn:=hM.2.1;have hw1:IntKind.i64.wrap (k:Int)=(k:Int):=IntWalk.i64_in _ (by omega);have hw2:IntKind.i64.wrap ((k:Int)+1-1)=(k:Int):=by rw[Int.add_sub_cancel];exact hw1
 have Ra:=ae (λW=>rK op x y W h0 h1);have e1:(op==25)=false:=by simp;omega
 have e2:(op==26)=false:=by simp;omega
 have e3:(op !=13)=true:=by simp;omega
 have e4:decide (op<27)=false:=by simp;omega
 have e5:decide (30<op)=false:=by simp;omega
 clear hM hk hl hll c0 c1;go_enter func107,ntmps107;refine aj λQ HQ=>?_;go_wp2_with fail;go_quiet (fail);go_wp2_with fail;refine(Ra _).mono ?_;rintro e w2 ⟨rfl,q,rfl⟩;go_wp2_with fail;refine HQ _ _ _ ?_;refine aS (v:= .tuple #[.agg #[.int .i64 0,.int .i64 (bF op x y)],.bool true]) (by simp[results,results107,go_sem]) rfl ⟨rfl,?_⟩;exact((below_drewN (aN _ _ _ _) _).setCell (by first|(simp;done)|(simp;omega)) _).setCell (by first|(simp;done)|(simp;omega)) _
theorem RR(hb n aA B k:Nat)(op:Int)(x y:Int)(A:Option Addr)(M:List MO)(w:World)(hB:B<=w.heap.size)(hpb:hb<w.heap.size)(hc:w.cell? ⟨hb,0,none⟩=some (.slice A n aA))(hM:bU w B A n M)(hk:k+1<M.length)(h0:12<=op)(h1:op<=30)(hl:(aG M (k+1)).live=true)(h2:op≠25/\op≠26/\op≠13/\op<27):
  Calls prog 107 #[.pointer (some ⟨hb,0,none⟩),.int .i64 op,.agg #[.int .i64 ((k:Int)+1),.int .i64 x],.agg #[.int .i64 ((k:Int)+1),.int .i64 y]] w λe w'=>e= .returned (.tuple #[.agg #[.int .i64 0,.int .i64 0],.bool false])/\Below w.heap.size w w':=by
 obtain⟨mb,mo,rfl,gV,hkn,A',len,cap',c0,c1,c2,hll,hl2,hsa,Ey⟩:=hM.get hk;have hmb:mb<w.heap.size:=by omega
 rw[hl]at c2;have hz1:hb<w.heap.size+1:=by omega
 have hz2:hb<w.heap.size+1+1:=by omega
 have hz3:mb<w.heap.size+1:=by omega
 have vT:mb<w.heap.size+1+1:=by omega
 have hk0:(0:Int)<=(k:Int):=by omega
 have hk1:(k:Int)<(n:Int):=by omega
 have hn:=hM.2.1;have hw1:IntKind.i64.wrap (k:Int)=(k:Int):=IntWalk.i64_in _ (by omega);have hw2:IntKind.i64.wrap ((k:Int)+1-1)=(k:Int):=by rw[Int.add_sub_cancel];exact hw1
 have Ra:=ae (λW=>rK op x y W h0 h1);have e1:(op==25)=false:=by simp;omega
 have e2:(op==26)=false:=by simp;omega
 have e3:(op !=13)=true:=by simp;omega
 have e4:decide (op<27)=true:=by simp;omega
 clear hM hk hl hll c0 c1;go_enter func107,ntmps107;refine aj λQ HQ=>?_;go_wp2_with fail;go_quiet (fail);go_wp2_with fail;refine HQ _ _ _ ?_;refine aS (v:= .tuple #[.agg #[.int .i64 0,.int .i64 0],.bool false]) (by simp[results,results107,go_sem]) rfl ⟨rfl,?_⟩;exact((below_drewN (aN _ _ _ _) _).setCell (by first|(simp;done)|(simp;omega)) _).setCell (by first|(simp;done)|(simp;omega)) _
theorem JJ(hb n aA B:Nat)(op:Int)(a b:V)(A:Option Addr)(M:List MO)(w:World)(hB:B<=w.heap.size)(hpb:hb<w.heap.size)(hc:w.cell? ⟨hb,0,none⟩=some (.slice A n aA))(hM:bU w B A n M)(ha:a.obj≠0)(hka:a.obj<M.length)(ZP:b.obj≠0)(hkb:b.obj<M.length)(h0:12<=op)(h1:op<=30):
  Calls prog 107 #[.pointer (some ⟨hb,0,none⟩),.int .i64 op,.agg #[.int .i64 a.obj,.int .i64 a.n],.agg #[.int .i64 b.obj,.int .i64 b.n]] w λe w'=>cN (dm bF M op a b) e/\Below w.heap.size w w':=by
 by_cases hne:a.obj=b.obj
 ·rw[NF ha hne];obtain⟨obj,x⟩:=a;obtain⟨obj',y⟩:=b;simp only at hne;subst hne;rcases obj with _|k
  ·exact absurd rfl ha
  ·simp only at hka;show Calls _ _ #[_,_,.agg #[.int .i64 ((k+1:Nat):Int),.int .i64 x],.agg #[.int .i64 ((k+1:Nat):Int),.int .i64 y]] w _;rw[Int.natCast_add,Int.natCast_one];simp only;by_cases hd:(aG M (k+1)).live=true
   ·by_cases h2:op=25\/op=26
    ·rw[if_pos ⟨hd,by omega⟩];exact(RS hb n aA B k op x y A M w hB hpb hc hM hka h0 h1 hd h2).mono λe w'⟨he,aJ⟩=>⟨by show e=_;rw[he];simp[aO],aJ⟩
    ·by_cases h3:op=13
     ·rw[if_pos ⟨hd,by omega⟩];exact(OU hb n aA B k op x y A M w hB hpb hc hM hka h0 h1 hd h3).mono λe w'⟨he,aJ⟩=>⟨by show e=_;rw[he];simp[aO],aJ⟩
     ·by_cases h4:27<=op
      ·rw[if_pos ⟨hd,by omega⟩];exact(OV hb n aA B k op x y A M w hB hpb hc hM hka h0 h1 hd h4).mono λe w'⟨he,aJ⟩=>⟨by show e=_;rw[he];simp[aO],aJ⟩
      ·rw[if_neg (λhh=>by have:=hh.2;omega)];exact(RR hb n aA B k op x y A M w hB hpb hc hM hka h0 h1 hd (by omega)).mono λe w'⟨he,aJ⟩=>⟨⟨0,0,he⟩,aJ⟩
   ·have hd':(aG M (k+1)).live=false:=by simpa using hd
    rw[if_neg (λhh=>hd hh.1)];by_cases h2:op=25\/op=26
    ·exact(Er hb n aA B k op x y A M w hB hpb hc hM hka h0 h1 hd' h2).mono λe w'⟨he,aJ⟩=>⟨⟨0,0,he⟩,aJ⟩
    ·exact(Ep hb n aA B k op x y A M w hB hpb hc hM hka h0 h1 hd' (by omega)).mono λe w'⟨he,aJ⟩=>⟨⟨0,0,he⟩,aJ⟩
 ·rw[Qr ha ZP hne];exact JI hb n aA B op a b A M w hB hpb hc hM ha hka ZP hkb h0 h1 hne
end Go.Proofs.YtinmgbodgecoeaaGreat
