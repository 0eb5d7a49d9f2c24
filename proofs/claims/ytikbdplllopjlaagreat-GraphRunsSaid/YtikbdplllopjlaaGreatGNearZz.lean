/- The graph's heap: ops of two places in one object. Conditions: as stated. -/
import Derived.Test.YtikbdplllopjlaaGreatQ06Zz
set_option linter.unusedVariables false
set_option linter.unusedSimpArgs false
set_option maxHeartbeats 8000000
set_option maxRecDepth 100000
open Go.Proofs.Tryz
namespace Go.Proofs.YtikbdplllopjlaaGreat
open Go.RowKit
theorem Dq(hb n aA B k:Nat)(op:Int)(x y:Int)(A:Option Addr)(M:List MO)(w:World)(hB:B<=w.heap.size)(aZ:hb<w.heap.size)(hc:w.cell? ⟨hb,0,none⟩=some (.slice A n aA))(hM:cB w B A n M)(hk:k+1<M.length)(h0:12<=op)(h1:op<=30)(hl:(aF M (k+1)).live=false)(h2:op≠25/\op≠26):
  Calls prog 103 #[.pointer (some ⟨hb,0,none⟩),.int .i64 op,.agg #[.int .i64 ((k:Int)+1),.int .i64 x],.agg #[.int .i64 ((k:Int)+1),.int .i64 y]] w λe w'=>e= .returned (.tuple #[.agg #[.int .i64 0,.int .i64 0],.bool false])/\Below w.heap.size w w':=by
 obtain⟨mb,mo,rfl,gK,lV,A',len,cap',c0,c1,c2,jb,hl2,GJ,GI⟩:=hM.get hk;have eW:mb<w.heap.size:=by omega
 rw[hl]at c2;have hz1:hb<w.heap.size+1:=by omega
 have hz2:hb<w.heap.size+1+1:=by omega
 have hz3:mb<w.heap.size+1:=by omega
 have yC:mb<w.heap.size+1+1:=by omega
 have iZ:(0:Int)<=(k:Int):=by omega
 have bA:(k:Int)<(n:Int):=by omega
 have hn:=hM.2.1;have bT:IntKind.i64.wrap (k:Int)=(k:Int):=IntWalk.i64_in _ (by omega);have hw2:IntKind.i64.wrap ((k:Int)+1-1)=(k:Int):=by rw[Int.add_sub_cancel];exact bT
 have Qj:=ae (λW=>qP op x y W h0 h1);have e1:(op==25)=false:=by simp;omega
 have e2:(op==26)=false:=by simp;omega
 clear hM hk hl jb c0 c1;go_enter func103,ntmps103;refine ak λQ HQ=>?_;go_wp2_with fail;go_quiet (fail);go_wp2_with fail;refine HQ _ _ _ ?_;refine aR (v:= .tuple #[.agg #[.int .i64 0,.int .i64 0],.bool false]) (by simp[results,results103,go_sem]) rfl ⟨rfl,?_⟩;exact((below_drewN (aO _ _ _ _) _).setCell (by first|(simp;done)|(simp;omega)) _).setCell (by first|(simp;done)|(simp;omega)) _
theorem Dr(hb n aA B k:Nat)(op:Int)(x y:Int)(A:Option Addr)(M:List MO)(w:World)(hB:B<=w.heap.size)(aZ:hb<w.heap.size)(hc:w.cell? ⟨hb,0,none⟩=some (.slice A n aA))(hM:cB w B A n M)(hk:k+1<M.length)(h0:12<=op)(h1:op<=30)(hl:(aF M (k+1)).live=false)(h2:op=25\/op=26):
  Calls prog 103 #[.pointer (some ⟨hb,0,none⟩),.int .i64 op,.agg #[.int .i64 ((k:Int)+1),.int .i64 x],.agg #[.int .i64 ((k:Int)+1),.int .i64 y]] w λe w'=>e= .returned (.tuple #[.agg #[.int .i64 0,.int .i64 0],.bool false])/\Below w.heap.size w w':=by
 obtain⟨mb,mo,rfl,gK,lV,A',len,cap',c0,c1,c2,jb,hl2,GJ,GI⟩:=hM.get hk;have eW:mb<w.heap.size:=by omega
 rw[hl]at c2;have hz1:hb<w.heap.size+1:=by omega
 have hz2:hb<w.heap.size+1+1:=by omega
 have hz3:mb<w.heap.size+1:=by omega
 have yC:mb<w.heap.size+1+1:=by omega
 have iZ:(0:Int)<=(k:Int):=by omega
 have bA:(k:Int)<(n:Int):=by omega
 have hn:=hM.2.1;have bT:IntKind.i64.wrap (k:Int)=(k:Int):=IntWalk.i64_in _ (by omega);have hw2:IntKind.i64.wrap ((k:Int)+1-1)=(k:Int):=by rw[Int.add_sub_cancel];exact bT
 have Qj:=ae (λW=>qP op x y W h0 h1);clear hM hk hl jb c0 c1;rcases h2 with rfl|rfl
 all_goals
  go_enter func103,ntmps103;refine ak λQ HQ=>?_;go_wp2_with fail;go_quiet (fail);go_wp2_with fail;refine HQ _ _ _ ?_;refine aR (v:= .tuple #[.agg #[.int .i64 0,.int .i64 0],.bool false]) (by simp[results,results103,go_sem]) rfl ⟨rfl,?_⟩;exact((below_drewN (aO _ _ _ _) _).setCell (by first|(simp;done)|(simp;omega)) _).setCell (by first|(simp;done)|(simp;omega)) _
theorem QL(hb n aA B k:Nat)(op:Int)(x y:Int)(A:Option Addr)(M:List MO)(w:World)(hB:B<=w.heap.size)(aZ:hb<w.heap.size)(hc:w.cell? ⟨hb,0,none⟩=some (.slice A n aA))(hM:cB w B A n M)(hk:k+1<M.length)(h0:12<=op)(h1:op<=30)(hl:(aF M (k+1)).live=true)(h2:op=25\/op=26):
  Calls prog 103 #[.pointer (some ⟨hb,0,none⟩),.int .i64 op,.agg #[.int .i64 ((k:Int)+1),.int .i64 x],.agg #[.int .i64 ((k:Int)+1),.int .i64 y]] w λe w'=>e= .returned (.tuple #[.agg #[.int .i64 0,.int .i64 (bO op x y)],.bool true])/\Below w.heap.size w w':=by
 obtain⟨mb,mo,rfl,gK,lV,A',len,cap',c0,c1,c2,jb,hl2,GJ,GI⟩:=hM.get hk;have eW:mb<w.heap.size:=by omega
 rw[hl]at c2;have hz1:hb<w.heap.size+1:=by omega
 have hz2:hb<w.heap.size+1+1:=by omega
 have hz3:mb<w.heap.size+1:=by omega
 have yC:mb<w.heap.size+1+1:=by omega
 have iZ:(0:Int)<=(k:Int):=by omega
 have bA:(k:Int)<(n:Int):=by omega
 have hn:=hM.2.1;have bT:IntKind.i64.wrap (k:Int)=(k:Int):=IntWalk.i64_in _ (by omega);have hw2:IntKind.i64.wrap ((k:Int)+1-1)=(k:Int):=by rw[Int.add_sub_cancel];exact bT
 have Qj:=ae (λW=>qP op x y W h0 h1);clear hM hk hl jb c0 c1;rcases h2 with rfl|rfl
 all_goals
  go_enter func103,ntmps103;refine ak λQ HQ=>?_;go_wp2_with fail;go_quiet (fail);go_wp2_with fail;refine(Qj _).mono ?_;rintro e w2 ⟨rfl,q,rfl⟩;go_wp2_with fail;refine HQ _ _ _ ?_;refine aR (v:= .tuple #[.agg #[.int .i64 0,.int .i64 (bO _ x y)],.bool true]) (by simp[results,results103,go_sem]) rfl ⟨rfl,?_⟩;exact((below_drewN (aO _ _ _ _) _).setCell (by first|(simp;done)|(simp;omega)) _).setCell (by first|(simp;done)|(simp;omega)) _
theorem Ny(hb n aA B k:Nat)(op:Int)(x y:Int)(A:Option Addr)(M:List MO)(w:World)(hB:B<=w.heap.size)(aZ:hb<w.heap.size)(hc:w.cell? ⟨hb,0,none⟩=some (.slice A n aA))(hM:cB w B A n M)(hk:k+1<M.length)(h0:12<=op)(h1:op<=30)(hl:(aF M (k+1)).live=true)(h2:op=13):
  Calls prog 103 #[.pointer (some ⟨hb,0,none⟩),.int .i64 op,.agg #[.int .i64 ((k:Int)+1),.int .i64 x],.agg #[.int .i64 ((k:Int)+1),.int .i64 y]] w λe w'=>e= .returned (.tuple #[.agg #[.int .i64 0,.int .i64 (bO op x y)],.bool true])/\Below w.heap.size w w':=by
 obtain⟨mb,mo,rfl,gK,lV,A',len,cap',c0,c1,c2,jb,hl2,GJ,GI⟩:=hM.get hk;have eW:mb<w.heap.size:=by omega
 rw[hl]at c2;have hz1:hb<w.heap.size+1:=by omega
 have hz2:hb<w.heap.size+1+1:=by omega
 have hz3:mb<w.heap.size+1:=by omega
 have yC:mb<w.heap.size+1+1:=by omega
 have iZ:(0:Int)<=(k:Int):=by omega
 have bA:(k:Int)<(n:Int):=by omega
 have hn:=hM.2.1;have bT:IntKind.i64.wrap (k:Int)=(k:Int):=IntWalk.i64_in _ (by omega);have hw2:IntKind.i64.wrap ((k:Int)+1-1)=(k:Int):=by rw[Int.add_sub_cancel];exact bT
 have Qj:=ae (λW=>qP op x y W h0 h1);clear hM hk hl jb c0 c1;subst h2
 all_goals
  go_enter func103,ntmps103;refine ak λQ HQ=>?_;go_wp2_with fail;go_quiet (fail);go_wp2_with fail;refine(Qj _).mono ?_;rintro e w2 ⟨rfl,q,rfl⟩;go_wp2_with fail;refine HQ _ _ _ ?_;refine aR (v:= .tuple #[.agg #[.int .i64 0,.int .i64 (bO _ x y)],.bool true]) (by simp[results,results103,go_sem]) rfl ⟨rfl,?_⟩;exact((below_drewN (aO _ _ _ _) _).setCell (by first|(simp;done)|(simp;omega)) _).setCell (by first|(simp;done)|(simp;omega)) _
theorem Nz(hb n aA B k:Nat)(op:Int)(x y:Int)(A:Option Addr)(M:List MO)(w:World)(hB:B<=w.heap.size)(aZ:hb<w.heap.size)(hc:w.cell? ⟨hb,0,none⟩=some (.slice A n aA))(hM:cB w B A n M)(hk:k+1<M.length)(h0:12<=op)(h1:op<=30)(hl:(aF M (k+1)).live=true)(h2:27<=op):
  Calls prog 103 #[.pointer (some ⟨hb,0,none⟩),.int .i64 op,.agg #[.int .i64 ((k:Int)+1),.int .i64 x],.agg #[.int .i64 ((k:Int)+1),.int .i64 y]] w λe w'=>e= .returned (.tuple #[.agg #[.int .i64 0,.int .i64 (bO op x y)],.bool true])/\Below w.heap.size w w':=by
 obtain⟨mb,mo,rfl,gK,lV,A',len,cap',c0,c1,c2,jb,hl2,GJ,GI⟩:=hM.get hk;have eW:mb<w.heap.size:=by omega
 rw[hl]at c2;have hz1:hb<w.heap.size+1:=by omega
 have hz2:hb<w.heap.size+1+1:=by omega
 have hz3:mb<w.heap.size+1:=by omega
 have yC:mb<w.heap.size+1+1:=by omega
 have iZ:(0:Int)<=(k:Int):=by omega
 have bA:(k:Int)<(n:Int):=by omega
 have hn:=hM.2.1;have bT:IntKind.i64.wrap (k:Int)=(k:Int):=IntWalk.i64_in _ (by omega);have hw2:IntKind.i64.wrap ((k:Int)+1-1)=(k:Int):=by rw[Int.add_sub_cancel];exact bT
 have Qj:=ae (λW=>qP op x y W h0 h1);have e1:(op==25)=false:=by simp;omega
 have e2:(op==26)=false:=by simp;omega
 have e3:(op !=13)=true:=by simp;omega
 have e4:decide (op<27)=false:=by simp;omega
 have e5:decide (30<op)=false:=by simp;omega
 clear hM hk hl jb c0 c1;go_enter func103,ntmps103;refine ak λQ HQ=>?_;go_wp2_with fail;go_quiet (fail);go_wp2_with fail;refine(Qj _).mono ?_;rintro e w2 ⟨rfl,q,rfl⟩;go_wp2_with fail;refine HQ _ _ _ ?_;refine aR (v:= .tuple #[.agg #[.int .i64 0,.int .i64 (bO op x y)],.bool true]) (by simp[results,results103,go_sem]) rfl ⟨rfl,?_⟩;exact((below_drewN (aO _ _ _ _) _).setCell (by first|(simp;done)|(simp;omega)) _).setCell (by first|(simp;done)|(simp;omega)) _
theorem QK(hb n aA B k:Nat)(op:Int)(x y:Int)(A:Option Addr)(M:List MO)(w:World)(hB:B<=w.heap.size)(aZ:hb<w.heap.size)(hc:w.cell? ⟨hb,0,none⟩=some (.slice A n aA))(hM:cB w B A n M)(hk:k+1<M.length)(h0:12<=op)(h1:op<=30)(hl:(aF M (k+1)).live=true)(h2:op≠25/\op≠26/\op≠13/\op<27):
  Calls prog 103 #[.pointer (some ⟨hb,0,none⟩),.int .i64 op,.agg #[.int .i64 ((k:Int)+1),.int .i64 x],.agg #[.int .i64 ((k:Int)+1),.int .i64 y]] w λe w'=>e= .returned (.tuple #[.agg #[.int .i64 0,.int .i64 0],.bool false])/\Below w.heap.size w w':=by
 obtain⟨mb,mo,rfl,gK,lV,A',len,cap',c0,c1,c2,jb,hl2,GJ,GI⟩:=hM.get hk;have eW:mb<w.heap.size:=by omega
 rw[hl]at c2;have hz1:hb<w.heap.size+1:=by omega
 have hz2:hb<w.heap.size+1+1:=by omega
 have hz3:mb<w.heap.size+1:=by omega
 have yC:mb<w.heap.size+1+1:=by omega
 have iZ:(0:Int)<=(k:Int):=by omega
 have bA:(k:Int)<(n:Int):=by omega
 have hn:=hM.2.1;have bT:IntKind.i64.wrap (k:Int)=(k:Int):=IntWalk.i64_in _ (by omega);have hw2:IntKind.i64.wrap ((k:Int)+1-1)=(k:Int):=by rw[Int.add_sub_cancel];exact bT
 have Qj:=ae (λW=>qP op x y W h0 h1);have e1:(op==25)=false:=by simp;omega
 have e2:(op==26)=false:=by simp;omega
 have e3:(op !=13)=true:=by simp;omega
 have e4:decide (op<27)=true:=by simp;omega
 clear hM hk hl jb c0 c1;go_enter func103,ntmps103;refine ak λQ HQ=>?_;go_wp2_with fail;go_quiet (fail);go_wp2_with fail;refine HQ _ _ _ ?_;refine aR (v:= .tuple #[.agg #[.int .i64 0,.int .i64 0],.bool false]) (by simp[results,results103,go_sem]) rfl ⟨rfl,?_⟩;exact((below_drewN (aO _ _ _ _) _).setCell (by first|(simp;done)|(simp;omega)) _).setCell (by first|(simp;done)|(simp;omega)) _
theorem Hn(hb n aA B:Nat)(op:Int)(a b:V)(A:Option Addr)(M:List MO)(w:World)(hB:B<=w.heap.size)(aZ:hb<w.heap.size)(hc:w.cell? ⟨hb,0,none⟩=some (.slice A n aA))(hM:cB w B A n M)(ha:a.obj≠0)(hka:a.obj<M.length)(Yw:b.obj≠0)(hkb:b.obj<M.length)(h0:12<=op)(h1:op<=30):
  Calls prog 103 #[.pointer (some ⟨hb,0,none⟩),.int .i64 op,.agg #[.int .i64 a.obj,.int .i64 a.n],.agg #[.int .i64 b.obj,.int .i64 b.n]] w λe w'=>cH (gR bO M op a b) e/\Below w.heap.size w w':=by
 by_cases hne:a.obj=b.obj
 ·rw[My ha hne];obtain⟨obj,x⟩:=a;obtain⟨obj',y⟩:=b;simp only at hne;subst hne;rcases obj with _|k
  ·exact absurd rfl ha
  ·simp only at hka;show Calls _ _ #[_,_,.agg #[.int .i64 ((k+1:Nat):Int),.int .i64 x],.agg #[.int .i64 ((k+1:Nat):Int),.int .i64 y]] w _;rw[Int.natCast_add,Int.natCast_one];simp only;by_cases hd:(aF M (k+1)).live=true
   ·by_cases h2:op=25\/op=26
    ·rw[if_pos ⟨hd,by omega⟩];exact(QL hb n aA B k op x y A M w hB aZ hc hM hka h0 h1 hd h2).mono λe w'⟨he,aG⟩=>⟨by show e=_;rw[he];simp[aI],aG⟩
    ·by_cases h3:op=13
     ·rw[if_pos ⟨hd,by omega⟩];exact(Ny hb n aA B k op x y A M w hB aZ hc hM hka h0 h1 hd h3).mono λe w'⟨he,aG⟩=>⟨by show e=_;rw[he];simp[aI],aG⟩
     ·by_cases h4:27<=op
      ·rw[if_pos ⟨hd,by omega⟩];exact(Nz hb n aA B k op x y A M w hB aZ hc hM hka h0 h1 hd h4).mono λe w'⟨he,aG⟩=>⟨by show e=_;rw[he];simp[aI],aG⟩
      ·rw[if_neg (λhh=>by have:=hh.2;omega)];exact(QK hb n aA B k op x y A M w hB aZ hc hM hka h0 h1 hd (by omega)).mono λe w'⟨he,aG⟩=>⟨⟨0,0,he⟩,aG⟩
   ·have Yr:(aF M (k+1)).live=false:=by simpa using hd
    rw[if_neg (λhh=>hd hh.1)];by_cases h2:op=25\/op=26
    ·exact(Dr hb n aA B k op x y A M w hB aZ hc hM hka h0 h1 Yr h2).mono λe w'⟨he,aG⟩=>⟨⟨0,0,he⟩,aG⟩
    ·exact(Dq hb n aA B k op x y A M w hB aZ hc hM hka h0 h1 Yr (by omega)).mono λe w'⟨he,aG⟩=>⟨⟨0,0,he⟩,aG⟩
 ·rw[Pl ha Yw hne];exact Hm hb n aA B op a b A M w hB aZ hc hM ha hka Yw hkb h0 h1 hne
end Go.Proofs.YtikbdplllopjlaaGreat
