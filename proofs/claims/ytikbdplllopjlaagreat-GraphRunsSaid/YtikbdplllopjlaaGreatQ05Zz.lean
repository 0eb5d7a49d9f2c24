/- The graph's heap: the element at a place. Conditions: as stated. The graph's heap: Load, One. Conditions: as stated. The graph's clock: Tick, Stuck, Leave, Enter. Conditions: as stated. The graph's clock: Enter, Exit, End. Conditions: as stated. The graph's clock: End. Conditions: as stated. The graph's clock: Exit. Conditions: as stated. The graph's heap and clock: how they lie, whole. No program in sight but its name. No condition. An empty memory and one of the object that is none are one to the page's machine: plain laws. No program in sight. No condition. The graph's heap: cut; how many elements objects have. Conditions: as stated. The graph's heap: a store. Conditions: as stated. How many elements objects have. Conditions: as stated. -/
import Derived.Test.YtikbdplllopjlaaGreatGAtZz
set_option linter.unusedVariables false
set_option linter.unusedSimpArgs false
set_option maxHeartbeats 8000000
set_option maxRecDepth 100000
open Go.Proofs.Tryz
namespace Go.Proofs.YtikbdplllopjlaaGreat
open Go.RowKit
theorem OD(hb:Nat)(x s:Int)(w:World):
  Calls prog 99 #[.pointer (some ⟨hb,0,none⟩),.agg #[.int .i64 0,.int .i64 x],.int .i64 s] w λe w'=>e= .returned (.pointer none)/\Below w.heap.size w w':=by
 go_enter func99,ntmps99;go_wp2_with fail;go_ret;exact⟨rfl,aj _ _⟩
theorem OG(hb mb mo n aA B k:Nat)(x s:Nat)(M:List MO)(w:World)(hB:B<=w.heap.size)(aZ:hb<w.heap.size)(hc:w.cell? ⟨hb,0,none⟩=some (.slice (some ⟨mb,mo,none⟩) n aA))(hM:cB w B (some ⟨mb,mo,none⟩) n M)(hk:k+1<M.length)(hx:x<=512)(hs1:1<=s)(hs2:s<=8)(hl:(aF M (k+1)).live=false):
  Calls prog 99 #[.pointer (some ⟨hb,0,none⟩),.agg #[.int .i64 ((k:Int)+1),.int .i64 x],.int .i64 s] w λe w'=>e= .returned (.pointer none)/\Below w.heap.size w w':=by
 obtain⟨GH,GG,hA,gK,lV,A',len,cap',c0,c1,c2,jb,hl2,GJ,GI⟩:=hM.get hk;injection hA with hA;injection hA with zB xy;subst zB xy;have eW:mb<w.heap.size:=by omega
 rw[hl]at c2;have hz1:hb<w.heap.size+1:=by omega
 have hz3:mb<w.heap.size+1:=by omega
 have iZ:(0:Int)<=(k:Int):=by omega
 have bA:(k:Int)<(n:Int):=by omega
 have hk2:(((k:Int)+1)==0)=false:=by simp;omega
 have hn:=hM.2.1;have bT:IntKind.i64.wrap (k:Int)=(k:Int):=IntWalk.i64_in _ (by omega);have hw2:IntKind.i64.wrap ((k:Int)+1-1)=(k:Int):=by rw[Int.add_sub_cancel];exact bT
 have HS:=ae (λ(W:World)(aG:Below (w.heap.size+1) (w.alloc (.cells #[.int .i64 ((k:Int)+1),.int .i64 x] 72)) W)=>(⟨ag (ag hc (aj w _) aZ) aG (by omega),ag (ag c0 (aj w _) eW) aG (by omega),ag (ag c1 (aj w _) eW) aG (by omega),ag (ag c2 (aj w _) eW) aG (by omega),ag (by simp[go_sem]) aG (by omega)⟩:W.cell? ⟨hb,0,none⟩=some (.slice (some ⟨mb,mo,none⟩) n aA)/\W.cell? ⟨mb,mo+k*3,none⟩=some (.int .i64 (aF M (k+1)).size)/\W.cell? ⟨mb,mo+k*3+1,none⟩=some (.slice A' len cap')/\W.cell? ⟨mb,mo+k*3+2,none⟩=some (.bool (!false))/\W.cell? ⟨w.heap.size,0,none⟩=some (.int .i64 ((k:Int)+1))));clear hM hk hl jb;go_enter func99,ntmps99;refine ak λQ HQ=>?_;go_wp2_with fail
 go_region_held3 (λw'=>w'.cell? ⟨hb,0,none⟩=some (.slice (some ⟨mb,mo,none⟩) n aA)/\w'.cell? ⟨mb,mo+k*3,none⟩=some (.int .i64 (aF M (k+1)).size)/\w'.cell? ⟨mb,mo+k*3+1,none⟩=some (.slice A' len cap')/\w'.cell? ⟨mb,mo+k*3+2,none⟩=some (.bool (!false))/\w'.cell? ⟨w.heap.size,0,none⟩=some (.int .i64 ((k:Int)+1))) (first|exact HS _ (((bI _ _).alloc (by first|(simp;done)|(simp;omega)) _)).drew|go_keep) (fail);go_wp2_with fail;refine HQ _ _ _ ?_;refine aR (v:= .pointer none) (by simp[results,results99,go_sem]) rfl ⟨rfl,?_⟩;exact(aJ _ _ _).drew
theorem OE(hb mb mo n aA B k:Nat)(x s:Nat)(M:List MO)(w:World)(hB:B<=w.heap.size)(aZ:hb<w.heap.size)(hc:w.cell? ⟨hb,0,none⟩=some (.slice (some ⟨mb,mo,none⟩) n aA))(hM:cB w B (some ⟨mb,mo,none⟩) n M)(hk:k+1<M.length)(hx:x<=512)(hs1:1<=s)(hs2:s<=8)(hl:(aF M (k+1)).live=true)(hs:¬(aF M (k+1)).size=s):
  Calls prog 99 #[.pointer (some ⟨hb,0,none⟩),.agg #[.int .i64 ((k:Int)+1),.int .i64 x],.int .i64 s] w λe w'=>e= .returned (.pointer none)/\Below w.heap.size w w':=by
 obtain⟨GH,GG,hA,gK,lV,A',len,cap',c0,c1,c2,jb,hl2,GJ,GI⟩:=hM.get hk;injection hA with hA;injection hA with zB xy;subst zB xy;have eW:mb<w.heap.size:=by omega
 rw[hl]at c2;have hz1:hb<w.heap.size+1:=by omega
 have hz3:mb<w.heap.size+1:=by omega
 have iZ:(0:Int)<=(k:Int):=by omega
 have bA:(k:Int)<(n:Int):=by omega
 have hk2:(((k:Int)+1)==0)=false:=by simp;omega
 have hn:=hM.2.1;have bT:IntKind.i64.wrap (k:Int)=(k:Int):=IntWalk.i64_in _ (by omega);have hw2:IntKind.i64.wrap ((k:Int)+1-1)=(k:Int):=by rw[Int.add_sub_cancel];exact bT
 have Qc:((aF M (k+1)).size !=(s:Int))=true:=by simpa using hs
 have HS:=ae (λ(W:World)(aG:Below (w.heap.size+1) (w.alloc (.cells #[.int .i64 ((k:Int)+1),.int .i64 x] 72)) W)=>(⟨ag (ag hc (aj w _) aZ) aG (by omega),ag (ag c0 (aj w _) eW) aG (by omega),ag (ag c1 (aj w _) eW) aG (by omega),ag (ag c2 (aj w _) eW) aG (by omega),ag (by simp[go_sem]) aG (by omega)⟩:W.cell? ⟨hb,0,none⟩=some (.slice (some ⟨mb,mo,none⟩) n aA)/\W.cell? ⟨mb,mo+k*3,none⟩=some (.int .i64 (aF M (k+1)).size)/\W.cell? ⟨mb,mo+k*3+1,none⟩=some (.slice A' len cap')/\W.cell? ⟨mb,mo+k*3+2,none⟩=some (.bool (!true))/\W.cell? ⟨w.heap.size,0,none⟩=some (.int .i64 ((k:Int)+1))));clear hM hk hl jb;go_enter func99,ntmps99;refine ak λQ HQ=>?_;go_wp2_with fail
 go_region_held3 (λw'=>w'.cell? ⟨hb,0,none⟩=some (.slice (some ⟨mb,mo,none⟩) n aA)/\w'.cell? ⟨mb,mo+k*3,none⟩=some (.int .i64 (aF M (k+1)).size)/\w'.cell? ⟨mb,mo+k*3+1,none⟩=some (.slice A' len cap')/\w'.cell? ⟨mb,mo+k*3+2,none⟩=some (.bool (!true))/\w'.cell? ⟨w.heap.size,0,none⟩=some (.int .i64 ((k:Int)+1))) (first|exact HS _ (((bI _ _).alloc (by first|(simp;done)|(simp;omega)) _)).drew|go_keep) (fail);go_wp2_with fail;refine HQ _ _ _ ?_;refine aR (v:= .pointer none) (by simp[results,results99,go_sem]) rfl ⟨rfl,?_⟩;exact(aJ _ _ _).drew
theorem Rs(hb mb mo n aA B k:Nat)(x s:Nat)(M:List MO)(w:World)(hB:B<=w.heap.size)(aZ:hb<w.heap.size)(hc:w.cell? ⟨hb,0,none⟩=some (.slice (some ⟨mb,mo,none⟩) n aA))(hM:cB w B (some ⟨mb,mo,none⟩) n M)(hk:k+1<M.length)(hx:x<=512)(hs1:1<=s)(hs2:s<=8)(hl:(aF M (k+1)).live=true)(hs:(aF M (k+1)).size=s)(ho:¬x%s=0):
  Calls prog 99 #[.pointer (some ⟨hb,0,none⟩),.agg #[.int .i64 ((k:Int)+1),.int .i64 x],.int .i64 s] w λe w'=>e= .returned (.pointer none)/\Below w.heap.size w w':=by
 obtain⟨GH,GG,hA,gK,lV,A',len,cap',c0,c1,c2,jb,hl2,GJ,GI⟩:=hM.get hk;injection hA with hA;injection hA with zB xy;subst zB xy;have eW:mb<w.heap.size:=by omega
 rw[hl]at c2;have hz1:hb<w.heap.size+1:=by omega
 have hz3:mb<w.heap.size+1:=by omega
 have iZ:(0:Int)<=(k:Int):=by omega
 have bA:(k:Int)<(n:Int):=by omega
 have hk2:(((k:Int)+1)==0)=false:=by simp;omega
 have hn:=hM.2.1;have bT:IntKind.i64.wrap (k:Int)=(k:Int):=IntWalk.i64_in _ (by omega);have hw2:IntKind.i64.wrap ((k:Int)+1-1)=(k:Int):=by rw[Int.add_sub_cancel];exact bT
 obtain⟨hlen,hrow⟩:=jb hl;rw[hs]at c0;have dO:(len:Int)*(s:Int)=(aF M (k+1)).bytes:=by unfold MO.bytes;rw[hlen,hs,Int.mul_comm]
 have qX:=MO.gQ GJ GI (by omega:(aF M (k+1)).l.length<=64);obtain⟨hb0,hb1⟩:=qX;have Fq:(0:Int)<=(len:Int)*(s:Int):=by rw[dO];omega
 have Bc:(len:Int)*(s:Int)<=512:=by rw[dO];omega
 have rL:((x:Int)%(s:Int) !=0)=true:=by simp;omega
 have S8:=ae dO;clear dO hlen hrow hs;have HS:=ae (λ(W:World)(aG:Below (w.heap.size+1) (w.alloc (.cells #[.int .i64 ((k:Int)+1),.int .i64 x] 72)) W)=>(⟨ag (ag hc (aj w _) aZ) aG (by omega),ag (ag c0 (aj w _) eW) aG (by omega),ag (ag c1 (aj w _) eW) aG (by omega),ag (ag c2 (aj w _) eW) aG (by omega),ag (by simp[go_sem]) aG (by omega)⟩:W.cell? ⟨hb,0,none⟩=some (.slice (some ⟨mb,mo,none⟩) n aA)/\W.cell? ⟨mb,mo+k*3,none⟩=some (.int .i64 (s:Int))/\W.cell? ⟨mb,mo+k*3+1,none⟩=some (.slice A' len cap')/\W.cell? ⟨mb,mo+k*3+2,none⟩=some (.bool (!true))/\W.cell? ⟨w.heap.size,0,none⟩=some (.int .i64 ((k:Int)+1))));clear hM hk hl jb;go_enter func99,ntmps99;refine ak λQ HQ=>?_;go_wp2_with fail;go_region_held3 (λw'=>w'.cell? ⟨hb,0,none⟩=some (.slice (some ⟨mb,mo,none⟩) n aA)/\w'.cell? ⟨mb,mo+k*3,none⟩=some (.int .i64 (s:Int))/\w'.cell? ⟨mb,mo+k*3+1,none⟩=some (.slice A' len cap')/\w'.cell? ⟨mb,mo+k*3+2,none⟩=some (.bool (!true))/\w'.cell? ⟨w.heap.size,0,none⟩=some (.int .i64 ((k:Int)+1))) (first|exact HS _ (((bI _ _).alloc (by first|(simp;done)|(simp;omega)) _)).drew|go_keep) (fail);go_wp2_with fail;refine HQ _ _ _ ?_;refine aR (v:= .pointer none) (by simp[results,results99,go_sem]) rfl ⟨rfl,?_⟩;exact(aJ _ _ _).drew
theorem Rt(hb mb mo n aA B k:Nat)(x s:Nat)(M:List MO)(w:World)(hB:B<=w.heap.size)(aZ:hb<w.heap.size)(hc:w.cell? ⟨hb,0,none⟩=some (.slice (some ⟨mb,mo,none⟩) n aA))(hM:cB w B (some ⟨mb,mo,none⟩) n M)(hk:k+1<M.length)(hx:x<=512)(hs1:1<=s)(hs2:s<=8)(hl:(aF M (k+1)).live=true)(hs:(aF M (k+1)).size=s)(ho:x%s=0)(hf:(aF M (k+1)).bytes<=x):
  Calls prog 99 #[.pointer (some ⟨hb,0,none⟩),.agg #[.int .i64 ((k:Int)+1),.int .i64 x],.int .i64 s] w λe w'=>e= .returned (.pointer none)/\Below w.heap.size w w':=by
 obtain⟨GH,GG,hA,gK,lV,A',len,cap',c0,c1,c2,jb,hl2,GJ,GI⟩:=hM.get hk;injection hA with hA;injection hA with zB xy;subst zB xy;have eW:mb<w.heap.size:=by omega
 rw[hl]at c2;have hz1:hb<w.heap.size+1:=by omega
 have hz3:mb<w.heap.size+1:=by omega
 have iZ:(0:Int)<=(k:Int):=by omega
 have bA:(k:Int)<(n:Int):=by omega
 have hk2:(((k:Int)+1)==0)=false:=by simp;omega
 have hn:=hM.2.1;have bT:IntKind.i64.wrap (k:Int)=(k:Int):=IntWalk.i64_in _ (by omega);have hw2:IntKind.i64.wrap ((k:Int)+1-1)=(k:Int):=by rw[Int.add_sub_cancel];exact bT
 obtain⟨hlen,hrow⟩:=jb hl;rw[hs]at c0;have dO:(len:Int)*(s:Int)=(aF M (k+1)).bytes:=by unfold MO.bytes;rw[hlen,hs,Int.mul_comm]
 have qX:=MO.gQ GJ GI (by omega:(aF M (k+1)).l.length<=64);obtain⟨hb0,hb1⟩:=qX;have Fq:(0:Int)<=(len:Int)*(s:Int):=by rw[dO];omega
 have Bc:(len:Int)*(s:Int)<=512:=by rw[dO];omega
 have rL:((x:Int)%(s:Int) !=0)=false:=by simp;omega
 have hf':decide ((len:Int)*(s:Int)<=(x:Int))=true:=by rw[dO];simpa using hf
 rw[<-dO]at hf;have S8:=ae dO;clear dO hlen hrow hs;have HS:=ae (λ(W:World)(aG:Below (w.heap.size+1) (w.alloc (.cells #[.int .i64 ((k:Int)+1),.int .i64 x] 72)) W)=>(⟨ag (ag hc (aj w _) aZ) aG (by omega),ag (ag c0 (aj w _) eW) aG (by omega),ag (ag c1 (aj w _) eW) aG (by omega),ag (ag c2 (aj w _) eW) aG (by omega),ag (by simp[go_sem]) aG (by omega)⟩:W.cell? ⟨hb,0,none⟩=some (.slice (some ⟨mb,mo,none⟩) n aA)/\W.cell? ⟨mb,mo+k*3,none⟩=some (.int .i64 (s:Int))/\W.cell? ⟨mb,mo+k*3+1,none⟩=some (.slice A' len cap')/\W.cell? ⟨mb,mo+k*3+2,none⟩=some (.bool (!true))/\W.cell? ⟨w.heap.size,0,none⟩=some (.int .i64 ((k:Int)+1))));clear hM hk hl jb;go_enter func99,ntmps99
 refine ak λQ HQ=>?_;go_wp2_with fail;go_region_held3 (λw'=>w'.cell? ⟨hb,0,none⟩=some (.slice (some ⟨mb,mo,none⟩) n aA)/\w'.cell? ⟨mb,mo+k*3,none⟩=some (.int .i64 (s:Int))/\w'.cell? ⟨mb,mo+k*3+1,none⟩=some (.slice A' len cap')/\w'.cell? ⟨mb,mo+k*3+2,none⟩=some (.bool (!true))/\w'.cell? ⟨w.heap.size,0,none⟩=some (.int .i64 ((k:Int)+1))) (first|exact HS _ (((bI _ _).alloc (by first|(simp;done)|(simp;omega)) _)).drew|go_keep) (fail);go_wp2_with fail;refine HQ _ _ _ ?_;refine aR (v:= .pointer none) (by simp[results,results99,go_sem]) rfl ⟨rfl,?_⟩;exact(aJ _ _ _).drew
theorem Rq(hb mb mo n aA B k:Nat)(x s:Nat)(M:List MO)(w:World)(hB:B<=w.heap.size)(aZ:hb<w.heap.size)(hc:w.cell? ⟨hb,0,none⟩=some (.slice (some ⟨mb,mo,none⟩) n aA))(hM:cB w B (some ⟨mb,mo,none⟩) n M)(hk:k+1<M.length)(hx:x<=512)(hs1:1<=s)(hs2:s<=8)(hl:(aF M (k+1)).live=true)(hs:(aF M (k+1)).size=s)(ho:x%s=0)(hf:¬(aF M (k+1)).bytes<=x)(ob oo len0 cap0:Nat)(WD:w.cell? ⟨mb,mo+k*3+1,none⟩=some (.slice (some ⟨ob,oo,none⟩) len0 cap0)):
  Calls prog 99 #[.pointer (some ⟨hb,0,none⟩),.agg #[.int .i64 ((k:Int)+1),.int .i64 x],.int .i64 s] w λe w'=>e= .returned (.pointer (some ⟨ob,oo+x/s*2,none⟩))/\Below w.heap.size w w':=by
 obtain⟨GH,GG,hA,gK,lV,A',len,cap',c0,c1,c2,jb,hl2,GJ,GI⟩:=hM.get hk;injection hA with hA;injection hA with zB xy;subst zB xy;have eW:mb<w.heap.size:=by omega
 rw[hl]at c2;have hz1:hb<w.heap.size+1:=by omega
 have hz3:mb<w.heap.size+1:=by omega
 have iZ:(0:Int)<=(k:Int):=by omega
 have bA:(k:Int)<(n:Int):=by omega
 have hk2:(((k:Int)+1)==0)=false:=by simp;omega
 have hn:=hM.2.1;have bT:IntKind.i64.wrap (k:Int)=(k:Int):=IntWalk.i64_in _ (by omega);have hw2:IntKind.i64.wrap ((k:Int)+1-1)=(k:Int):=by rw[Int.add_sub_cancel];exact bT
 obtain⟨hlen,hrow⟩:=jb hl;rw[hs]at c0;have dO:(len:Int)*(s:Int)=(aF M (k+1)).bytes:=by unfold MO.bytes;rw[hlen,hs,Int.mul_comm]
 have qX:=MO.gQ GJ GI (by omega:(aF M (k+1)).l.length<=64);obtain⟨hb0,hb1⟩:=qX;have Fq:(0:Int)<=(len:Int)*(s:Int):=by rw[dO];omega
 have Bc:(len:Int)*(s:Int)<=512:=by rw[dO];omega
 rw[WD]at c1;injection c1 with c1;injection c1 with e1 e2 e3;subst e1;have e2':=e2.symm;have e3':=e3.symm;subst e2' e3';have c1:=WD;have rL:((x:Int)%(s:Int) !=0)=false:=by simp;omega
 have hf':decide ((len:Int)*(s:Int)<=(x:Int))=false:=by rw[dO];simpa using hf
 have hlt:x<s*len:=by
  have:¬((s*len:Nat):Int)<=(x:Int):=by
   have e:((s*len:Nat):Int)=(aF M (k+1)).bytes:=by rw[<-dO];simp[Int.mul_comm]
   rw[e];exact hf
  omega
 have hj:=jA hlt;have Rh:(x:Int)/(s:Int)=((x/s:Nat):Int):=by simp
 have hj4:(x:Int)/(s:Int)<(len:Int):=by rw[Rh];omega
 have hj5:0<=(x:Int)/(s:Int):=by rw[Rh];exact Int.natCast_nonneg _
 have HJ:=ae Rh;have HJ2:=ae hj;rw[<-dO]at hf;have S8:=ae dO;clear dO hlen hrow hs Rh hlt hj WD ho;have HS:=ae (λ(W:World)(aG:Below (w.heap.size+1) (w.alloc (.cells #[.int .i64 ((k:Int)+1),.int .i64 x] 72)) W)=>(⟨ag (ag hc (aj w _) aZ) aG (by omega),ag (ag c0 (aj w _) eW) aG (by omega),ag (ag c1 (aj w _) eW) aG (by omega),ag (ag c2 (aj w _) eW) aG (by omega),ag (by simp[go_sem]) aG (by omega)⟩:W.cell? ⟨hb,0,none⟩=some (.slice (some ⟨mb,mo,none⟩) n aA)/\W.cell? ⟨mb,mo+k*3,none⟩=some (.int .i64 (s:Int))/\W.cell? ⟨mb,mo+k*3+1,none⟩=some (.slice (some ⟨ob,oo,none⟩) len cap')/\W.cell? ⟨mb,mo+k*3+2,none⟩=some (.bool (!true))/\W.cell? ⟨w.heap.size,0,none⟩=some (.int .i64 ((k:Int)+1))))
 clear hM hk hl jb;go_enter func99,ntmps99;refine ak λQ HQ=>?_;go_wp2_with fail;go_region_held3 (λw'=>w'.cell? ⟨hb,0,none⟩=some (.slice (some ⟨mb,mo,none⟩) n aA)/\w'.cell? ⟨mb,mo+k*3,none⟩=some (.int .i64 (s:Int))/\w'.cell? ⟨mb,mo+k*3+1,none⟩=some (.slice (some ⟨ob,oo,none⟩) len cap')/\w'.cell? ⟨mb,mo+k*3+2,none⟩=some (.bool (!true))/\w'.cell? ⟨w.heap.size,0,none⟩=some (.int .i64 ((k:Int)+1))) (first|exact HS _ (((bI _ _).alloc (by first|(simp;done)|(simp;omega)) _)).drew|go_keep) (fail);go_wp2_with fail;go_quiet (fail);go_wp2_with fail;refine HQ _ _ _ ?_;refine aR (v:= .pointer (some ⟨ob,oo+x/s*2,none⟩)) (by simp[results,results99,go_sem]) rfl ⟨rfl,?_⟩;exact(below_drewN ((aJ _ _ _).drew) _)
theorem OW(kind n:Int)(w:World):
  Calls prog 117 #[.int .i64 kind,.int .i64 n] w λe w'=>e= .returned (.int .i64 (Va kind n))/\w=w':=by
 go_enter func117,ntmps117;go_wp2
 all_goals go_ret
 all_goals(refine⟨jU ?_,rfl⟩;simp_all [Va,jm,i8_in,i16_in,i32_in,u16_in])
theorem FJ(op n:Int)(w:World)(h0:31<=op)(h1:op<=36):
  Calls prog 101 #[.int .i64 op,.int .i64 n] w λe w'=>e= .returned (.int .i64 (EH op n))/\Below w.heap.size w w':=by
 have h:op=31\/op=32\/op=33\/op=34\/op=35\/op=36:=by omega
 rcases h with rfl|rfl|rfl|rfl|rfl|rfl
 all_goals
  go_enter func101,ntmps101;go_wp2_with(go_at_call 117;refine(OW _ _ _).mono ?_;rintro e w' ⟨rfl,rfl⟩);go_ret;exact⟨jU (by simp[EH,Va]),(bI _ _).alloc (aN _) _⟩
theorem Fz(hb:Nat)(A:Option Addr)(n aA B s:Nat)(a:V)(M:List MO)(w:World)(hB:B<=w.heap.size)(aZ:hb<w.heap.size)(hc:w.cell? ⟨hb,0,none⟩=some (.slice A n aA))(hM:cB w B A n M)(hk:a.obj≠0->a.obj<M.length)(hx:a.obj≠0->0<=a.n/\a.n<=512)(hs0:1<=s)(hs1:s<=8)(hF:qL M a s=none):
  Calls prog 99 #[.pointer (some ⟨hb,0,none⟩),.agg #[.int .i64 a.obj,.int .i64 a.n],.int .i64 s] w λe w'=>e= .returned (.pointer none)/\Below w.heap.size w w':=by
 obtain⟨obj,x⟩:=a;rcases obj with _|k
 ·exact OD hb x s w
 ·obtain⟨hx0,hx⟩:=hx (by simp);have hk:=hk (by simp);obtain⟨x',rfl⟩:=Int.eq_ofNat_of_zero_le hx0;simp only at hk hx;obtain⟨mb,mo,rfl,_⟩:=hM.get hk;unfold qL at hF;show Calls _ _ #[_,.agg #[.int .i64 ((k+1:Nat):Int),.int .i64 x'],_] w _;rw[Int.natCast_add,Int.natCast_one];by_cases hd:(aF M (k+1)).live=true
  ·by_cases hs:(aF M (k+1)).size=s
   ·by_cases ho:x'%s=0
    ·by_cases hf:(aF M (k+1)).bytes<=(x':Int)
     ·exact Rt hb mb mo n aA B k x' s M w hB aZ hc hM hk (by omega) hs0 hs1 hd hs ho hf
     ·rw[if_pos ⟨by simp,hd,hs,by simp only;omega,by simp only;omega⟩]at hF;cases hF
    ·exact Rs hb mb mo n aA B k x' s M w hB aZ hc hM hk (by omega) hs0 hs1 hd hs ho
   ·exact OE hb mb mo n aA B k x' s M w hB aZ hc hM hk (by omega) hs0 hs1 hd hs
  ·exact OG hb mb mo n aA B k x' s M w hB aZ hc hM hk (by omega) hs0 hs1 (by simpa using hd)
theorem xP{M:List MO}{a:V}{s j:Nat}(h:qL M a s=some j):0<a.obj/\(aF M a.obj).live=true/\(aF M a.obj).size=s/\a.n%s=0/\a.n<(aF M a.obj).bytes/\j=a.n.toNat/s:=by
 unfold qL at h;split at h
 ·rename_i h1;simp only[Option.some.injEq]at h;exact⟨h1.1,h1.2.1,h1.2.2.1,h1.2.2.2.1,h1.2.2.2.2,h.symm⟩
 ·cases h
theorem xw(hb:Nat)(A:Option Addr)(n aA B s j:Nat)(a:V)(M:List MO)(w:World)(hB:B<=w.heap.size)(aZ:hb<w.heap.size)(hc:w.cell? ⟨hb,0,none⟩=some (.slice A n aA))(hM:cB w B A n M)(hk:a.obj<M.length)(hx:0<=a.n/\a.n<=512)(hs0:1<=s)(hs1:s<=8)(hF:qL M a s=some j):
  j<(aF M a.obj).l.length/\∃ob oo mb mo len cap',A=some ⟨mb,mo,none⟩/\w.cell? ⟨mb,mo+(a.obj-1)*3+1,none⟩=some (.slice (some ⟨ob,oo,none⟩) len cap')/\ob<B/\bg w ob (oo+j*2) ((aF M a.obj).l.getD j ⟨0,0⟩)/\
  Calls prog 99 #[.pointer (some ⟨hb,0,none⟩),.agg #[.int .i64 a.obj,.int .i64 a.n],.int .i64 s] w λe w'=>e= .returned (.pointer (some ⟨ob,oo+j*2,none⟩))/\Below w.heap.size w w':=by
 obtain⟨hp,hd,hs,ho,hf,hj⟩:=xP hF;obtain⟨obj,x⟩:=a;rcases obj with _|k
 ·exact absurd hp (by simp)
 ·obtain⟨hx0,hx⟩:=hx;obtain⟨x',rfl⟩:=Int.eq_ofNat_of_zero_le hx0;simp only at hk hx hd hs ho hf hj;obtain⟨mb,mo,rfl,eW,lV,A',len,cap',c0,c1,c2,jb,hl2,GJ,GI⟩:=hM.get hk;obtain⟨hlen,hrow⟩:=jb hd;have hlt:x'<s*len:=by
   have e:((s*len:Nat):Int)=(aF M (k+1)).bytes:=by unfold MO.bytes;rw[hs,hlen];simp
   rw[<-e]at hf;omega
  have EA:=jA hlt;have hj':j=x'/s:=by rw[hj];simp
  have hjj:j<(aF M (k+1)).l.length:=by rw[hlen,hj'];exact EA
  obtain⟨ob,oo,rfl,oD,hcell⟩:=hrow j _ (List.getElem?_eq_getElem hjj);refine⟨hjj,ob,oo,mb,mo,len,cap',rfl,c1,oD,?_,?_⟩
  ·have e:(aF M (k+1)).l.getD j ⟨0,0⟩=(aF M (k+1)).l[j]:=by rw[List.getD_eq_getElem?_getD,List.getElem?_eq_getElem hjj];rfl
   rw[e];exact hcell
  ·show Calls _ _ #[_,.agg #[.int .i64 ((k+1:Nat):Int),.int .i64 x'],_] w _;rw[Int.natCast_add,Int.natCast_one,hj'];exact Rq hb mb mo n aA B k x' s M w hB aZ hc hM hk (by omega) hs0 hs1 hd hs (by omega) (by omega) ob oo len cap' c1
def DN(op:Int):Int:=if op=5 then 31 else if op=6 then 32 else if op=7 then 33 else if op=9 then 34 else if op=10 then 35 else if op=11 then 36 else 0
theorem yB(op:Int)(w:World)(h0:5<=op)(h1:op<=11):
  Calls prog 100 #[.int .i64 op] w λe w'=>e= .returned (.tuple #[.int .i64 (gp op),.int .i64 (DN op)])/\w=w':=by
 rcases oB h0 h1 with rfl|rfl|rfl|rfl|rfl|rfl|rfl
 all_goals
  go_enter func100,ntmps100;go_wp2;go_ret2;exact⟨by simp[gp,DN],rfl⟩
theorem I6{op n:Int}(h0:5<=op)(h1:op<=11)(h8:op≠8):31<=DN op/\DN op<=36/\EH (DN op) n=iP op n:=by
 rcases oB h0 h1 with rfl|rfl|rfl|rfl|rfl|rfl|rfl
 all_goals first|(exact absurd rfl h8)|(simp[DN,EH,iP,gp])
theorem LK(hb:Nat)(A:Option Addr)(n aA B:Nat)(op:Int)(a:V)(M:List MO)(w:World)(hB:B<=w.heap.size)(aZ:hb<w.heap.size)(hc:w.cell? ⟨hb,0,none⟩=some (.slice A n aA))(hM:cB w B A n M)(hN:fP M)(hk:a.obj≠0->a.obj<M.length)(hx:a.obj≠0->0<=a.n/\a.n<=512)(h0:5<=op)(h1:op<=11):
  Calls prog 82 #[.pointer (some ⟨hb,0,none⟩),.int .i64 op,.agg #[.int .i64 a.obj,.int .i64 a.n]] w λe w'=>cH (nJ M op a) e/\Below w.heap.size w w':=by
 cases hF:qL M a (gp op)with
 |none=>
  have hlf:nJ M op a=none:=by unfold nJ;rw[hF]
  rw[hlf];have HC:=ae (λW(aG:Below w.heap.size w W)=>Fz hb A n aA B (gp op) a M W (Nat.le_trans hB aG.size) (kL aZ aG.size) (ag hc aG aZ) (hM.below (aG.mono hB) (aN _)) hk hx (fL op).1 (fL op).2 hF);clear hc hM hF hlf;go_enter func82,ntmps82;refine ak λQ HQ=>?_;go_wp2_with fail;refine(yB _ _ h0 h1).mono ?_;rintro e w' ⟨rfl,rfl⟩;go_wp2_with fail;refine(HC _ (aJ _ _ _)).mono ?_;rintro e w2 ⟨rfl,hb2⟩;have bL:=ae ((aJ w _ _).trans (hb2.mono (aJ w _ _).size));have hr:=(Row.new' (w:=w.alloc (.cells #[.int .i64 a.obj,.int .i64 a.n] 72)) #[.int .i64 0,.int .i64 0] 72 (g:=w.heap.size+1) (by simp)).below hb2 (by simp);have r0:=hr.cell (j:=0) rfl;have r1:=hr.cell (j:=1) rfl;have f0:=hr.free 0;have f1:=hr.free 1
  clear hr;clear hb2;go_wp2_with fail;refine HQ _ _ _ ?_;refine aR (v:= .tuple #[.agg #[.int .i64 0,.int .i64 0],.bool false]) (by simp[results,results82,go_sem,r0,r1]) rfl ⟨⟨0,0,rfl⟩,?_⟩;exact(bL.setCell (by simp) _).setCell (by simp) _
 |some j=>
  have hp:=(xP hF).1;have iT:=hk (by omega);obtain⟨EA,ob,oo,mb,mo,len,cap',rfl,hs1,oD,hv,_⟩:=xw hb A n aA B (gp op) j a M w hB aZ hc hM iT (hx (by omega)) (fL op).1 (fL op).2 hF;have HC:=ae (λW(aG:Below w.heap.size w W)=>by
   obtain⟨_,ob',oo',GH,GG,len',cap'',hA,Cb,_,_,dF⟩:=xw hb _ n aA B (gp op) j a M W (Nat.le_trans hB aG.size) (kL aZ aG.size) (ag hc aG aZ) (hM.below (aG.mono hB) (aN _)) iT (hx (by omega)) (fL op).1 (fL op).2 hF;obtain⟨mb2,mo2,xy,hmb2,_⟩:=hM.get (k:=a.obj-1) (by omega);simp only[Option.some.injEq,Addr.mk.injEq,and_true]at hA xy;obtain⟨rfl,rfl⟩:=hA;obtain⟨rfl,rfl⟩:=xy;rw[ag hs1 aG (by omega)]at Cb;simp only[Option.some.injEq,Value.slice.injEq,Addr.mk.injEq,and_true]at Cb;obtain⟨⟨rfl,rfl⟩,rfl,rfl⟩:=Cb;exact dF)
  rw[La hN h0 h1 hF EA iT];obtain⟨v,Z4⟩:∃v,v=(aF M a.obj).l.getD j ⟨0,0⟩:=⟨_,rfl⟩
  rw[<-Z4]at hv ⊢;have HV:=ae hv;have Q9:ob<w.heap.size:=by omega
  clear hc hM hF Z4 hs1 hv;have h8:op=8\/op≠8:=by omega
  rcases h8 with h8|h8
  ·rw[if_pos h8];have Rj:(DN op==0)=true:=by rw[h8];rfl
   have Yn:DN op=0:=by rw[h8];rfl
   clear Yn h8;go_enter func82,ntmps82;refine ak λQ HQ=>?_;go_wp2_with fail;refine(yB _ _ h0 h1).mono ?_;rintro e w' ⟨rfl,rfl⟩;go_wp2_with fail;refine(HC _ (aJ _ _ _)).mono ?_;rintro e w2 ⟨rfl,hb2⟩;have bL:=ae ((aJ w _ _).trans (hb2.mono (aJ w _ _).size));have hr:=(Row.new' (w:=w.alloc (.cells #[.int .i64 a.obj,.int .i64 a.n] 72)) #[.int .i64 0,.int .i64 0] 72 (g:=w.heap.size+1) (by simp)).below hb2 (by simp);have HR:=ae hr;have v0:=ag HV.1 bL.out Q9;have v1:=ag HV.2 bL.out Q9;have r0:=hr.cell (j:=0) rfl;have r1:=hr.cell (j:=1) rfl;have f0:=hr.free 0;have f1:=hr.free 1;clear hr hb2;go_wp2_with fail;refine HQ _ _ _ ?_
   refine aR (v:= .tuple #[.agg #[.int .i64 v.obj,.int .i64 v.n],.bool true]) (by simp[results,results82,go_sem,r0,r1]) rfl ⟨rfl,?_⟩;exact(bL.setCell (by simp) _).setCell (by simp) _
  ·rw[if_neg h8];obtain⟨rT,hf2,hf3⟩:=I6 (n:=v.n) h0 h1 h8;have Rj:(DN op==0)=false:=by simp;omega
   have nQ:=ae hf3;clear hf3;go_enter func82,ntmps82;refine ak λQ HQ=>?_;go_wp2_with fail;refine(yB _ _ h0 h1).mono ?_;rintro e w' ⟨rfl,rfl⟩;go_wp2_with fail;refine(HC _ (aJ _ _ _)).mono ?_;rintro e w2 ⟨rfl,hb2⟩;have bL:=ae ((aJ w _ _).trans (hb2.mono (aJ w _ _).size));have hr:=(Row.new' (w:=w.alloc (.cells #[.int .i64 a.obj,.int .i64 a.n] 72)) #[.int .i64 0,.int .i64 0] 72 (g:=w.heap.size+1) (by simp)).below hb2 (by simp);have HR:=ae hr;have v0:=ag HV.1 bL.out Q9;have v1:=ag HV.2 bL.out Q9;have r0:=hr.cell (j:=0) rfl;have r1:=hr.cell (j:=1) rfl;have f0:=hr.free 0;have f1:=hr.free 1;clear hr hb2;go_wp2_with fail;refine(FJ _ _ _ rT hf2).mono ?_;rintro e w3 ⟨rfl,hb3⟩;rw[nQ.out]
   have jd:=ae (bL.trans (hb3.mono bL.size));have hr:=HR.below hb3 HR.lt;clear r0 r1 f0 f1 v0 v1;have r0:=hr.cell (j:=0) rfl;have r1:=hr.cell (j:=1) rfl;have f0:=hr.free 0;have f1:=hr.free 1;clear hr hb3;go_wp2_with fail;refine HQ _ _ _ ?_;refine aR (v:= .tuple #[.agg #[.int .i64 0,.int .i64 (iP op v.n)],.bool true]) (by simp[results,results82,go_sem,r0,r1]) rfl ⟨rfl,?_⟩;exact(jd.setCell (by simp) _).setCell (by simp) _
def iG(ah:Int)(s:St)(inv outv:Value):Array Value:=#[.int .i64 s.kind,.int .i64 s.code,outv,.int .i64 s.steps,.int .i64 s.deep,.int .i64 ah,inv,.int .i64 s.calls]
def kK(cb:Nat)(ah:Int)(s:St)(inv outv:Value)(w w':World):Prop:=Row w' cb (iG ah s inv outv) 62/\Wr (λb=>b=cb) w w'
theorem yt(cb:Nat)(ah:Int)(s:St)(inv outv:Value)(w:World)(hr:Row w cb (iG ah s inv outv) 62):
  Calls prog 48 #[.pointer (some ⟨cb,0,none⟩)] w λe w'=>e= .returned (.bool false)/\kK cb ah {s with kind:=3} inv outv w w':=by
 have c0:w.cell? ⟨cb,0,none⟩=some (.int .i64 s.kind):=hr.cell rfl;have f0:=hr.free 0;have HR:=ae (hr.set 0 (.int .i64 3));clear hr;go_enter func48,ntmps48;go_wp2_with fail;go_ret;exact⟨rfl,HR.out,Wr.setCell w ⟨cb,0,none⟩ _ rfl⟩
theorem Lb(cb:Nat)(ah:Int)(s:St)(inv outv:Value)(w:World)(hr:Row w cb (iG ah s inv outv) 62)(h0:1<=s.calls)(h1:s.calls<=64):
  Calls prog 47 #[.pointer (some ⟨cb,0,none⟩)] w λe w'=>e= .returned (.tuple #[])/\kK cb ah {s with calls:=s.calls-1} inv outv w w':=by
 have c0:w.cell? ⟨cb,7,none⟩=some (.int .i64 s.calls):=hr.cell rfl;have f0:=hr.free 7;have HR:=ae (hr.set 7 (.int .i64 (s.calls-1)));clear hr;go_enter func47,ntmps47;go_wp2_with fail
 go_end0
 exact⟨rfl,HR.out,Wr.setCell w ⟨cb,7,none⟩ _ rfl⟩
theorem Ap(cb:Nat)(ah n:Int)(s:St)(inv outv:Value)(w:World)(hr:Row w cb (iG ah s inv outv) 62)(hk:s.kind=0)(hf:ah<=100000000)(h0:0<=s.steps)(h1:s.steps<=ah)(BO:0<=n)(jw:n<=1000000):
  Calls prog 63 #[.pointer (some ⟨cb,0,none⟩),.int .i64 n] w λe w'=>e= .returned (.bool (aW ah n s).1)/\kK cb ah (aW ah n s).2 inv outv w w':=by
 have c0:w.cell? ⟨cb,0,none⟩=some (.int .i64 s.kind):=hr.cell rfl;have c3:w.cell? ⟨cb,3,none⟩=some (.int .i64 s.steps):=hr.cell rfl;have c5:w.cell? ⟨cb,5,none⟩=some (.int .i64 ah):=hr.cell rfl;have f0:=hr.free 0;have f3:=hr.free 3;have e:aW ah n s=if n>ah-s.steps then(false,{s with steps:=ah,kind:=2})else(true,{s with steps:=s.steps+n}):=by unfold aW;rw[if_pos hk]
 by_cases Wy:n>ah-s.steps
 ·rw[e,if_pos Wy];have hd:decide (ah-s.steps<n)=true:=by simpa using Wy
  have iL:=ae hr;clear hr e hk;go_enter func63,ntmps63;go_wp2_with fail;go_quiet (fail);go_wp2_with fail;go_ret;exact⟨rfl,((iL.below (below_drewN (bI _ _) _) iL.lt).set 3 (.int .i64 ah)).set 0 (.int .i64 2),((Wr.of_below (F:=λb=>b=cb) (below_drewN (bI _ _) _)).iO cb 3 _ (aH rfl)).iO cb 0 _ (aH rfl)⟩
 ·rw[e,if_neg Wy];have hd:decide (ah-s.steps<n)=false:=by simpa using Wy
  have iL:=ae hr;clear hr e hk;go_enter func63,ntmps63;go_wp2_with fail;go_quiet (fail);go_wp2_with fail;go_ret;exact⟨rfl,(iL.below (below_drewN (bI _ _) _) iL.lt).set 3 (.int .i64 (s.steps+n)),(Wr.of_below (F:=λb=>b=cb) (below_drewN (bI _ _) _)).iO cb 3 _ (aH rfl)⟩
theorem Jb(cb:Nat)(ah n:Int)(s:St)(inv outv:Value)(w:World)(hr:Row w cb (iG ah s inv outv) 62)(h1:s.calls=64):
  Calls prog 43 #[.pointer (some ⟨cb,0,none⟩),.int .i64 n] w λe w'=>e= .returned (.bool false)/\kK cb ah {s with kind:=4} inv outv w w':=by
 have c7:w.cell? ⟨cb,7,none⟩=some (.int .i64 s.calls):=hr.cell rfl;have c0:w.cell? ⟨cb,0,none⟩=some (.int .i64 s.kind):=hr.cell rfl;have f0:=hr.free 0;rw[h1]at c7;have HR:=ae (hr.set 0 (.int .i64 4));clear hr h1;go_enter func43,ntmps43;go_wp2_with fail;go_ret;exact⟨rfl,HR.out,Wr.setCell w ⟨cb,0,none⟩ _ rfl⟩
theorem LU(cb:Nat)(ah n:Int)(s:St)(inv outv:Value)(w:World)(hr:Row w cb (iG ah s inv outv) 62)(hk:s.kind=0)(hc0:0<=s.calls)(hc1:s.calls<64)(hf:ah<=100000000)(h0:0<=s.steps)(h1:s.steps<=ah)(BO:0<=n)(jw:n<=1000000):
  Calls prog 43 #[.pointer (some ⟨cb,0,none⟩),.int .i64 n] w λe w'=>e= .returned (.bool (aW ah n {s with calls:=s.calls+1,deep:=max s.deep (s.calls+1)}).1)/\kK cb ah (aW ah n {s with calls:=s.calls+1,deep:=max s.deep (s.calls+1)}).2 inv outv w w':=by
 have c7:w.cell? ⟨cb,7,none⟩=some (.int .i64 s.calls):=hr.cell rfl;have c4:w.cell? ⟨cb,4,none⟩=some (.int .i64 s.deep):=hr.cell rfl;have f7:=hr.free 7;have f4:=hr.free 4;have hd:(s.calls==64)=false:=by simp;omega
 have hm:(s.deep<s.calls+1/\max s.deep (s.calls+1)=s.calls+1)\/(¬s.deep<s.calls+1/\max s.deep (s.calls+1)=s.deep):=by omega
 rcases hm with⟨hm,Og⟩|⟨hm,Og⟩
 ·rw[Og];clear Og;have HR:=ae hr;have HK:=ae hk;clear hr hk;go_enter func43,ntmps43;refine ak λQ HQ=>?_;go_wp2_with fail;have Py:=ae (HR.set 7 (.int .i64 (s.calls+1)));obtain⟨W,hW⟩:∃W,W=w.setCell ⟨cb,7,none⟩ (.int .i64 (s.calls+1)):=⟨_,rfl⟩
  rw[<-hW]at Py ⊢;have HW:=ae hW;clear hW c7 c4 f7 f4;have c7:W.cell? ⟨cb,7,none⟩=some (.int .i64 (s.calls+1)):=Py.cell rfl;have c4:W.cell? ⟨cb,4,none⟩=some (.int .i64 s.deep):=Py.cell rfl;have f4:=Py.free 4;refine bJ 14 (by kernel_rfl) (by kernel_rfl) ?_;simp only[List.take_succ_cons,List.take_zero,List.drop_succ_cons,List.drop_zero]
  repeat(go_big_quiet_step (fail))
  refine wpQuiet_nil ?_;go_wp2_with fail;have Zf:=ae (Py.set 4 (.int .i64 (s.calls+1)));refine(Ap cb ah n {s with calls:=s.calls+1,deep:=(s.calls+1)} inv outv _ Zf.drew HK.out hf h0 h1 BO jw).mono ?_;rintro e w1 ⟨rfl,hrow,hwr⟩;have Kh:=ae hrow;have mK:=ae (((HW.out▸(Wr.setCell w ⟨cb,7,none⟩ _ rfl:Wr (λb=>b=cb) w (w.setCell ⟨cb,7,none⟩ (.int .i64 (s.calls+1))))):Wr (λb=>b=cb) w W).iO cb 4 (.int .i64 (s.calls+1)) (aH rfl)|>.gz|>.trans hwr (λ_ h=>aH h));clear hrow hwr;obtain⟨q,hq⟩:∃q,q=aW ah n {s with calls:=s.calls+1,deep:=(s.calls+1)}:=⟨_,rfl⟩
  rw[<-hq]at Kh ⊢ HQ;clear hq;go_wp2_with fail;refine HQ _ _ _ ?_;exact aR (v:= .bool q.1) (by simp[results,results43,go_sem]) rfl ⟨rfl,Kh.out,mK.out⟩
 ·rw[Og];clear Og;have HR:=ae hr;have HK:=ae hk;clear hr hk;go_enter func43,ntmps43;refine ak λQ HQ=>?_;go_wp2_with fail;have Py:=ae (HR.set 7 (.int .i64 (s.calls+1)));obtain⟨W,hW⟩:∃W,W=w.setCell ⟨cb,7,none⟩ (.int .i64 (s.calls+1)):=⟨_,rfl⟩
  rw[<-hW]at Py ⊢;have HW:=ae hW;clear hW c7 c4 f7 f4;have c7:W.cell? ⟨cb,7,none⟩=some (.int .i64 (s.calls+1)):=Py.cell rfl;have c4:W.cell? ⟨cb,4,none⟩=some (.int .i64 s.deep):=Py.cell rfl;have f4:=Py.free 4;refine bJ 14 (by kernel_rfl) (by kernel_rfl) ?_;simp only[List.take_succ_cons,List.take_zero,List.drop_succ_cons,List.drop_zero]
  repeat(go_big_quiet_step (fail))
  refine wpQuiet_nil ?_;go_wp2_with fail;have Zf:=ae (Py.set 4 (.int .i64 s.deep));refine(Ap cb ah n {s with calls:=s.calls+1,deep:=s.deep} inv outv _ Zf.drew HK.out hf h0 h1 BO jw).mono ?_;rintro e w1 ⟨rfl,hrow,hwr⟩;have Kh:=ae hrow;have mK:=ae (((HW.out▸(Wr.setCell w ⟨cb,7,none⟩ _ rfl:Wr (λb=>b=cb) w (w.setCell ⟨cb,7,none⟩ (.int .i64 (s.calls+1))))):Wr (λb=>b=cb) w W).iO cb 4 (.int .i64 s.deep) (aH rfl)|>.gz|>.trans hwr (λ_ h=>aH h));clear hrow hwr;obtain⟨q,hq⟩:∃q,q=aW ah n {s with calls:=s.calls+1,deep:=s.deep}:=⟨_,rfl⟩
  rw[<-hq]at Kh ⊢ HQ;clear hq;go_wp2_with fail;refine HQ _ _ _ ?_;exact aR (v:= .bool q.1) (by simp[results,results43,go_sem]) rfl ⟨rfl,Kh.out,mK.out⟩
theorem FL(cb:Nat)(ah:Int)(s:St)(inv outv:Value)(A:Option Addr)(n c:Nat)(w:World)(hr:Row w cb (iG ah s inv outv) 62)(ho:outv= .slice A n c):
  Calls prog 28 #[.pointer (some ⟨cb,0,none⟩)] w λe w'=>e= .returned (if s.kind=3 then .agg #[.int .i64 3,.int .i64 0,.slice none 0 0,.int .i64 0,.int .i64 0]else .agg #[.int .i64 s.kind,.int .i64 s.code,outv,.int .i64 s.steps,.int .i64 s.deep])/\Below w.heap.size w w':=by
 subst ho;have c0:w.cell? ⟨cb,0,none⟩=some (.int .i64 s.kind):=hr.cell rfl;have c1:w.cell? ⟨cb,1,none⟩=some (.int .i64 s.code):=hr.cell rfl;have c2:w.cell? ⟨cb,2,none⟩=some (.slice A n c):=hr.cell rfl;have c3:w.cell? ⟨cb,3,none⟩=some (.int .i64 s.steps):=hr.cell rfl;have c4:w.cell? ⟨cb,4,none⟩=some (.int .i64 s.deep):=hr.cell rfl;have hlt:=hr.lt;clear hr;by_cases hk:s.kind=3
 ·rw[if_pos hk];have hd:(s.kind==3)=true:=by simpa using hk
  clear hk;go_enter func28,ntmps28;refine ak λQ HQ=>?_;go_wp2_with fail;refine HQ _ _ _ ?_;exact aR (v:= .agg #[.int .i64 3,.int .i64 0,.slice none 0 0,.int .i64 0,.int .i64 0]) (by simp[results,results28,go_sem]) rfl ⟨rfl,aj _ _⟩
 ·rw[if_neg hk];have hd:(s.kind==3)=false:=by simpa using hk
  clear hk;go_enter func28,ntmps28;refine ak λQ HQ=>?_;go_wp2_with fail;refine HQ _ _ _ ?_;exact aR (v:= .agg #[.int .i64 s.kind,.int .i64 s.code,.slice A n c,.int .i64 s.steps,.int .i64 s.deep]) (by simp[results,results28,go_sem]) rfl ⟨rfl,aj _ _⟩
theorem I7(cb:Nat)(ah:Int)(s:St)(inv outv:Value)(v:V)(w:World)(hr:Row w cb (iG ah s inv outv) 62)(hv:v.obj≠0):
  Calls prog 27 #[.pointer (some ⟨cb,0,none⟩),.agg #[.int .i64 v.obj,.int .i64 v.n]] w λe w'=>e= .returned (.bool false)/\kK cb ah {s with kind:=3} inv outv w w':=by
 have zQ:decide ((0:Int)<(v.obj:Int))=true:=by simp;omega
 have GR:decide (0<v.obj)=true:=by simp;omega
 have HR:=ae (hr.alloc (.cells #[.int .i64 v.obj,.int .i64 v.n] 72));clear hr hv;go_enter func27,ntmps27;refine ak λQ HQ=>?_;go_wp2_with fail;refine(yt cb ah s inv outv _ HR.out).mono ?_;rintro e w1 ⟨rfl,hrow,hwr⟩;have Kh:=ae hrow;have mK:=ae (((Wr.refl (λb=>b=cb) w).eA (.cells #[.int .i64 v.obj,.int .i64 v.n] 72)).trans hwr (λ_ h=>aH h));clear hrow hwr;go_wp2_with fail;refine HQ _ _ _ ?_;exact aR (v:= .bool false) (by simp[results,results27,go_sem]) rfl ⟨rfl,Kh.out,mK.out⟩
theorem KP(cb:Nat)(ah:Int)(s:St)(inv outv:Value)(v:V)(w:World)(hr:Row w cb (iG ah s inv outv) 62)(hv:v.obj≠0):
  Calls prog 79 #[.pointer (some ⟨cb,0,none⟩),.agg #[.int .i64 v.obj,.int .i64 v.n]] w λe w'=>e= .returned (.bool false)/\kK cb ah {s with kind:=3} inv outv w w':=by
 have zQ:decide ((0:Int)<(v.obj:Int))=true:=by simp;omega
 have GR:decide (0<v.obj)=true:=by simp;omega
 have HR:=ae (hr.alloc (.cells #[.int .i64 v.obj,.int .i64 v.n] 72));clear hr hv;go_enter func79,ntmps79;refine ak λQ HQ=>?_;go_wp2_with fail;refine(yt cb ah s inv outv _ HR.out).mono ?_;rintro e w1 ⟨rfl,hrow,hwr⟩;have Kh:=ae hrow;have mK:=ae (((Wr.refl (λb=>b=cb) w).eA (.cells #[.int .i64 v.obj,.int .i64 v.n] 72)).trans hwr (λ_ h=>aH h));clear hrow hwr;go_wp2_with fail;refine HQ _ _ _ ?_;exact aR (v:= .bool false) (by simp[results,results79,go_sem]) rfl ⟨rfl,Kh.out,mK.out⟩
theorem O0(cb:Nat)(ah:Int)(s:St)(inv outv:Value)(v:V)(w:World)(hr:Row w cb (iG ah s inv outv) 62)(hv:v.obj=0):
  Calls prog 27 #[.pointer (some ⟨cb,0,none⟩),.agg #[.int .i64 v.obj,.int .i64 v.n]] w λe w'=>e= .returned (.bool false)/\kK cb ah {s with kind:=1,code:=v.n} inv outv w w':=by
 have zQ:decide ((0:Int)<(v.obj:Int))=false:=by simp;omega
 have GR:decide (0<v.obj)=false:=by simp;omega
 have c0:w.cell? ⟨cb,0,none⟩=some (.int .i64 s.kind):=hr.cell rfl;have c1:w.cell? ⟨cb,1,none⟩=some (.int .i64 s.code):=hr.cell rfl;have f0:=hr.free 0;have f1:=hr.free 1;have hlt:=hr.lt;have mA:cb<w.heap.size+1:=by omega
 have hne:cb≠w.heap.size:=by omega
 have HR:=ae hr;clear hr hv;go_enter func27,ntmps27;refine ak λQ HQ=>?_;go_wp2_with fail;go_region_held3 (λw'=>w'.cell? ⟨w.heap.size,1,none⟩=some (.int .i64 v.n)) (first|(simp[go_sem,hne,Ne.symm hne];done)|go_keep) (fail);go_wp2_with fail;refine HQ _ _ _ ?_;refine aR (v:= .bool false) (by simp[results,results27,go_sem]) rfl ⟨rfl,?_,?_⟩
 ·first
  |exact(((HR.set 0 (.int .i64 1)).alloc _).set 1 (.int .i64 v.n)).drew
  |exact(((HR.set 0 (.int .i64 1)).set 1 (.int .i64 v.n)).alloc _).drew
 ·first
  |exact((((Wr.refl (λb=>b=cb) w).iO cb 0 _ (aH rfl)).eA _).iO cb 1 _ (aH rfl)).gz
  |exact((((Wr.refl (λb=>b=cb) w).iO cb 0 _ (aH rfl)).iO cb 1 _ (aH rfl)).eA _).gz
def vH(xs:List Value)(rb:Nat->Nat)(k:Nat)(o:MO):Prop:=
 xs[k*3]? =some (.int .i64 o.size)/\xs[k*3+1]? =some (if o.live=true then .slice (some ⟨rb k,0,none⟩) o.l.length o.l.length else .slice none 0 0)/\xs[k*3+2]? =some (.bool (!o.live))
structure i4 (w:World) (ai:Nat) (own:Nat->Prop) (aU:Value) (rb:Nat->Nat) (M:List MO):Prop where
 row:∃xs,w.ownsRow ai 131 3 aU M.tail.length xs/\∀k o,M.tail[k]? =some o->vH xs rb k o
 mine:∀k o,M.tail[k]? =some o->own (rb k)/\iq w (rb k) o.l
 inj:∀i j,i<M.tail.length->j<M.tail.length->rb i=rb j->i=j
 ok:b9 M
 num:fP M
structure HC (w:World) (ai:Nat) (own:Nat->Prop) (cb hb:Nat) (ah:Int) (s:St) (inv outv aU:Value) (rb:Nat->Nat):Prop where
 clk:Row w cb (iG ah s inv outv) 62
 heap:Row w hb #[aU] 66
 yz:own cb
 QH:own hb
 inp:vE w ai inv s.inp
 out:w.ownsRow ai 2 1 outv s.out.length (s.out.map (Value.int .i64))
 rH:∀g,outv.ownBlock=some g->own g
 mem:i4 w ai own aU rb (au s.mem)
 memo:∀g,aU.ownBlock=some g->own g
 own:∀k,own k->ai<=k/\k<w.heap.size
def gS(w:World)(ai:Nat)(own:Nat->Prop)(cb hb:Nat)(ah:Int)(s:St):Prop:=∃inv outv aU rb,HC w ai own cb hb ah s inv outv aU rb
theorem i4.wr{w w':World}{ai:Nat}{own F:Nat->Prop}{aU:Value}{rb:Nat->Nat}{M:List MO}(h:i4 w ai own aU rb M)(hw:Wr F w w')
  (hF1:∀g,aU.ownBlock=some g->¬F g)(hF2:∀k,k<M.tail.length->¬F (rb k)):i4 w' ai own aU rb M:=by
 obtain⟨⟨xs,hx,oC⟩,hm,hi,hk,hn⟩:=h;refine⟨⟨xs,aB hx hw hF1,oC⟩,λk o ho=>?_,hi,hk,hn⟩;obtain⟨h2,cs,hr,hv⟩:=hm k o ho;have hlt:k<M.tail.length:=by
  rcases Nat.lt_or_ge k M.tail.length with h|h
  ·exact h
  ·rw[List.getElem?_eq_none h]at ho;cases ho
 exact⟨h2,cs,hr.wr hw (hF2 k hlt),hv⟩
theorem i4.get{w:World}{ai:Nat}{own:Nat->Prop}{aU:Value}{rb:Nat->Nat}{M:List MO}(h:i4 w ai own aU rb M){k:Nat}(hk:k<M.tail.length):
  own (rb k)/\∃cs,Row w (rb k) cs 72:=by
 obtain⟨h1,cs,h2,_⟩:=h.mine k _ (List.getElem?_eq_getElem hk);exact⟨h1,cs,h2⟩
theorem HC.wr{w w':World}{ai:Nat}{own F:Nat->Prop}{cb hb:Nat}{ah:Int}{s:St}{inv outv aU:Value}{rb:Nat->Nat}(h:HC w ai own cb hb ah s inv outv aU rb)(hw:Wr F w w')(hF:∀k,F k->ai<=k/\¬own k):HC w' ai own cb hb ah s inv outv aU rb:=by
 have hb:=h.own cb h.yz;refine⟨h.clk.wr hw (λhf=>(hF _ hf).2 h.yz),h.heap.wr hw (λhf=>(hF _ hf).2 h.QH),h.yz,h.QH,h.inp.below (λb o hb'=>?_),aB h.out hw (λg hg hf=>(hF g hf).2 (h.rH g hg)),h.rH,h.mem.wr hw (λg hg hf=>(hF g hf).2 (h.memo g hg)) (λk hk hf=>(hF _ hf).2 (h.mem.get hk).1),h.memo,λk hk=>⟨(h.own k hk).1,kL (h.own k hk).2 hw.size⟩⟩;exact World.cell?_of_block (a:=⟨b,o,none⟩) (hw.block b (by omega) (λhf=>by have:=(hF b hf).1;omega))
theorem gS.wr{w w':World}{ai:Nat}{own F:Nat->Prop}{cb hb:Nat}{ah:Int}{s:St}(h:gS w ai own cb hb ah s)(hw:Wr F w w')(hF:∀k,F k->ai<=k/\¬own k):gS w' ai own cb hb ah s:=by
 obtain⟨a,b,c,d,h⟩:=h;exact⟨a,b,c,d,h.wr hw hF⟩
theorem gS.below{w w':World}{ai:Nat}{own:Nat->Prop}{cb hb:Nat}{ah:Int}{s:St}(h:gS w ai own cb hb ah s)(hw:Below w.heap.size w w'):gS w' ai own cb hb ah s:=
 h.wr (F:=λ_=>False) (Wr.of_below hw) (λ_ h=>h.elim)
theorem gS.blocks{w:World}{ai:Nat}{own:Nat->Prop}{cb hb:Nat}{ah:Int}{s:St}(h:gS w ai own cb hb ah s):own cb/\own hb/\∀k,own k->ai<=k/\k<w.heap.size:=by
 obtain⟨a,b,c,d,h⟩:=h;exact⟨h.yz,h.QH,h.own⟩
theorem HC.clock{w w':World}{ai:Nat}{own:Nat->Prop}{cb hb:Nat}{ah:Int}{s s':St}{inv outv aU:Value}{rb:Nat->Nat}(h:HC w ai own cb hb ah s inv outv aU rb)(hs:kK cb ah s' inv outv w w')(h1:s'.inp=s.inp)(h2:s'.out=s.out)(h3:s'.mem=s.mem):
  HC w' ai own cb hb ah s' inv outv aU rb:=by
 obtain⟨hr,hw⟩:=hs;have dO:=h.own cb h.yz;have hne:∀g cs t,Row w g cs t->t≠62->¬g=cb:=λg cs t eu ht e=>by subst e;exact eu.ne h.clk ht rfl
 refine⟨hr,h.heap.wr hw (hne _ _ _ h.heap (by decide)),h.yz,h.QH,?_,?_,h.rH,?_,h.memo,λk hk=>⟨(h.own k hk).1,kL (h.own k hk).2 hw.size⟩⟩
 ·rw[h1];exact h.inp.below (λb o hb'=>World.cell?_of_block (a:=⟨b,o,none⟩) (hw.block b (by omega) (λhf=>by omega)))
 ·rw[h2];refine aB h.out hw (λg hg=>?_);obtain⟨_,cs,eu⟩:=aC h.out hg;exact hne g cs _ eu (by decide)
 ·rw[h3];refine h.mem.wr hw (λg hg=>?_) (λk hk=>?_)
  ·obtain⟨⟨xs,hx,_⟩,_⟩:=h.mem;obtain⟨_,cs,eu⟩:=aC hx hg;exact hne g cs _ eu (by decide)
  ·obtain⟨_,cs,eu⟩:=h.mem.get hk;exact hne _ cs _ eu (by decide)
theorem i4.Tk{w:World}{ai:Nat}{own:Nat->Prop}{aU:Value}{rb:Nat->Nat}{M:List MO}(h:i4 w ai own aU rb M):
  ∃A aA,aU= .slice A M.tail.length aA/\cB w w.heap.size A M.tail.length M:=by
 obtain⟨⟨xs,hx,oC⟩,rD,_,gu,_⟩:=h;obtain⟨sI,hx2⟩:=id hx;have gX:=gu.many;have uY:M.length<=M.tail.length+1:=by rw[List.length_tail];omega
 have htl2:M.tail.length<=M.length:=by rw[List.length_tail];omega
 rcases hx2 with⟨rfl,h0⟩|⟨g,aA,cur,rfl,_,hg,Ck,_,_,XG⟩
 ·refine⟨none,0,by rw[h0],uY,by omega,λk o hk=>?_⟩;rw[<-List.getElem?_tail,List.getElem?_eq_none (by omega)]at hk;cases hk
 ·refine⟨some ⟨g,0,none⟩,aA,rfl,uY,by omega,λk o hk=>⟨g,0,rfl,Row.lt hg,?_⟩⟩;have iT:M.tail[k]? =some o:=by rw[List.getElem?_tail];exact hk
  have qg:k<M.tail.length:=by
   rcases Nat.lt_or_ge k M.tail.length with h|h
   ·exact h
   ·rw[List.getElem?_eq_none h]at iT;cases iT
  refine⟨qg,?_⟩;have hcell:∀j u,xs[j]? =some u->w.cell? ⟨g,0+j,none⟩=some u:=by
   intro j u hj;have:=hx.cells (g:=g) rfl j u hj;rw[uJ]at this;simpa using this
  obtain⟨h0,h1,h2⟩:=oC k o iT;obtain⟨hs1,hs2⟩:=gu.size (k+1) o (by omega) hk;obtain⟨_,cs,hrow,jh⟩:=rD k o iT;by_cases hl:o.live=true
  ·rw[if_pos hl]at h1;exact⟨_,_,_,hcell _ _ h0,hcell _ _ h1,hcell _ _ h2,λ_=>⟨rfl,λj v hj=>⟨rb k,0,rfl,hrow.lt,by rw[Nat.zero_add];exact⟨hrow.cell (jh.2 j v hj).1,hrow.cell (jh.2 j v hj).2⟩⟩⟩,hs2,by omega,by omega⟩
  ·rw[if_neg hl]at h1;exact⟨_,_,_,hcell _ _ h0,hcell _ _ h1,hcell _ _ h2,λh=>absurd h hl,by omega,by omega,by omega⟩
theorem i4.QI{w:World}{ai:Nat}{own:Nat->Prop}{A:Option Addr}{n aA:Nat}{rb:Nat->Nat}{M:List MO}(h:i4 w ai own (.slice A n aA) rb M){k:Nat}(hk:k<M.tail.length)(hl:(aF M (k+1)).live=true):
  ∃g,A=some ⟨g,0,none⟩/\w.cell? ⟨g,k*3+1,none⟩=some (.slice (some ⟨rb k,0,none⟩) (aF M (k+1)).l.length (aF M (k+1)).l.length):=by
 obtain⟨⟨xs,hx,oC⟩,_⟩:=h;obtain⟨sI,hx2⟩:=id hx;rcases hx2 with⟨e,h0⟩|⟨g,cap',cur,e,_,hg,_⟩
 ·omega
 ·injection e with e1 e2 e3;subst e1;have mO:M.tail[k]? =some (aF M (k+1)):=by rw[List.getElem?_tail];exact oz (by rw[List.length_tail]at hk;omega)
  obtain⟨_,h1,_⟩:=oC k _ mO;rw[if_pos hl]at h1;have:=hx.cells (g:=g) rfl (k*3+1) _ h1;rw[uJ]at this;exact⟨g,rfl,by simpa using this⟩
theorem zk(M:List MO)(size:Int)(a x:V):cS (au M) size a x=(cS M size a x).map au:=by
 by_cases hM:M=[]
 ·subst hM;have e:∀s,qL [] a s=none:=by
   intro s;unfold qL;rw[if_neg];rintro⟨_,h,_⟩;simp[aF]at h
  unfold cS;rw[Gp,e];rfl
 ·have hb:au M=M:=by unfold au;rw[if_neg hM]
  have hp:0<M.length:=by cases M with|nil=>exact absurd rfl hM|cons a l=>simp
  rw[hb];unfold cS;split
  ·rfl
  ·split
   ·rfl
   ·simp only[Option.map_some,Option.some.injEq];exact(jE (by simpa using hp)).symm
theorem uT(M:List MO)(o:jR):gG (au M) o=gG M o:=by rw[jf,jf,pQ]
theorem rQ(M:List MO)(o:jR):au (gG M o)=gG M o:=jE (by simp[jf])
theorem rP(M:List MO)(l:List jR):bf (au M) l=au (bf M l):=by
 cases l with
 |nil=>rfl
 |cons o l=>
  have key:∀(l:List jR)(N:List MO),0<N.length->0<(bf N l).length:=by
   intro l
   induction l with
   |nil=>intro N h;exact h
   |cons o l ih=>intro N h;exact ih _ (by simp[jf])
  show bf (gG (au M) o) l=au (bf (gG M o) l);rw[uT,jE (key l _ (by simp[jf]))]
theorem uW(M:List MO)(lo:List Nat):dZ (au M) lo=au (dZ M lo):=by
 by_cases hM:M=[]
 ·subst hM;have h1:∀lo,dZ ([]:List MO) lo=[]:=by
   intro lo
   induction lo with
   |nil=>rfl
   |cons a l ih=>
    rw[dZ];have:([]:List MO).modify a (λo=>{o with live:=false})=[]:=by cases a<;>rfl
    rw[this];exact ih
  have h2:∀lo,dZ [⟨0,[],false⟩] lo=[⟨0,[],false⟩]:=by
   intro lo
   induction lo with
   |nil=>rfl
   |cons a l ih=>
    rw[dZ];have:([⟨0,[],false⟩]:List MO).modify a (λo=>{o with live:=false})=[⟨0,[],false⟩]:=by
     cases a with
     |zero=>rfl
     |succ n=>simp[List.modify_succ_cons]
    rw[this];exact ih
  rw[h1];exact h2 lo
 ·have hb:au M=M:=by unfold au;rw[if_neg hM]
  have hp:0<M.length:=by cases M with|nil=>exact absurd rfl hM|cons a l=>simp
  rw[hb,jE (by rw[kD];exact hp)]
theorem FW(s:Nat)(n:Int)(w:World)(hs:s=1\/s=2\/s=4\/s=8)(hn:bz n):
  Calls prog 62 #[.int .i64 s,.int .i64 n] w λe w'=>e= .returned (.int .i64 (eC s n))/\w=w':=by
 rcases hs with rfl|rfl|rfl|rfl
 all_goals
  go_enter func62,ntmps62;go_wp2;go_ret;refine⟨jU ?_,rfl⟩;unfold bz at hn;simp[eC,jm,wrap64];omega
def Hj(j:Nat)(v:V)(o:MO):MO:={o with l:=o.l.set j v}
structure Eh (w:World) (ai:Nat) (own:Nat->Prop) (hb:Nat) (aU:Value) (rb:Nat->Nat) (M:List MO):Prop where
 heap:Row w hb #[aU] 66
 mem:i4 w ai own aU rb M
 memo:∀g,aU.ownBlock=some g->own g
theorem HC.UY{w:World}{ai:Nat}{own:Nat->Prop}{cb hb:Nat}{ah:Int}{s:St}{inv outv aU:Value}{rb:Nat->Nat}(h:HC w ai own cb hb ah s inv outv aU rb):Eh w ai own hb aU rb (au s.mem):=⟨h.heap,h.mem,h.memo⟩
theorem i4.put{w:World}{ai:Nat}{own:Nat->Prop}{aU:Value}{rb:Nat->Nat}{M:List MO}(h:i4 w ai own aU rb M)(k j:Nat)(v:V)(hk:k<M.tail.length)(hv:lY M.length v)(Iu:(aF M (k+1)).size≠8->v.obj=0)(Om:(aF M (k+1)).live=true)(hne:aU.ownBlock≠some (rb k)):
  i4 ((w.setCell ⟨rb k,j*2,none⟩ (.int .i64 v.obj)).setCell ⟨rb k,j*2+1,none⟩ (.int .i64 v.n)) ai own aU rb (M.modify (k+1) (Hj j v)):=by
 have hw:=eB w (rb k) (j*2) (j*2+1) (.int .i64 v.obj) (.int .i64 v.n);obtain⟨⟨xs,hx,oC⟩,hm,hi,gu,hn⟩:=h;have mS:(M.modify (k+1) (Hj j v)).tail=M.tail.modify k (Hj j v):=by cases M<;>simp[List.modify_succ_cons]
 refine⟨⟨xs,by rw[mS,List.length_modify];exact aB hx hw (λg hg hf=>hne (hf▸hg)),λi o ho=>?_⟩,λi o ho=>?_,λa b ha hb=>hi a b (by simpa [mS]using ha) (by simpa [mS]using hb),?_,?_⟩
 ·rw[mS]at ho;obtain⟨o0,h0,rfl⟩:=cY ho;have h1:=oC i o0 h0;split
  ·unfold vH Hj at*;simpa using h1
  ·exact h1
 ·rw[mS]at ho;obtain⟨o0,h0,rfl⟩:=cY ho;obtain⟨h1,cs,h2,h3⟩:=hm i o0 h0;have x7:i<M.tail.length:=by
   rcases Nat.lt_or_ge i M.tail.length with h|h
   ·exact h
   ·rw[List.getElem?_eq_none h]at h0;cases h0
  refine⟨h1,?_⟩;by_cases e:k=i
  ·subst e;rw[if_pos rfl];exact(show iq w (rb k) o0.l from⟨cs,h2,h3⟩).set j v
  ·rw[if_neg e];exact⟨cs,h2.wr hw (λhe=>e (hi i k x7 hk he).symm),h3⟩
 ·refine⟨by simpa using gu.many,λo ho=>?_,λi o h1 ho=>?_,λo ho u hu=>?_⟩
  ·obtain⟨o0,h0,he⟩:=cY ho;rw[if_neg (by omega)]at he;subst he;exact gu.zero _ h0
  ·obtain⟨o0,h0,rfl⟩:=cY ho;have:=gu.size i o0 h1 h0;split
   ·unfold Hj;simpa using this
   ·exact this
  ·rw[List.length_modify];rcases mem_modify ho with ho|⟨o0,h0,rfl⟩
   ·exact gu.vals o ho u hu
   ·rcases List.mem_or_eq_of_mem_set hu with hu|hu
    ·exact gu.vals o0 (List.mem_of_getElem? h0) u hu
    ·exact hu▸hv
 ·intro o ho hs u hu;rcases mem_modify ho with ho|⟨o0,h0,rfl⟩
  ·exact hn o ho hs u hu
  ·rcases List.mem_or_eq_of_mem_set hu with hu|hu
   ·exact hn o0 (List.mem_of_getElem? h0) hs u hu
   ·rw[hu];refine Iu ?_;have:aF M (k+1)=o0:=by unfold aF;rw[List.getD_eq_getElem?_getD,h0];rfl
    rw[this];exact hs
theorem Fh(hb:Nat)(A:Option Addr)(n aA B s:Nat)(a x:V)(M:List MO)(w:World)(hB:B<=w.heap.size)(aZ:hb<w.heap.size)(hc:w.cell? ⟨hb,0,none⟩=some (.slice A n aA))(hM:cB w B A n M)(hk:a.obj≠0->a.obj<M.length)(hx:a.obj≠0->0<=a.n/\a.n<=512)(hs0:1<=s)(hs1:s<=8)(hF:qL M a s=none):
  Calls prog 78 #[.pointer (some ⟨hb,0,none⟩),.int .i64 s,.agg #[.int .i64 a.obj,.int .i64 a.n],.agg #[.int .i64 x.obj,.int .i64 x.n]] w λe w'=>e= .returned (.bool false)/\Below w.heap.size w w':=by
 have HC:=ae (λW(aG:Below w.heap.size w W)=>Fz hb A n aA B s a M W (Nat.le_trans hB aG.size) (kL aZ aG.size) (ag hc aG aZ) (hM.below (aG.mono hB) (aN _)) hk hx hs0 hs1 hF);clear hc hM hF;go_enter func78,ntmps78;refine ak λQ HQ=>?_;go_wp2_with fail;refine(HC _ (aJ _ _ _)).mono ?_;rintro e w2 ⟨rfl,hb2⟩;have bL:=ae ((aJ w (.cells #[.int .i64 a.obj,.int .i64 a.n] 72) (.cells #[.int .i64 x.obj,.int .i64 x.n] 72)).trans (hb2.mono (aJ w _ _).size));clear hb2;go_wp2_with fail;refine HQ _ _ _ ?_;exact aR (v:= .bool false) (by simp[results,results78,go_sem]) rfl ⟨rfl,bL.out⟩
theorem Lp(hb:Nat)(A:Option Addr)(n aA B s j:Nat)(a:V)(M:List MO)(w:World)(hB:B<=w.heap.size)(aZ:hb<w.heap.size)(hc:w.cell? ⟨hb,0,none⟩=some (.slice A n aA))(hM:cB w B A n M)(hk:a.obj<M.length)(hx:0<=a.n/\a.n<=512)(hs0:1<=s)(hs1:s<=8)(hF:qL M a s=some j)
  (mb mo ob oo len cap':Nat)(hA:A=some ⟨mb,mo,none⟩)(h1:w.cell? ⟨mb,mo+(a.obj-1)*3+1,none⟩=some (.slice (some ⟨ob,oo,none⟩) len cap'))(W:World)(aG:Below w.heap.size w W):
  Calls prog 99 #[.pointer (some ⟨hb,0,none⟩),.agg #[.int .i64 a.obj,.int .i64 a.n],.int .i64 s] W λe w'=>e= .returned (.pointer (some ⟨ob,oo+j*2,none⟩))/\Below W.heap.size W w':=by
 obtain⟨_,ob',oo',GH,GG,len',cap'',hA',Cb,_,_,dF⟩:=xw hb _ n aA B s j a M W (Nat.le_trans hB aG.size) (kL aZ aG.size) (ag hc aG aZ) (hM.below (aG.mono hB) (aN _)) hk hx hs0 hs1 hF;have hp:=(xP hF).1;obtain⟨mb2,mo2,xy,hmb2,_⟩:=hM.get (k:=a.obj-1) (by omega);subst hA;simp only[Option.some.injEq,Addr.mk.injEq,and_true]at hA' xy;obtain⟨rfl,rfl⟩:=hA';obtain⟨rfl,rfl⟩:=xy;rw[ag h1 aG (by omega)]at Cb;simp only[Option.some.injEq,Value.slice.injEq,Addr.mk.injEq,and_true]at Cb;obtain⟨⟨rfl,rfl⟩,rfl,rfl⟩:=Cb;exact dF
def yQ(ob o:Nat)(v:V)(w:World)(e:Ending)(w':World):Prop:=
 e= .returned (.bool true)/\∃W,Below w.heap.size w W/\w'=(W.setCell ⟨ob,o,none⟩ (.int .i64 v.obj)).setCell ⟨ob,o+1,none⟩ (.int .i64 v.n)
theorem Ij(hb ob o s:Nat)(a x:V)(w:World)(hat:∀W,Below w.heap.size w W->Calls prog 99 #[.pointer (some ⟨hb,0,none⟩),.agg #[.int .i64 a.obj,.int .i64 a.n],.int .i64 s] W λe w'=>e= .returned (.pointer (some ⟨ob,o,none⟩))/\Below W.heap.size W w')
  (hx:x.obj≠0)(hs:s≠8):
  Calls prog 78 #[.pointer (some ⟨hb,0,none⟩),.int .i64 s,.agg #[.int .i64 a.obj,.int .i64 a.n],.agg #[.int .i64 x.obj,.int .i64 x.n]] w λe w'=>e= .returned (.bool false)/\Below w.heap.size w w':=by
 have HC:=ae hat;have Qc:decide ((0:Int)<(x.obj:Int))=true:=by simp;omega
 have hd1':decide (0<x.obj)=true:=by simp;omega
 have zQ:((s:Int) !=8)=true:=by simp;omega
 clear hat hx hs;go_enter func78,ntmps78;refine ak λQ HQ=>?_;go_wp2_with fail;refine(HC _ (aJ _ _ _)).mono ?_;rintro e w2 ⟨rfl,hb2⟩;have bL:=ae ((aJ w (.cells #[.int .i64 a.obj,.int .i64 a.n] 72) (.cells #[.int .i64 x.obj,.int .i64 x.n] 72)).trans (hb2.mono (aJ w _ _).size));have hr:=(Row.new' (w:=w.alloc (.cells #[.int .i64 a.obj,.int .i64 a.n] 72)) #[.int .i64 x.obj,.int .i64 x.n] 72 (g:=w.heap.size+1) (by simp)).below hb2 (by simp);have r0:=hr.cell (j:=0) rfl;have r1:=hr.cell (j:=1) rfl;clear hr hb2;go_wp2_with fail;refine HQ _ _ _ ?_;exact aR (v:= .bool false) (by simp[results,results78,go_sem]) rfl ⟨rfl,bL.out⟩
theorem Ii(hb ob o s:Nat)(a:V)(xn y0 y1:Int)(w:World)(hat:∀W,Below w.heap.size w W->Calls prog 99 #[.pointer (some ⟨hb,0,none⟩),.agg #[.int .i64 a.obj,.int .i64 a.n],.int .i64 s] W λe w'=>e= .returned (.pointer (some ⟨ob,o,none⟩))/\Below W.heap.size W w')
  (hs:s=1\/s=2\/s=4\/s=8)(hn:bz xn)(oD:ob<w.heap.size)(c0:w.cell? ⟨ob,o,none⟩=some (.int .i64 y0))(c1:w.cell? ⟨ob,o+1,none⟩=some (.int .i64 y1))(f:∀j,w.frozen? ⟨ob,j,none⟩=false):
  Calls prog 78 #[.pointer (some ⟨hb,0,none⟩),.int .i64 s,.agg #[.int .i64 a.obj,.int .i64 a.n],.agg #[.int .i64 0,.int .i64 xn]] w λe w'=>yQ ob o ⟨0,eC s xn⟩ w e w':=by
 have HC:=ae hat;have HU:=ae (λW=>FW s xn W hs hn);have Kp:=ae (And.intro c0 c1);have HF:=ae f;clear hat hs hn c0 c1 f;go_enter func78,ntmps78;refine ak λQ HQ=>?_;go_wp2_with fail;refine(HC _ (aJ _ _ _)).mono ?_;rintro e w2 ⟨rfl,hb2⟩;have bL:=ae ((aJ w (.cells #[.int .i64 a.obj,.int .i64 a.n] 72) (.cells #[.int .i64 0,.int .i64 xn] 72)).trans (hb2.mono (aJ w _ _).size));have hr:=(Row.new' (w:=w.alloc (.cells #[.int .i64 a.obj,.int .i64 a.n] 72)) #[.int .i64 0,.int .i64 xn] 72 (g:=w.heap.size+1) (by simp)).below hb2 (by simp);have HR:=ae hr;have r0:=hr.cell (j:=0) rfl;have r1:=hr.cell (j:=1) rfl;have r2:=hr.free 1;have hlt:=hr.lt;have hobl:ob<w2.heap.size:=by omega
 have hne:ob≠w.heap.size+1:=by omega
 have k0:=ag Kp.1 bL.out oD;have k1:=ag Kp.2 bL.out oD;have xm:∀j,w2.frozen? ⟨ob,j,none⟩=false:=λj=>(bL.frozen (p:=⟨ob,j,none⟩) oD).trans (HF.out j);have k2:=xm o;have k3:=xm (o+1);clear hr hb2 xm;go_wp2_with fail;refine(HU _).mono ?_;rintro e w3 ⟨rfl,rfl⟩;go_wp2_with fail;refine HQ _ _ _ ?_;refine aR (v:= .bool true) (by simp[results,results78,go_sem]) rfl ⟨rfl,w2.setCell ⟨w.heap.size+1,1,none⟩ (.int .i64 (eC s xn)),?_,rfl⟩;exact bL.setCell (by simp) _
theorem Dv(hb ob o:Nat)(a x:V)(y0 y1:Int)(w:World)(hat:∀W,Below w.heap.size w W->Calls prog 99 #[.pointer (some ⟨hb,0,none⟩),.agg #[.int .i64 a.obj,.int .i64 a.n],.int .i64 8] W λe w'=>e= .returned (.pointer (some ⟨ob,o,none⟩))/\Below W.heap.size W w')
  (hx:x.obj≠0)(oD:ob<w.heap.size)(c0:w.cell? ⟨ob,o,none⟩=some (.int .i64 y0))(c1:w.cell? ⟨ob,o+1,none⟩=some (.int .i64 y1))(f:∀j,w.frozen? ⟨ob,j,none⟩=false):
  Calls prog 78 #[.pointer (some ⟨hb,0,none⟩),.int .i64 8,.agg #[.int .i64 a.obj,.int .i64 a.n],.agg #[.int .i64 x.obj,.int .i64 x.n]] w λe w'=>yQ ob o x w e w':=by
 have HC:=ae hat;have Kp:=ae (And.intro c0 c1);have HF:=ae f;have Qc:decide ((0:Int)<(x.obj:Int))=true:=by simp;omega
 have hd1':decide (0<x.obj)=true:=by simp;omega
 have zQ:((x.obj:Int)==0)=false:=by simp;omega
 clear hat hx c0 c1 f;go_enter func78,ntmps78;refine ak λQ HQ=>?_;go_wp2_with fail;refine(HC _ (aJ _ _ _)).mono ?_;rintro e w2 ⟨rfl,hb2⟩;have bL:=ae ((aJ w (.cells #[.int .i64 a.obj,.int .i64 a.n] 72) (.cells #[.int .i64 x.obj,.int .i64 x.n] 72)).trans (hb2.mono (aJ w _ _).size));have hr:=(Row.new' (w:=w.alloc (.cells #[.int .i64 a.obj,.int .i64 a.n] 72)) #[.int .i64 x.obj,.int .i64 x.n] 72 (g:=w.heap.size+1) (by simp)).below hb2 (by simp);have HR:=ae hr;have r0:=hr.cell (j:=0) rfl;have r1:=hr.cell (j:=1) rfl;have hlt:=hr.lt;have hobl:ob<w2.heap.size:=by omega
 have k0:=ag Kp.1 bL.out oD;have k1:=ag Kp.2 bL.out oD;have xm:∀j,w2.frozen? ⟨ob,j,none⟩=false:=λj=>(bL.frozen (p:=⟨ob,j,none⟩) oD).trans (HF.out j);have k2:=xm o;have k3:=xm (o+1);clear hr hb2 xm;go_wp2_with fail;refine HQ _ _ _ ?_;exact aR (v:= .bool true) (by simp[results,results78,go_sem]) rfl ⟨rfl,w2,bL.out,rfl⟩
theorem qY(B:Nat)(l:List jR)(A:Option Addr)(n aA:Nat)(w:World)(h:aL w B 3 (rf w B) l (.slice A n aA))(hB:B<=w.heap.size)(gJ:∀o,o∈l->q9 o)(hnl:l.length<=1000):
  Calls prog 44 #[.slice A n aA] w λe w'=>e= .returned (.int .i64 (aS l))/\Below w.heap.size w w':=by
 have hl:=h.len;have H:=ae h;have HB:=ae hB;have vF:=ae gJ;have HL:=ae hl.1;obtain⟨_,iD⟩:=hl;clear h gJ hB;go_enter func44,ntmps44;refine ak λQ HQ=>?_;go_wp2_with fail;go_loopw [3,8] (λt i wr=>∃k:Nat,k<=n/\i= .int .i64 k/\t= .int .i64 (aS (l.take k))/\Below w.heap.size w wr) (λ_ i _=>n-(intOf i).toNat)
 case atStart=>exact⟨0,by omega,rfl,rfl,bI _ _⟩
 case round=>
  obtain⟨k,hk,rfl,rfl,aG⟩:=hrel;have lW:=dU (l:=l.take k) (λo ho=>vF.out o (List.mem_of_mem_take ho));rw[List.length_take,Nat.min_eq_left (by have:=HL.out;omega)]at lW;obtain⟨IG,Cj⟩:=lW;have cV:=ae aG;have sL:n<=1000:=by have:=HL.out;omega
  have fV:=aG.size;by_cases hlt:k<n
  ·obtain⟨b,off,o,rfl,TG,gu,c0,c1,⟨v,c2,hv⟩,_,_⟩:=(H.out.below (aG.mono HB.out) (aN _) (λ_ _ h=>h.below (aG.mono HB.out) (aN _))).get hlt;simp only[Nat.add_zero]at c0 c1 c2;have AZ:=vF.out o (List.mem_of_getElem? gu);have XW:=AZ.2.1;have XV:=AZ.2.2.1;have yc:=ae gu;have qg:(k:Int)<(n:Int):=by omega
   have hbl:b<wr.heap.size:=by have:=HB.out;omega
   obtain⟨IA,icap,Qb⟩:∃IA icap,v= .slice IA o.init.length icap:=(by obtain⟨A',c',h,_⟩:=hv;exact⟨_,_,h⟩)
   subst Qb;clear gu AZ aG hv;go_wp2_with fail;go_roundw
   case rel=>exact⟨k+1,by omega,by go_num,by rw[List.take_add_one,yc.out];simp only[Option.toList_some];rw[nO];simp[aS],cV.trans ((aj _ _).mono fV)⟩
   case measure=>simp[intOf];omega
  ·obtain rfl:k=n:=by omega
   have e:l.take k=l:=by rw[<-HL.out];exact List.take_length
   rw[e];clear aG;go_wp2_with fail;refine HQ _ _ _ ?_;exact aR (v:= .int .i64 (aS l)) (by simp[results,results44,go_sem]) rfl ⟨rfl,cV.out⟩
end Go.Proofs.YtikbdplllopjlaaGreat
