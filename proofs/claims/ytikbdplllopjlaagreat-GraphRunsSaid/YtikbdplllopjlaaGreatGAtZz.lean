/- The graph's heap: an object, copied out; at, move, apart. Conditions: as stated. -/
import Derived.Test.YtikbdplllopjlaaGreatQ04Zz
import Derived.IntWalk
set_option linter.unusedVariables false
set_option linter.unusedSimpArgs false
set_option maxHeartbeats 8000000
set_option maxRecDepth 100000
open Go.Proofs.Tryz
namespace Go.Proofs.YtikbdplllopjlaaGreat
open Go.RowKit
theorem Jx(hb n aA B k:Nat)(x:Int)(A:Option Addr)(M:List MO)(w:World)(hB:B<=w.heap.size)(aZ:hb<w.heap.size)(hc:w.cell? ⟨hb,0,none⟩=some (.slice A n aA))(hM:cB w B A n M)(hk:k+1<M.length)(hl:(aF M (k+1)).live=false):
  Calls prog 120 #[.pointer (some ⟨hb,0,none⟩),.agg #[.int .i64 ((k:Int)+1),.int .i64 x]] w λe w'=>e= .returned (.bool false)/\Below w.heap.size w w':=by
 obtain⟨mb,mo,rfl,gK,lV,A',len,cap',c0,c1,c2,jb,hl2,hs0,hs1⟩:=hM.get hk;have eW:mb<w.heap.size:=by omega
 rw[hl]at c2;have hz1:hb<w.heap.size+1:=by omega
 have hz2:hb<w.heap.size+1+1:=by omega
 have hz3:mb<w.heap.size+1:=by omega
 have yC:mb<w.heap.size+1+1:=by omega
 have iZ:(0:Int)<=(k:Int):=by omega
 have bA:(k:Int)<(n:Int):=by omega
 have hk2:(((k:Int)+1)==0)=false:=by simp;omega
 have hn:=hM.2.1;have bT:IntKind.i64.wrap (k:Int)=(k:Int):=IntWalk.i64_in _ (by omega);have hw2:IntKind.i64.wrap ((k:Int)+1-1)=(k:Int):=by rw[Int.add_sub_cancel];exact bT
 have HS:=ae (λ(W:World)(aG:Below (w.heap.size+1) (w.alloc (.cells #[.int .i64 ((k:Int)+1),.int .i64 x] 72)) W)=>(⟨ag (ag hc (aj w _) aZ) aG (by omega),ag (ag c0 (aj w _) eW) aG (by omega),ag (ag c1 (aj w _) eW) aG (by omega),ag (ag c2 (aj w _) eW) aG (by omega),ag (by simp[go_sem]) aG (by omega)⟩:W.cell? ⟨hb,0,none⟩=some (.slice (some ⟨mb,mo,none⟩) n aA)/\W.cell? ⟨mb,mo+k*3,none⟩=some (.int .i64 (aF M (k+1)).size)/\W.cell? ⟨mb,mo+k*3+1,none⟩=some (.slice A' len cap')/\W.cell? ⟨mb,mo+k*3+2,none⟩=some (.bool (!false))/\W.cell? ⟨w.heap.size,0,none⟩=some (.int .i64 ((k:Int)+1))));clear hM hk hl jb;go_enter func120,ntmps120;refine ak λQ HQ=>?_;go_wp2_with fail
 go_region_held3 (λw'=>w'.cell? ⟨hb,0,none⟩=some (.slice (some ⟨mb,mo,none⟩) n aA)/\w'.cell? ⟨mb,mo+k*3,none⟩=some (.int .i64 (aF M (k+1)).size)/\w'.cell? ⟨mb,mo+k*3+1,none⟩=some (.slice A' len cap')/\w'.cell? ⟨mb,mo+k*3+2,none⟩=some (.bool (!false))/\w'.cell? ⟨w.heap.size,0,none⟩=some (.int .i64 ((k:Int)+1))) (first|exact HS _ (((bI _ _).alloc (by first|(simp;done)|(simp;omega)) _).alloc (by first|(simp;done)|(simp;omega)) _).drew|go_keep) (fail);go_wp2_with fail;refine HQ _ _ _ ?_;refine aR (v:= .bool false) (by simp[results,results120,go_sem]) rfl ⟨rfl,?_⟩;exact(aJ _ _ _).drew
theorem Jw(hb n aA B k:Nat)(x:Int)(A:Option Addr)(M:List MO)(w:World)(hB:B<=w.heap.size)(aZ:hb<w.heap.size)(hc:w.cell? ⟨hb,0,none⟩=some (.slice A n aA))(hM:cB w B A n M)(hk:k+1<M.length)(hl:(aF M (k+1)).live=true)(hx:x<(aF M (k+1)).bytes):
  Calls prog 120 #[.pointer (some ⟨hb,0,none⟩),.agg #[.int .i64 ((k:Int)+1),.int .i64 x]] w λe w'=>e= .returned (.bool true)/\Below w.heap.size w w':=by
 obtain⟨mb,mo,rfl,gK,lV,A',len,cap',c0,c1,c2,jb,hl2,hs0,hs1⟩:=hM.get hk;have eW:mb<w.heap.size:=by omega
 rw[hl]at c2;have hz1:hb<w.heap.size+1:=by omega
 have hz2:hb<w.heap.size+1+1:=by omega
 have hz3:mb<w.heap.size+1:=by omega
 have yC:mb<w.heap.size+1+1:=by omega
 have iZ:(0:Int)<=(k:Int):=by omega
 have bA:(k:Int)<(n:Int):=by omega
 have hk2:(((k:Int)+1)==0)=false:=by simp;omega
 have hn:=hM.2.1;have bT:IntKind.i64.wrap (k:Int)=(k:Int):=IntWalk.i64_in _ (by omega);have hw2:IntKind.i64.wrap ((k:Int)+1-1)=(k:Int):=by rw[Int.add_sub_cancel];exact bT
 obtain⟨hlen,hrow⟩:=jb hl;have dO:(aF M (k+1)).size*(len:Int)=(aF M (k+1)).bytes:=by unfold MO.bytes;rw[hlen]
 have ji:(len:Int)*(aF M (k+1)).size=(aF M (k+1)).bytes:=by rw[Int.mul_comm];exact dO
 have qX:=MO.gQ hs0 hs1 (by omega:(aF M (k+1)).l.length<=64);obtain⟨hb0,hb1⟩:=qX;have Fq:(0:Int)<=(len:Int)*(aF M (k+1)).size:=by rw[ji];omega
 have Bc:(len:Int)*(aF M (k+1)).size<=512:=by rw[ji];omega
 have hd:decide (x<(len:Int)*(aF M (k+1)).size)=true:=by rw[ji];simpa using hx
 rw[<-ji]at hx;have S8:=ae ji;clear dO ji hlen hrow;have HS:=ae (λ(W:World)(aG:Below (w.heap.size+1) (w.alloc (.cells #[.int .i64 ((k:Int)+1),.int .i64 x] 72)) W)=>(⟨ag (ag hc (aj w _) aZ) aG (by omega),ag (ag c0 (aj w _) eW) aG (by omega),ag (ag c1 (aj w _) eW) aG (by omega),ag (ag c2 (aj w _) eW) aG (by omega),ag (by simp[go_sem]) aG (by omega)⟩:W.cell? ⟨hb,0,none⟩=some (.slice (some ⟨mb,mo,none⟩) n aA)/\W.cell? ⟨mb,mo+k*3,none⟩=some (.int .i64 (aF M (k+1)).size)/\W.cell? ⟨mb,mo+k*3+1,none⟩=some (.slice A' len cap')/\W.cell? ⟨mb,mo+k*3+2,none⟩=some (.bool (!true))/\W.cell? ⟨w.heap.size,0,none⟩=some (.int .i64 ((k:Int)+1))));clear hM hk hl jb;go_enter func120,ntmps120
 refine ak λQ HQ=>?_;go_wp2_with fail;go_region_held3 (λw'=>w'.cell? ⟨hb,0,none⟩=some (.slice (some ⟨mb,mo,none⟩) n aA)/\w'.cell? ⟨mb,mo+k*3,none⟩=some (.int .i64 (aF M (k+1)).size)/\w'.cell? ⟨mb,mo+k*3+1,none⟩=some (.slice A' len cap')/\w'.cell? ⟨mb,mo+k*3+2,none⟩=some (.bool (!true))/\w'.cell? ⟨w.heap.size,0,none⟩=some (.int .i64 ((k:Int)+1))) (first|exact HS _ (((bI _ _).alloc (by first|(simp;done)|(simp;omega)) _).alloc (by first|(simp;done)|(simp;omega)) _).drew|go_keep) (fail);go_wp2_with fail;refine HQ _ _ _ ?_;refine aR (v:= .bool true) (by simp[results,results120,go_sem]) rfl ⟨rfl,?_⟩;exact(aJ _ _ _).drew
theorem MC(hb n aA B k:Nat)(x:Int)(A:Option Addr)(M:List MO)(w:World)(hB:B<=w.heap.size)(aZ:hb<w.heap.size)(hc:w.cell? ⟨hb,0,none⟩=some (.slice A n aA))(hM:cB w B A n M)(hk:k+1<M.length)(hl:(aF M (k+1)).live=true)(hx:¬x<(aF M (k+1)).bytes):
  Calls prog 120 #[.pointer (some ⟨hb,0,none⟩),.agg #[.int .i64 ((k:Int)+1),.int .i64 x]] w λe w'=>e= .returned (.bool false)/\Below w.heap.size w w':=by
 obtain⟨mb,mo,rfl,gK,lV,A',len,cap',c0,c1,c2,jb,hl2,hs0,hs1⟩:=hM.get hk;have eW:mb<w.heap.size:=by omega
 rw[hl]at c2;have hz1:hb<w.heap.size+1:=by omega
 have hz2:hb<w.heap.size+1+1:=by omega
 have hz3:mb<w.heap.size+1:=by omega
 have yC:mb<w.heap.size+1+1:=by omega
 have iZ:(0:Int)<=(k:Int):=by omega
 have bA:(k:Int)<(n:Int):=by omega
 have hk2:(((k:Int)+1)==0)=false:=by simp;omega
 have hn:=hM.2.1;have bT:IntKind.i64.wrap (k:Int)=(k:Int):=IntWalk.i64_in _ (by omega);have hw2:IntKind.i64.wrap ((k:Int)+1-1)=(k:Int):=by rw[Int.add_sub_cancel];exact bT
 obtain⟨hlen,hrow⟩:=jb hl;have dO:(aF M (k+1)).size*(len:Int)=(aF M (k+1)).bytes:=by unfold MO.bytes;rw[hlen]
 have ji:(len:Int)*(aF M (k+1)).size=(aF M (k+1)).bytes:=by rw[Int.mul_comm];exact dO
 have qX:=MO.gQ hs0 hs1 (by omega:(aF M (k+1)).l.length<=64);obtain⟨hb0,hb1⟩:=qX;have Fq:(0:Int)<=(len:Int)*(aF M (k+1)).size:=by rw[ji];omega
 have Bc:(len:Int)*(aF M (k+1)).size<=512:=by rw[ji];omega
 have hd:decide (x<(len:Int)*(aF M (k+1)).size)=false:=by rw[ji];simpa using hx
 rw[<-ji]at hx;have S8:=ae ji;clear dO ji hlen hrow;have HS:=ae (λ(W:World)(aG:Below (w.heap.size+1) (w.alloc (.cells #[.int .i64 ((k:Int)+1),.int .i64 x] 72)) W)=>(⟨ag (ag hc (aj w _) aZ) aG (by omega),ag (ag c0 (aj w _) eW) aG (by omega),ag (ag c1 (aj w _) eW) aG (by omega),ag (ag c2 (aj w _) eW) aG (by omega),ag (by simp[go_sem]) aG (by omega)⟩:W.cell? ⟨hb,0,none⟩=some (.slice (some ⟨mb,mo,none⟩) n aA)/\W.cell? ⟨mb,mo+k*3,none⟩=some (.int .i64 (aF M (k+1)).size)/\W.cell? ⟨mb,mo+k*3+1,none⟩=some (.slice A' len cap')/\W.cell? ⟨mb,mo+k*3+2,none⟩=some (.bool (!true))/\W.cell? ⟨w.heap.size,0,none⟩=some (.int .i64 ((k:Int)+1))));clear hM hk hl jb;go_enter func120,ntmps120
 refine ak λQ HQ=>?_;go_wp2_with fail;go_region_held3 (λw'=>w'.cell? ⟨hb,0,none⟩=some (.slice (some ⟨mb,mo,none⟩) n aA)/\w'.cell? ⟨mb,mo+k*3,none⟩=some (.int .i64 (aF M (k+1)).size)/\w'.cell? ⟨mb,mo+k*3+1,none⟩=some (.slice A' len cap')/\w'.cell? ⟨mb,mo+k*3+2,none⟩=some (.bool (!true))/\w'.cell? ⟨w.heap.size,0,none⟩=some (.int .i64 ((k:Int)+1))) (first|exact HS _ (((bI _ _).alloc (by first|(simp;done)|(simp;omega)) _).alloc (by first|(simp;done)|(simp;omega)) _).drew|go_keep) (fail);go_wp2_with fail;refine HQ _ _ _ ?_;refine aR (v:= .bool false) (by simp[results,results120,go_sem]) rfl ⟨rfl,?_⟩;exact(aJ _ _ _).drew
theorem K4(hb n aA B k:Nat)(x:Int)(A:Option Addr)(M:List MO)(w:World)(hB:B<=w.heap.size)(aZ:hb<w.heap.size)(hc:w.cell? ⟨hb,0,none⟩=some (.slice A n aA))(hM:cB w B A n M)(hk:k+1<M.length)(hl:(aF M (k+1)).live=false)(hx0:0<=x)(hx1:x<=512)(m:Int):
  Calls prog 104 #[.pointer (some ⟨hb,0,none⟩),.agg #[.int .i64 ((k:Int)+1),.int .i64 x],.int .i64 m] w λe w'=>e= .returned (.tuple #[.agg #[.int .i64 0,.int .i64 0],.bool false])/\Below w.heap.size w w':=by
 obtain⟨mb,mo,rfl,gK,lV,A',len,cap',c0,c1,c2,jb,hl2,hs0,hs1⟩:=hM.get hk;have eW:mb<w.heap.size:=by omega
 rw[hl]at c2;have hz1:hb<w.heap.size+1:=by omega
 have hz2:hb<w.heap.size+1+1:=by omega
 have hz3:mb<w.heap.size+1:=by omega
 have yC:mb<w.heap.size+1+1:=by omega
 have iZ:(0:Int)<=(k:Int):=by omega
 have bA:(k:Int)<(n:Int):=by omega
 have hk2:(((k:Int)+1)==0)=false:=by simp;omega
 have hn:=hM.2.1;have bT:IntKind.i64.wrap (k:Int)=(k:Int):=IntWalk.i64_in _ (by omega);have hw2:IntKind.i64.wrap ((k:Int)+1-1)=(k:Int):=by rw[Int.add_sub_cancel];exact bT
 have HS:=ae (λ(W:World)(aG:Below (w.heap.size+1) (w.alloc (.cells #[.int .i64 ((k:Int)+1),.int .i64 x] 72)) W)=>(⟨ag (ag hc (aj w _) aZ) aG (by omega),ag (ag c0 (aj w _) eW) aG (by omega),ag (ag c1 (aj w _) eW) aG (by omega),ag (ag c2 (aj w _) eW) aG (by omega),ag (by simp[go_sem]) aG (by omega)⟩:W.cell? ⟨hb,0,none⟩=some (.slice (some ⟨mb,mo,none⟩) n aA)/\W.cell? ⟨mb,mo+k*3,none⟩=some (.int .i64 (aF M (k+1)).size)/\W.cell? ⟨mb,mo+k*3+1,none⟩=some (.slice A' len cap')/\W.cell? ⟨mb,mo+k*3+2,none⟩=some (.bool (!false))/\W.cell? ⟨w.heap.size,0,none⟩=some (.int .i64 ((k:Int)+1))));clear hM hk hl jb;go_enter func104,ntmps104;refine ak λQ HQ=>?_;go_wp2_with fail
 go_region_held3 (λw'=>w'.cell? ⟨hb,0,none⟩=some (.slice (some ⟨mb,mo,none⟩) n aA)/\w'.cell? ⟨mb,mo+k*3,none⟩=some (.int .i64 (aF M (k+1)).size)/\w'.cell? ⟨mb,mo+k*3+1,none⟩=some (.slice A' len cap')/\w'.cell? ⟨mb,mo+k*3+2,none⟩=some (.bool (!false))/\w'.cell? ⟨w.heap.size,0,none⟩=some (.int .i64 ((k:Int)+1))) (first|exact HS _ (((bI _ _).alloc (by first|(simp;done)|(simp;omega)) _).alloc (by first|(simp;done)|(simp;omega)) _).drew|go_keep) (fail);go_wp2_with fail;refine HQ _ _ _ ?_;refine aR (v:= .tuple #[.agg #[.int .i64 0,.int .i64 0],.bool false]) (by simp[results,results104,go_sem]) rfl ⟨rfl,?_⟩;exact(aO _ _ _ _).drew
theorem NC(hb n aA B k:Nat)(x:Int)(A:Option Addr)(M:List MO)(w:World)(hB:B<=w.heap.size)(aZ:hb<w.heap.size)(hc:w.cell? ⟨hb,0,none⟩=some (.slice A n aA))(hM:cB w B A n M)(hk:k+1<M.length)(hl:(aF M (k+1)).live=true)(hx0:0<=x)(hx1:x<=512)(m:Int)(h1:m< -x):
  Calls prog 104 #[.pointer (some ⟨hb,0,none⟩),.agg #[.int .i64 ((k:Int)+1),.int .i64 x],.int .i64 m] w λe w'=>e= .returned (.tuple #[.agg #[.int .i64 0,.int .i64 0],.bool false])/\Below w.heap.size w w':=by
 obtain⟨mb,mo,rfl,gK,lV,A',len,cap',c0,c1,c2,jb,hl2,hs0,hs1⟩:=hM.get hk;have eW:mb<w.heap.size:=by omega
 rw[hl]at c2;have hz1:hb<w.heap.size+1:=by omega
 have hz2:hb<w.heap.size+1+1:=by omega
 have hz3:mb<w.heap.size+1:=by omega
 have yC:mb<w.heap.size+1+1:=by omega
 have iZ:(0:Int)<=(k:Int):=by omega
 have bA:(k:Int)<(n:Int):=by omega
 have hk2:(((k:Int)+1)==0)=false:=by simp;omega
 have hn:=hM.2.1;have bT:IntKind.i64.wrap (k:Int)=(k:Int):=IntWalk.i64_in _ (by omega);have hw2:IntKind.i64.wrap ((k:Int)+1-1)=(k:Int):=by rw[Int.add_sub_cancel];exact bT
 obtain⟨hlen,hrow⟩:=jb hl;have dO:(aF M (k+1)).size*(len:Int)=(aF M (k+1)).bytes:=by unfold MO.bytes;rw[hlen]
 have ji:(len:Int)*(aF M (k+1)).size=(aF M (k+1)).bytes:=by rw[Int.mul_comm];exact dO
 have qX:=MO.gQ hs0 hs1 (by omega:(aF M (k+1)).l.length<=64);obtain⟨hb0,hb1⟩:=qX;have Fq:(0:Int)<=(len:Int)*(aF M (k+1)).size:=by rw[ji];omega
 have Bc:(len:Int)*(aF M (k+1)).size<=512:=by rw[ji];omega
 have Qc:decide (m< -x)=true:=by simpa using h1
 have S8:=ae ji;clear dO ji hlen hrow;have HS:=ae (λ(W:World)(aG:Below (w.heap.size+1) (w.alloc (.cells #[.int .i64 ((k:Int)+1),.int .i64 x] 72)) W)=>(⟨ag (ag hc (aj w _) aZ) aG (by omega),ag (ag c0 (aj w _) eW) aG (by omega),ag (ag c1 (aj w _) eW) aG (by omega),ag (ag c2 (aj w _) eW) aG (by omega),ag (by simp[go_sem]) aG (by omega)⟩:W.cell? ⟨hb,0,none⟩=some (.slice (some ⟨mb,mo,none⟩) n aA)/\W.cell? ⟨mb,mo+k*3,none⟩=some (.int .i64 (aF M (k+1)).size)/\W.cell? ⟨mb,mo+k*3+1,none⟩=some (.slice A' len cap')/\W.cell? ⟨mb,mo+k*3+2,none⟩=some (.bool (!true))/\W.cell? ⟨w.heap.size,0,none⟩=some (.int .i64 ((k:Int)+1))));clear hM hk hl jb;go_enter func104,ntmps104
 refine ak λQ HQ=>?_;go_wp2_with fail;go_region_held3 (λw'=>w'.cell? ⟨hb,0,none⟩=some (.slice (some ⟨mb,mo,none⟩) n aA)/\w'.cell? ⟨mb,mo+k*3,none⟩=some (.int .i64 (aF M (k+1)).size)/\w'.cell? ⟨mb,mo+k*3+1,none⟩=some (.slice A' len cap')/\w'.cell? ⟨mb,mo+k*3+2,none⟩=some (.bool (!true))/\w'.cell? ⟨w.heap.size,0,none⟩=some (.int .i64 ((k:Int)+1))) (first|exact HS _ (((bI _ _).alloc (by first|(simp;done)|(simp;omega)) _).alloc (by first|(simp;done)|(simp;omega)) _).drew|go_keep) (fail);go_wp2_with fail;refine HQ _ _ _ ?_;refine aR (v:= .tuple #[.agg #[.int .i64 0,.int .i64 0],.bool false]) (by simp[results,results104,go_sem]) rfl ⟨rfl,?_⟩;exact(aO _ _ _ _).drew
theorem K3(hb n aA B k:Nat)(x:Int)(A:Option Addr)(M:List MO)(w:World)(hB:B<=w.heap.size)(aZ:hb<w.heap.size)(hc:w.cell? ⟨hb,0,none⟩=some (.slice A n aA))(hM:cB w B A n M)(hk:k+1<M.length)(hl:(aF M (k+1)).live=true)(hx0:0<=x)(hx1:x<=512)(m:Int)(h1:¬m< -x)(h2:(aF M (k+1)).bytes-x<m):
  Calls prog 104 #[.pointer (some ⟨hb,0,none⟩),.agg #[.int .i64 ((k:Int)+1),.int .i64 x],.int .i64 m] w λe w'=>e= .returned (.tuple #[.agg #[.int .i64 0,.int .i64 0],.bool false])/\Below w.heap.size w w':=by
 obtain⟨mb,mo,rfl,gK,lV,A',len,cap',c0,c1,c2,jb,hl2,hs0,hs1⟩:=hM.get hk;have eW:mb<w.heap.size:=by omega
 rw[hl]at c2;have hz1:hb<w.heap.size+1:=by omega
 have hz2:hb<w.heap.size+1+1:=by omega
 have hz3:mb<w.heap.size+1:=by omega
 have yC:mb<w.heap.size+1+1:=by omega
 have iZ:(0:Int)<=(k:Int):=by omega
 have bA:(k:Int)<(n:Int):=by omega
 have hk2:(((k:Int)+1)==0)=false:=by simp;omega
 have hn:=hM.2.1;have bT:IntKind.i64.wrap (k:Int)=(k:Int):=IntWalk.i64_in _ (by omega);have hw2:IntKind.i64.wrap ((k:Int)+1-1)=(k:Int):=by rw[Int.add_sub_cancel];exact bT
 obtain⟨hlen,hrow⟩:=jb hl;have dO:(aF M (k+1)).size*(len:Int)=(aF M (k+1)).bytes:=by unfold MO.bytes;rw[hlen]
 have ji:(len:Int)*(aF M (k+1)).size=(aF M (k+1)).bytes:=by rw[Int.mul_comm];exact dO
 have qX:=MO.gQ hs0 hs1 (by omega:(aF M (k+1)).l.length<=64);obtain⟨hb0,hb1⟩:=qX;have Fq:(0:Int)<=(len:Int)*(aF M (k+1)).size:=by rw[ji];omega
 have Bc:(len:Int)*(aF M (k+1)).size<=512:=by rw[ji];omega
 have Qc:decide (m< -x)=false:=by simpa using h1
 have zQ:decide ((len:Int)*(aF M (k+1)).size-x<m)=true:=by rw[ji];simpa using h2
 rw[<-ji]at h2;have S8:=ae ji;clear dO ji hlen hrow;have HS:=ae (λ(W:World)(aG:Below (w.heap.size+1) (w.alloc (.cells #[.int .i64 ((k:Int)+1),.int .i64 x] 72)) W)=>(⟨ag (ag hc (aj w _) aZ) aG (by omega),ag (ag c0 (aj w _) eW) aG (by omega),ag (ag c1 (aj w _) eW) aG (by omega),ag (ag c2 (aj w _) eW) aG (by omega),ag (by simp[go_sem]) aG (by omega)⟩:W.cell? ⟨hb,0,none⟩=some (.slice (some ⟨mb,mo,none⟩) n aA)/\W.cell? ⟨mb,mo+k*3,none⟩=some (.int .i64 (aF M (k+1)).size)/\W.cell? ⟨mb,mo+k*3+1,none⟩=some (.slice A' len cap')/\W.cell? ⟨mb,mo+k*3+2,none⟩=some (.bool (!true))/\W.cell? ⟨w.heap.size,0,none⟩=some (.int .i64 ((k:Int)+1))));clear hM hk hl jb;go_enter func104,ntmps104
 refine ak λQ HQ=>?_;go_wp2_with fail;go_region_held3 (λw'=>w'.cell? ⟨hb,0,none⟩=some (.slice (some ⟨mb,mo,none⟩) n aA)/\w'.cell? ⟨mb,mo+k*3,none⟩=some (.int .i64 (aF M (k+1)).size)/\w'.cell? ⟨mb,mo+k*3+1,none⟩=some (.slice A' len cap')/\w'.cell? ⟨mb,mo+k*3+2,none⟩=some (.bool (!true))/\w'.cell? ⟨w.heap.size,0,none⟩=some (.int .i64 ((k:Int)+1))) (first|exact HS _ (((bI _ _).alloc (by first|(simp;done)|(simp;omega)) _).alloc (by first|(simp;done)|(simp;omega)) _).drew|go_keep) (fail);go_wp2_with fail;refine HQ _ _ _ ?_;refine aR (v:= .tuple #[.agg #[.int .i64 0,.int .i64 0],.bool false]) (by simp[results,results104,go_sem]) rfl ⟨rfl,?_⟩;exact(aO _ _ _ _).drew
theorem NB(hb n aA B k:Nat)(x:Int)(A:Option Addr)(M:List MO)(w:World)(hB:B<=w.heap.size)(aZ:hb<w.heap.size)(hc:w.cell? ⟨hb,0,none⟩=some (.slice A n aA))(hM:cB w B A n M)(hk:k+1<M.length)(hl:(aF M (k+1)).live=true)(hx0:0<=x)(hx1:x<=512)(m:Int)(h1:¬m< -x)(h2:¬(aF M (k+1)).bytes-x<m):
  Calls prog 104 #[.pointer (some ⟨hb,0,none⟩),.agg #[.int .i64 ((k:Int)+1),.int .i64 x],.int .i64 m] w λe w'=>e= .returned (.tuple #[.agg #[.int .i64 ((k:Int)+1),.int .i64 (x+m)],.bool true])/\Below w.heap.size w w':=by
 obtain⟨mb,mo,rfl,gK,lV,A',len,cap',c0,c1,c2,jb,hl2,hs0,hs1⟩:=hM.get hk;have eW:mb<w.heap.size:=by omega
 rw[hl]at c2;have hz1:hb<w.heap.size+1:=by omega
 have hz2:hb<w.heap.size+1+1:=by omega
 have hz3:mb<w.heap.size+1:=by omega
 have yC:mb<w.heap.size+1+1:=by omega
 have iZ:(0:Int)<=(k:Int):=by omega
 have bA:(k:Int)<(n:Int):=by omega
 have hk2:(((k:Int)+1)==0)=false:=by simp;omega
 have hn:=hM.2.1;have bT:IntKind.i64.wrap (k:Int)=(k:Int):=IntWalk.i64_in _ (by omega);have hw2:IntKind.i64.wrap ((k:Int)+1-1)=(k:Int):=by rw[Int.add_sub_cancel];exact bT
 obtain⟨hlen,hrow⟩:=jb hl;have dO:(aF M (k+1)).size*(len:Int)=(aF M (k+1)).bytes:=by unfold MO.bytes;rw[hlen]
 have ji:(len:Int)*(aF M (k+1)).size=(aF M (k+1)).bytes:=by rw[Int.mul_comm];exact dO
 have qX:=MO.gQ hs0 hs1 (by omega:(aF M (k+1)).l.length<=64);obtain⟨hb0,hb1⟩:=qX;have Fq:(0:Int)<=(len:Int)*(aF M (k+1)).size:=by rw[ji];omega
 have Bc:(len:Int)*(aF M (k+1)).size<=512:=by rw[ji];omega
 have Qc:decide (m< -x)=false:=by simpa using h1
 have zQ:decide ((len:Int)*(aF M (k+1)).size-x<m)=false:=by rw[ji];simpa using h2
 rw[<-ji]at h2;have S8:=ae ji;clear dO ji hlen hrow;have HS:=ae (λ(W:World)(aG:Below (w.heap.size+1) (w.alloc (.cells #[.int .i64 ((k:Int)+1),.int .i64 x] 72)) W)=>(⟨ag (ag hc (aj w _) aZ) aG (by omega),ag (ag c0 (aj w _) eW) aG (by omega),ag (ag c1 (aj w _) eW) aG (by omega),ag (ag c2 (aj w _) eW) aG (by omega),ag (by simp[go_sem]) aG (by omega)⟩:W.cell? ⟨hb,0,none⟩=some (.slice (some ⟨mb,mo,none⟩) n aA)/\W.cell? ⟨mb,mo+k*3,none⟩=some (.int .i64 (aF M (k+1)).size)/\W.cell? ⟨mb,mo+k*3+1,none⟩=some (.slice A' len cap')/\W.cell? ⟨mb,mo+k*3+2,none⟩=some (.bool (!true))/\W.cell? ⟨w.heap.size,0,none⟩=some (.int .i64 ((k:Int)+1))));clear hM hk hl jb;go_enter func104,ntmps104
 refine ak λQ HQ=>?_;go_wp2_with fail;go_region_held3 (λw'=>w'.cell? ⟨hb,0,none⟩=some (.slice (some ⟨mb,mo,none⟩) n aA)/\w'.cell? ⟨mb,mo+k*3,none⟩=some (.int .i64 (aF M (k+1)).size)/\w'.cell? ⟨mb,mo+k*3+1,none⟩=some (.slice A' len cap')/\w'.cell? ⟨mb,mo+k*3+2,none⟩=some (.bool (!true))/\w'.cell? ⟨w.heap.size,0,none⟩=some (.int .i64 ((k:Int)+1))) (first|exact HS _ (((bI _ _).alloc (by first|(simp;done)|(simp;omega)) _).alloc (by first|(simp;done)|(simp;omega)) _).drew|go_keep) (fail);go_wp2_with fail;refine HQ _ _ _ ?_;refine aR (v:= .tuple #[.agg #[.int .i64 ((k:Int)+1),.int .i64 (x+m)],.bool true]) (by simp[results,results104,go_sem]) rfl ⟨rfl,?_⟩;exact(aO _ _ _ _).drew
end Go.Proofs.YtikbdplllopjlaaGreat
