/- The graph's heap: an object, copied out; at, move, apart. Conditions: as stated. -/
import Derived.Test.YtinmgbodgecoeaaGreatQ04Zz
import Derived.IntWalk
set_option linter.unusedSimpArgs false
set_option linter.unusedVariables false
set_option maxHeartbeats 8000000
set_option maxRecDepth 100000
open Go.Proofs.Tryz
namespace Go.Proofs.YtinmgbodgecoeaaGreat
open Go.RowKit
theorem KW(hb n aA B k:Nat)(x:Int)(A:Option Addr)(M:List MO)(w:World)(hB:B<=w.heap.size)(hpb:hb<w.heap.size)(hc:w.cell? ⟨hb,0,none⟩=some (.slice A n aA))(hM:bU w B A n M)(hk:k+1<M.length)(hl:(aG M (k+1)).live=false):
  Calls prog 113 #[.pointer (some ⟨hb,0,none⟩),.agg #[.int .i64 ((k:Int)+1),.int .i64 x]] w λe w'=>e= .returned (.bool false)/\Below w.heap.size w w':=by
 obtain⟨mb,mo,rfl,gV,hkn,A',len,cap',c0,c1,c2,hll,hl2,hs0,hs1⟩:=hM.get hk;have hmb:mb<w.heap.size:=by omega
 rw[hl]at c2;have hz1:hb<w.heap.size+1:=by omega
 have hz2:hb<w.heap.size+1+1:=by omega
 have hz3:mb<w.heap.size+1:=by omega
 have vT:mb<w.heap.size+1+1:=by omega
 have hk0:(0:Int)<=(k:Int):=by omega
 have hk1:(k:Int)<(n:Int):=by omega
 have hk2:(((k:Int)+1)==0)=false:=by simp;omega
 have hn:=hM.2.1;have hw1:IntKind.i64.wrap (k:Int)=(k:Int):=IntWalk.i64_in _ (by omega);have hw2:IntKind.i64.wrap ((k:Int)+1-1)=(k:Int):=by rw[Int.add_sub_cancel];exact hw1
 have HS:=ae (λ(W:World)(aJ:Below (w.heap.size+1) (w.alloc (.cells #[.int .i64 ((k:Int)+1),.int .i64 x] 75)) W)=>(⟨ag (ag hc (ax w _) hpb) aJ (by omega),ag (ag c0 (ax w _) hmb) aJ (by omega),ag (ag c1 (ax w _) hmb) aJ (by omega),ag (ag c2 (ax w _) hmb) aJ (by omega),ag (by simp[go_sem]) aJ (by omega)⟩:W.cell? ⟨hb,0,none⟩=some (.slice (some ⟨mb,mo,none⟩) n aA)/\W.cell? ⟨mb,mo+k*3,none⟩=some (.int .i64 (aG M (k+1)).size)/\W.cell? ⟨mb,mo+k*3+1,none⟩=some (.slice A' len cap')/\W.cell? ⟨mb,mo+k*3+2,none⟩=some (.bool (!false))/\W.cell? ⟨w.heap.size,0,none⟩=some (.int .i64 ((k:Int)+1))));clear hM hk hl hll;go_enter func113,ntmps113;refine aj λQ HQ=>?_;go_wp2_with fail
 go_region_held3 (λw'=>w'.cell? ⟨hb,0,none⟩=some (.slice (some ⟨mb,mo,none⟩) n aA)/\w'.cell? ⟨mb,mo+k*3,none⟩=some (.int .i64 (aG M (k+1)).size)/\w'.cell? ⟨mb,mo+k*3+1,none⟩=some (.slice A' len cap')/\w'.cell? ⟨mb,mo+k*3+2,none⟩=some (.bool (!false))/\w'.cell? ⟨w.heap.size,0,none⟩=some (.int .i64 ((k:Int)+1))) (first|exact HS _ (((aV _ _).alloc (by first|(simp;done)|(simp;omega)) _).alloc (by first|(simp;done)|(simp;omega)) _).drew|go_keep) (fail);go_wp2_with fail;refine HQ _ _ _ ?_;refine aS (v:= .bool false) (by simp[results,results113,go_sem]) rfl ⟨rfl,?_⟩;exact(aB _ _ _).drew
theorem KV(hb n aA B k:Nat)(x:Int)(A:Option Addr)(M:List MO)(w:World)(hB:B<=w.heap.size)(hpb:hb<w.heap.size)(hc:w.cell? ⟨hb,0,none⟩=some (.slice A n aA))(hM:bU w B A n M)(hk:k+1<M.length)(hl:(aG M (k+1)).live=true)(hx:x<(aG M (k+1)).bytes):
  Calls prog 113 #[.pointer (some ⟨hb,0,none⟩),.agg #[.int .i64 ((k:Int)+1),.int .i64 x]] w λe w'=>e= .returned (.bool true)/\Below w.heap.size w w':=by
 obtain⟨mb,mo,rfl,gV,hkn,A',len,cap',c0,c1,c2,hll,hl2,hs0,hs1⟩:=hM.get hk;have hmb:mb<w.heap.size:=by omega
 rw[hl]at c2;have hz1:hb<w.heap.size+1:=by omega
 have hz2:hb<w.heap.size+1+1:=by omega
 have hz3:mb<w.heap.size+1:=by omega
 have vT:mb<w.heap.size+1+1:=by omega
 have hk0:(0:Int)<=(k:Int):=by omega
 have hk1:(k:Int)<(n:Int):=by omega
 have hk2:(((k:Int)+1)==0)=false:=by simp;omega
 have hn:=hM.2.1;have hw1:IntKind.i64.wrap (k:Int)=(k:Int):=IntWalk.i64_in _ (by omega);have hw2:IntKind.i64.wrap ((k:Int)+1-1)=(k:Int):=by rw[Int.add_sub_cancel];exact hw1
 obtain⟨hlen,hrow⟩:=hll hl;have gX:(aG M (k+1)).size*(len:Int)=(aG M (k+1)).bytes:=by unfold MO.bytes;rw[hlen]
 have j6:(len:Int)*(aG M (k+1)).size=(aG M (k+1)).bytes:=by rw[Int.mul_comm];exact gX
 have hbb:=MO.ik hs0 hs1 (by omega:(aG M (k+1)).l.length<=64);obtain⟨hb0,hb1⟩:=hbb;have GK:(0:Int)<=(len:Int)*(aG M (k+1)).size:=by rw[j6];omega
 have Bf:(len:Int)*(aG M (k+1)).size<=512:=by rw[j6];omega
 have hd:decide (x<(len:Int)*(aG M (k+1)).size)=true:=by rw[j6];simpa using hx
 rw[<-j6]at hx;have Xp:=ae j6;clear gX j6 hlen hrow;have HS:=ae (λ(W:World)(aJ:Below (w.heap.size+1) (w.alloc (.cells #[.int .i64 ((k:Int)+1),.int .i64 x] 75)) W)=>(⟨ag (ag hc (ax w _) hpb) aJ (by omega),ag (ag c0 (ax w _) hmb) aJ (by omega),ag (ag c1 (ax w _) hmb) aJ (by omega),ag (ag c2 (ax w _) hmb) aJ (by omega),ag (by simp[go_sem]) aJ (by omega)⟩:W.cell? ⟨hb,0,none⟩=some (.slice (some ⟨mb,mo,none⟩) n aA)/\W.cell? ⟨mb,mo+k*3,none⟩=some (.int .i64 (aG M (k+1)).size)/\W.cell? ⟨mb,mo+k*3+1,none⟩=some (.slice A' len cap')/\W.cell? ⟨mb,mo+k*3+2,none⟩=some (.bool (!true))/\W.cell? ⟨w.heap.size,0,none⟩=some (.int .i64 ((k:Int)+1))));clear hM hk hl hll;go_enter func113,ntmps113
 refine aj λQ HQ=>?_;go_wp2_with fail;go_region_held3 (λw'=>w'.cell? ⟨hb,0,none⟩=some (.slice (some ⟨mb,mo,none⟩) n aA)/\w'.cell? ⟨mb,mo+k*3,none⟩=some (.int .i64 (aG M (k+1)).size)/\w'.cell? ⟨mb,mo+k*3+1,none⟩=some (.slice A' len cap')/\w'.cell? ⟨mb,mo+k*3+2,none⟩=some (.bool (!true))/\w'.cell? ⟨w.heap.size,0,none⟩=some (.int .i64 ((k:Int)+1))) (first|exact HS _ (((aV _ _).alloc (by first|(simp;done)|(simp;omega)) _).alloc (by first|(simp;done)|(simp;omega)) _).drew|go_keep) (fail);go_wp2_with fail;refine HQ _ _ _ ?_;refine aS (v:= .bool true) (by simp[results,results113,go_sem]) rfl ⟨rfl,?_⟩;exact(aB _ _ _).drew
theorem NI(hb n aA B k:Nat)(x:Int)(A:Option Addr)(M:List MO)(w:World)(hB:B<=w.heap.size)(hpb:hb<w.heap.size)(hc:w.cell? ⟨hb,0,none⟩=some (.slice A n aA))(hM:bU w B A n M)(hk:k+1<M.length)(hl:(aG M (k+1)).live=true)(hx:¬x<(aG M (k+1)).bytes):
  Calls prog 113 #[.pointer (some ⟨hb,0,none⟩),.agg #[.int .i64 ((k:Int)+1),.int .i64 x]] w λe w'=>e= .returned (.bool false)/\Below w.heap.size w w':=by
 obtain⟨mb,mo,rfl,gV,hkn,A',len,cap',c0,c1,c2,hll,hl2,hs0,hs1⟩:=hM.get hk;have hmb:mb<w.heap.size:=by omega
 rw[hl]at c2;have hz1:hb<w.heap.size+1:=by omega
 have hz2:hb<w.heap.size+1+1:=by omega
 have hz3:mb<w.heap.size+1:=by omega
 have vT:mb<w.heap.size+1+1:=by omega
 have hk0:(0:Int)<=(k:Int):=by omega
 have hk1:(k:Int)<(n:Int):=by omega
 have hk2:(((k:Int)+1)==0)=false:=by simp;omega
 have hn:=hM.2.1;have hw1:IntKind.i64.wrap (k:Int)=(k:Int):=IntWalk.i64_in _ (by omega);have hw2:IntKind.i64.wrap ((k:Int)+1-1)=(k:Int):=by rw[Int.add_sub_cancel];exact hw1
 obtain⟨hlen,hrow⟩:=hll hl;have gX:(aG M (k+1)).size*(len:Int)=(aG M (k+1)).bytes:=by unfold MO.bytes;rw[hlen]
 have j6:(len:Int)*(aG M (k+1)).size=(aG M (k+1)).bytes:=by rw[Int.mul_comm];exact gX
 have hbb:=MO.ik hs0 hs1 (by omega:(aG M (k+1)).l.length<=64);obtain⟨hb0,hb1⟩:=hbb;have GK:(0:Int)<=(len:Int)*(aG M (k+1)).size:=by rw[j6];omega
 have Bf:(len:Int)*(aG M (k+1)).size<=512:=by rw[j6];omega
 have hd:decide (x<(len:Int)*(aG M (k+1)).size)=false:=by rw[j6];simpa using hx
 rw[<-j6]at hx;have Xp:=ae j6;clear gX j6 hlen hrow;have HS:=ae (λ(W:World)(aJ:Below (w.heap.size+1) (w.alloc (.cells #[.int .i64 ((k:Int)+1),.int .i64 x] 75)) W)=>(⟨ag (ag hc (ax w _) hpb) aJ (by omega),ag (ag c0 (ax w _) hmb) aJ (by omega),ag (ag c1 (ax w _) hmb) aJ (by omega),ag (ag c2 (ax w _) hmb) aJ (by omega),ag (by simp[go_sem]) aJ (by omega)⟩:W.cell? ⟨hb,0,none⟩=some (.slice (some ⟨mb,mo,none⟩) n aA)/\W.cell? ⟨mb,mo+k*3,none⟩=some (.int .i64 (aG M (k+1)).size)/\W.cell? ⟨mb,mo+k*3+1,none⟩=some (.slice A' len cap')/\W.cell? ⟨mb,mo+k*3+2,none⟩=some (.bool (!true))/\W.cell? ⟨w.heap.size,0,none⟩=some (.int .i64 ((k:Int)+1))));clear hM hk hl hll;go_enter func113,ntmps113
 refine aj λQ HQ=>?_;go_wp2_with fail;go_region_held3 (λw'=>w'.cell? ⟨hb,0,none⟩=some (.slice (some ⟨mb,mo,none⟩) n aA)/\w'.cell? ⟨mb,mo+k*3,none⟩=some (.int .i64 (aG M (k+1)).size)/\w'.cell? ⟨mb,mo+k*3+1,none⟩=some (.slice A' len cap')/\w'.cell? ⟨mb,mo+k*3+2,none⟩=some (.bool (!true))/\w'.cell? ⟨w.heap.size,0,none⟩=some (.int .i64 ((k:Int)+1))) (first|exact HS _ (((aV _ _).alloc (by first|(simp;done)|(simp;omega)) _).alloc (by first|(simp;done)|(simp;omega)) _).drew|go_keep) (fail);go_wp2_with fail;refine HQ _ _ _ ?_;refine aS (v:= .bool false) (by simp[results,results113,go_sem]) rfl ⟨rfl,?_⟩;exact(aB _ _ _).drew
theorem ME(hb n aA B k:Nat)(x:Int)(A:Option Addr)(M:List MO)(w:World)(hB:B<=w.heap.size)(hpb:hb<w.heap.size)(hc:w.cell? ⟨hb,0,none⟩=some (.slice A n aA))(hM:bU w B A n M)(hk:k+1<M.length)(hl:(aG M (k+1)).live=false)(hx0:0<=x)(hx1:x<=512)(m:Int):
  Calls prog 108 #[.pointer (some ⟨hb,0,none⟩),.agg #[.int .i64 ((k:Int)+1),.int .i64 x],.int .i64 m] w λe w'=>e= .returned (.tuple #[.agg #[.int .i64 0,.int .i64 0],.bool false])/\Below w.heap.size w w':=by
 obtain⟨mb,mo,rfl,gV,hkn,A',len,cap',c0,c1,c2,hll,hl2,hs0,hs1⟩:=hM.get hk;have hmb:mb<w.heap.size:=by omega
 rw[hl]at c2;have hz1:hb<w.heap.size+1:=by omega
 have hz2:hb<w.heap.size+1+1:=by omega
 have hz3:mb<w.heap.size+1:=by omega
 have vT:mb<w.heap.size+1+1:=by omega
 have hk0:(0:Int)<=(k:Int):=by omega
 have hk1:(k:Int)<(n:Int):=by omega
 have hk2:(((k:Int)+1)==0)=false:=by simp;omega
 have hn:=hM.2.1;have hw1:IntKind.i64.wrap (k:Int)=(k:Int):=IntWalk.i64_in _ (by omega);have hw2:IntKind.i64.wrap ((k:Int)+1-1)=(k:Int):=by rw[Int.add_sub_cancel];exact hw1
 have HS:=ae (λ(W:World)(aJ:Below (w.heap.size+1) (w.alloc (.cells #[.int .i64 ((k:Int)+1),.int .i64 x] 75)) W)=>(⟨ag (ag hc (ax w _) hpb) aJ (by omega),ag (ag c0 (ax w _) hmb) aJ (by omega),ag (ag c1 (ax w _) hmb) aJ (by omega),ag (ag c2 (ax w _) hmb) aJ (by omega),ag (by simp[go_sem]) aJ (by omega)⟩:W.cell? ⟨hb,0,none⟩=some (.slice (some ⟨mb,mo,none⟩) n aA)/\W.cell? ⟨mb,mo+k*3,none⟩=some (.int .i64 (aG M (k+1)).size)/\W.cell? ⟨mb,mo+k*3+1,none⟩=some (.slice A' len cap')/\W.cell? ⟨mb,mo+k*3+2,none⟩=some (.bool (!false))/\W.cell? ⟨w.heap.size,0,none⟩=some (.int .i64 ((k:Int)+1))));clear hM hk hl hll;go_enter func108,ntmps108;refine aj λQ HQ=>?_;go_wp2_with fail
 go_region_held3 (λw'=>w'.cell? ⟨hb,0,none⟩=some (.slice (some ⟨mb,mo,none⟩) n aA)/\w'.cell? ⟨mb,mo+k*3,none⟩=some (.int .i64 (aG M (k+1)).size)/\w'.cell? ⟨mb,mo+k*3+1,none⟩=some (.slice A' len cap')/\w'.cell? ⟨mb,mo+k*3+2,none⟩=some (.bool (!false))/\w'.cell? ⟨w.heap.size,0,none⟩=some (.int .i64 ((k:Int)+1))) (first|exact HS _ (((aV _ _).alloc (by first|(simp;done)|(simp;omega)) _).alloc (by first|(simp;done)|(simp;omega)) _).drew|go_keep) (fail);go_wp2_with fail;refine HQ _ _ _ ?_;refine aS (v:= .tuple #[.agg #[.int .i64 0,.int .i64 0],.bool false]) (by simp[results,results108,go_sem]) rfl ⟨rfl,?_⟩;exact(aN _ _ _ _).drew
theorem OY(hb n aA B k:Nat)(x:Int)(A:Option Addr)(M:List MO)(w:World)(hB:B<=w.heap.size)(hpb:hb<w.heap.size)(hc:w.cell? ⟨hb,0,none⟩=some (.slice A n aA))(hM:bU w B A n M)(hk:k+1<M.length)(hl:(aG M (k+1)).live=true)(hx0:0<=x)(hx1:x<=512)(m:Int)(h1:m< -x):
  Calls prog 108 #[.pointer (some ⟨hb,0,none⟩),.agg #[.int .i64 ((k:Int)+1),.int .i64 x],.int .i64 m] w λe w'=>e= .returned (.tuple #[.agg #[.int .i64 0,.int .i64 0],.bool false])/\Below w.heap.size w w':=by
 obtain⟨mb,mo,rfl,gV,hkn,A',len,cap',c0,c1,c2,hll,hl2,hs0,hs1⟩:=hM.get hk;have hmb:mb<w.heap.size:=by omega
 rw[hl]at c2;have hz1:hb<w.heap.size+1:=by omega
 have hz2:hb<w.heap.size+1+1:=by omega
 have hz3:mb<w.heap.size+1:=by omega
 have vT:mb<w.heap.size+1+1:=by omega
 have hk0:(0:Int)<=(k:Int):=by omega
 have hk1:(k:Int)<(n:Int):=by omega
 have hk2:(((k:Int)+1)==0)=false:=by simp;omega
 have hn:=hM.2.1;have hw1:IntKind.i64.wrap (k:Int)=(k:Int):=IntWalk.i64_in _ (by omega);have hw2:IntKind.i64.wrap ((k:Int)+1-1)=(k:Int):=by rw[Int.add_sub_cancel];exact hw1
 obtain⟨hlen,hrow⟩:=hll hl;have gX:(aG M (k+1)).size*(len:Int)=(aG M (k+1)).bytes:=by unfold MO.bytes;rw[hlen]
 have j6:(len:Int)*(aG M (k+1)).size=(aG M (k+1)).bytes:=by rw[Int.mul_comm];exact gX
 have hbb:=MO.ik hs0 hs1 (by omega:(aG M (k+1)).l.length<=64);obtain⟨hb0,hb1⟩:=hbb;have GK:(0:Int)<=(len:Int)*(aG M (k+1)).size:=by rw[j6];omega
 have Bf:(len:Int)*(aG M (k+1)).size<=512:=by rw[j6];omega
 have hd1:decide (m< -x)=true:=by simpa using h1
 have Xp:=ae j6;clear gX j6 hlen hrow;have HS:=ae (λ(W:World)(aJ:Below (w.heap.size+1) (w.alloc (.cells #[.int .i64 ((k:Int)+1),.int .i64 x] 75)) W)=>(⟨ag (ag hc (ax w _) hpb) aJ (by omega),ag (ag c0 (ax w _) hmb) aJ (by omega),ag (ag c1 (ax w _) hmb) aJ (by omega),ag (ag c2 (ax w _) hmb) aJ (by omega),ag (by simp[go_sem]) aJ (by omega)⟩:W.cell? ⟨hb,0,none⟩=some (.slice (some ⟨mb,mo,none⟩) n aA)/\W.cell? ⟨mb,mo+k*3,none⟩=some (.int .i64 (aG M (k+1)).size)/\W.cell? ⟨mb,mo+k*3+1,none⟩=some (.slice A' len cap')/\W.cell? ⟨mb,mo+k*3+2,none⟩=some (.bool (!true))/\W.cell? ⟨w.heap.size,0,none⟩=some (.int .i64 ((k:Int)+1))));clear hM hk hl hll;go_enter func108,ntmps108
 refine aj λQ HQ=>?_;go_wp2_with fail;go_region_held3 (λw'=>w'.cell? ⟨hb,0,none⟩=some (.slice (some ⟨mb,mo,none⟩) n aA)/\w'.cell? ⟨mb,mo+k*3,none⟩=some (.int .i64 (aG M (k+1)).size)/\w'.cell? ⟨mb,mo+k*3+1,none⟩=some (.slice A' len cap')/\w'.cell? ⟨mb,mo+k*3+2,none⟩=some (.bool (!true))/\w'.cell? ⟨w.heap.size,0,none⟩=some (.int .i64 ((k:Int)+1))) (first|exact HS _ (((aV _ _).alloc (by first|(simp;done)|(simp;omega)) _).alloc (by first|(simp;done)|(simp;omega)) _).drew|go_keep) (fail);go_wp2_with fail;refine HQ _ _ _ ?_;refine aS (v:= .tuple #[.agg #[.int .i64 0,.int .i64 0],.bool false]) (by simp[results,results108,go_sem]) rfl ⟨rfl,?_⟩;exact(aN _ _ _ _).drew
theorem MD(hb n aA B k:Nat)(x:Int)(A:Option Addr)(M:List MO)(w:World)(hB:B<=w.heap.size)(hpb:hb<w.heap.size)(hc:w.cell? ⟨hb,0,none⟩=some (.slice A n aA))(hM:bU w B A n M)(hk:k+1<M.length)(hl:(aG M (k+1)).live=true)(hx0:0<=x)(hx1:x<=512)(m:Int)(h1:¬m< -x)(h2:(aG M (k+1)).bytes-x<m):
  Calls prog 108 #[.pointer (some ⟨hb,0,none⟩),.agg #[.int .i64 ((k:Int)+1),.int .i64 x],.int .i64 m] w λe w'=>e= .returned (.tuple #[.agg #[.int .i64 0,.int .i64 0],.bool false])/\Below w.heap.size w w':=by
 obtain⟨mb,mo,rfl,gV,hkn,A',len,cap',c0,c1,c2,hll,hl2,hs0,hs1⟩:=hM.get hk;have hmb:mb<w.heap.size:=by omega
 rw[hl]at c2;have hz1:hb<w.heap.size+1:=by omega
 have hz2:hb<w.heap.size+1+1:=by omega
 have hz3:mb<w.heap.size+1:=by omega
 have vT:mb<w.heap.size+1+1:=by omega
 have hk0:(0:Int)<=(k:Int):=by omega
 have hk1:(k:Int)<(n:Int):=by omega
 have hk2:(((k:Int)+1)==0)=false:=by simp;omega
 have hn:=hM.2.1;have hw1:IntKind.i64.wrap (k:Int)=(k:Int):=IntWalk.i64_in _ (by omega);have hw2:IntKind.i64.wrap ((k:Int)+1-1)=(k:Int):=by rw[Int.add_sub_cancel];exact hw1
 obtain⟨hlen,hrow⟩:=hll hl;have gX:(aG M (k+1)).size*(len:Int)=(aG M (k+1)).bytes:=by unfold MO.bytes;rw[hlen]
 have j6:(len:Int)*(aG M (k+1)).size=(aG M (k+1)).bytes:=by rw[Int.mul_comm];exact gX
 have hbb:=MO.ik hs0 hs1 (by omega:(aG M (k+1)).l.length<=64);obtain⟨hb0,hb1⟩:=hbb;have GK:(0:Int)<=(len:Int)*(aG M (k+1)).size:=by rw[j6];omega
 have Bf:(len:Int)*(aG M (k+1)).size<=512:=by rw[j6];omega
 have hd1:decide (m< -x)=false:=by simpa using h1
 have hd2:decide ((len:Int)*(aG M (k+1)).size-x<m)=true:=by rw[j6];simpa using h2
 rw[<-j6]at h2;have Xp:=ae j6;clear gX j6 hlen hrow;have HS:=ae (λ(W:World)(aJ:Below (w.heap.size+1) (w.alloc (.cells #[.int .i64 ((k:Int)+1),.int .i64 x] 75)) W)=>(⟨ag (ag hc (ax w _) hpb) aJ (by omega),ag (ag c0 (ax w _) hmb) aJ (by omega),ag (ag c1 (ax w _) hmb) aJ (by omega),ag (ag c2 (ax w _) hmb) aJ (by omega),ag (by simp[go_sem]) aJ (by omega)⟩:W.cell? ⟨hb,0,none⟩=some (.slice (some ⟨mb,mo,none⟩) n aA)/\W.cell? ⟨mb,mo+k*3,none⟩=some (.int .i64 (aG M (k+1)).size)/\W.cell? ⟨mb,mo+k*3+1,none⟩=some (.slice A' len cap')/\W.cell? ⟨mb,mo+k*3+2,none⟩=some (.bool (!true))/\W.cell? ⟨w.heap.size,0,none⟩=some (.int .i64 ((k:Int)+1))));clear hM hk hl hll;go_enter func108,ntmps108
 refine aj λQ HQ=>?_;go_wp2_with fail;go_region_held3 (λw'=>w'.cell? ⟨hb,0,none⟩=some (.slice (some ⟨mb,mo,none⟩) n aA)/\w'.cell? ⟨mb,mo+k*3,none⟩=some (.int .i64 (aG M (k+1)).size)/\w'.cell? ⟨mb,mo+k*3+1,none⟩=some (.slice A' len cap')/\w'.cell? ⟨mb,mo+k*3+2,none⟩=some (.bool (!true))/\w'.cell? ⟨w.heap.size,0,none⟩=some (.int .i64 ((k:Int)+1))) (first|exact HS _ (((aV _ _).alloc (by first|(simp;done)|(simp;omega)) _).alloc (by first|(simp;done)|(simp;omega)) _).drew|go_keep) (fail);go_wp2_with fail;refine HQ _ _ _ ?_;refine aS (v:= .tuple #[.agg #[.int .i64 0,.int .i64 0],.bool false]) (by simp[results,results108,go_sem]) rfl ⟨rfl,?_⟩;exact(aN _ _ _ _).drew
theorem OX(hb n aA B k:Nat)(x:Int)(A:Option Addr)(M:List MO)(w:World)(hB:B<=w.heap.size)(hpb:hb<w.heap.size)(hc:w.cell? ⟨hb,0,none⟩=some (.slice A n aA))(hM:bU w B A n M)(hk:k+1<M.length)(hl:(aG M (k+1)).live=true)(hx0:0<=x)(hx1:x<=512)(m:Int)(h1:¬m< -x)(h2:¬(aG M (k+1)).bytes-x<m):
  Calls prog 108 #[.pointer (some ⟨hb,0,none⟩),.agg #[.int .i64 ((k:Int)+1),.int .i64 x],.int .i64 m] w λe w'=>e= .returned (.tuple #[.agg #[.int .i64 ((k:Int)+1),.int .i64 (x+m)],.bool true])/\Below w.heap.size w w':=by
 obtain⟨mb,mo,rfl,gV,hkn,A',len,cap',c0,c1,c2,hll,hl2,hs0,hs1⟩:=hM.get hk;have hmb:mb<w.heap.size:=by omega
 rw[hl]at c2;have hz1:hb<w.heap.size+1:=by omega
 have hz2:hb<w.heap.size+1+1:=by omega
 have hz3:mb<w.heap.size+1:=by omega
 have vT:mb<w.heap.size+1+1:=by omega
 have hk0:(0:Int)<=(k:Int):=by omega
 have hk1:(k:Int)<(n:Int):=by omega
 have hk2:(((k:Int)+1)==0)=false:=by simp;omega
 have hn:=hM.2.1;have hw1:IntKind.i64.wrap (k:Int)=(k:Int):=IntWalk.i64_in _ (by omega);have hw2:IntKind.i64.wrap ((k:Int)+1-1)=(k:Int):=by rw[Int.add_sub_cancel];exact hw1
 obtain⟨hlen,hrow⟩:=hll hl;have gX:(aG M (k+1)).size*(len:Int)=(aG M (k+1)).bytes:=by unfold MO.bytes;rw[hlen]
 have j6:(len:Int)*(aG M (k+1)).size=(aG M (k+1)).bytes:=by rw[Int.mul_comm];exact gX
 have hbb:=MO.ik hs0 hs1 (by omega:(aG M (k+1)).l.length<=64);obtain⟨hb0,hb1⟩:=hbb;have GK:(0:Int)<=(len:Int)*(aG M (k+1)).size:=by rw[j6];omega
 have Bf:(len:Int)*(aG M (k+1)).size<=512:=by rw[j6];omega
 have hd1:decide (m< -x)=false:=by simpa using h1
 have hd2:decide ((len:Int)*(aG M (k+1)).size-x<m)=false:=by rw[j6];simpa using h2
 rw[<-j6]at h2;have Xp:=ae j6;clear gX j6 hlen hrow;have HS:=ae (λ(W:World)(aJ:Below (w.heap.size+1) (w.alloc (.cells #[.int .i64 ((k:Int)+1),.int .i64 x] 75)) W)=>(⟨ag (ag hc (ax w _) hpb) aJ (by omega),ag (ag c0 (ax w _) hmb) aJ (by omega),ag (ag c1 (ax w _) hmb) aJ (by omega),ag (ag c2 (ax w _) hmb) aJ (by omega),ag (by simp[go_sem]) aJ (by omega)⟩:W.cell? ⟨hb,0,none⟩=some (.slice (some ⟨mb,mo,none⟩) n aA)/\W.cell? ⟨mb,mo+k*3,none⟩=some (.int .i64 (aG M (k+1)).size)/\W.cell? ⟨mb,mo+k*3+1,none⟩=some (.slice A' len cap')/\W.cell? ⟨mb,mo+k*3+2,none⟩=some (.bool (!true))/\W.cell? ⟨w.heap.size,0,none⟩=some (.int .i64 ((k:Int)+1))));clear hM hk hl hll;go_enter func108,ntmps108
 refine aj λQ HQ=>?_;go_wp2_with fail;go_region_held3 (λw'=>w'.cell? ⟨hb,0,none⟩=some (.slice (some ⟨mb,mo,none⟩) n aA)/\w'.cell? ⟨mb,mo+k*3,none⟩=some (.int .i64 (aG M (k+1)).size)/\w'.cell? ⟨mb,mo+k*3+1,none⟩=some (.slice A' len cap')/\w'.cell? ⟨mb,mo+k*3+2,none⟩=some (.bool (!true))/\w'.cell? ⟨w.heap.size,0,none⟩=some (.int .i64 ((k:Int)+1))) (first|exact HS _ (((aV _ _).alloc (by first|(simp;done)|(simp;omega)) _).alloc (by first|(simp;done)|(simp;omega)) _).drew|go_keep) (fail);go_wp2_with fail;refine HQ _ _ _ ?_;refine aS (v:= .tuple #[.agg #[.int .i64 ((k:Int)+1),.int .i64 (x+m)],.bool true]) (by simp[results,results108,go_sem]) rfl ⟨rfl,?_⟩;exact(aN _ _ _ _).drew
end Go.Proofs.YtinmgbodgecoeaaGreat
