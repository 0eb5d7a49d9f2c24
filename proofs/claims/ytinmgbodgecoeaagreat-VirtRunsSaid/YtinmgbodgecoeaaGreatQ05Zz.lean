/- The graph's heap: the element at a place. Conditions: as stated. The graph's heap: Load, One. Conditions: as stated. The graph's clock: Tick, Stuck, Leave, Enter. Conditions: as stated. The graph's clock: Enter, Exit, End. Conditions: as stated. The graph's clock: End. Conditions: as stated. The graph's clock: Exit. Conditions: as stated. The graph's heap and clock: how they lie, whole. No program in sight but its name. No condition. The graph's heap: cut; how many elements objects have. Conditions: as stated. -/
import Derived.Test.YtinmgbodgecoeaaGreatGAtZz
set_option linter.unusedSimpArgs false
set_option linter.unusedVariables false
set_option maxHeartbeats 8000000
set_option maxRecDepth 100000
open Go.Proofs.Tryz
namespace Go.Proofs.YtinmgbodgecoeaaGreat
open Go.RowKit
theorem PT(hb:Nat)(x s:Int)(w:World):
  Calls prog 101 #[.pointer (some ⟨hb,0,none⟩),.agg #[.int .i64 0,.int .i64 x],.int .i64 s] w λe w'=>e= .returned (.pointer none)/\Below w.heap.size w w':=by
 go_enter func101,ntmps101;go_wp2_with fail;go_ret;exact⟨rfl,ax _ _⟩
theorem PV(hb mb mo n aA B k:Nat)(x s:Nat)(M:List MO)(w:World)(hB:B<=w.heap.size)(hpb:hb<w.heap.size)(hc:w.cell? ⟨hb,0,none⟩=some (.slice (some ⟨mb,mo,none⟩) n aA))(hM:bU w B (some ⟨mb,mo,none⟩) n M)(hk:k+1<M.length)(hx:x<=512)(hs1:1<=s)(hs2:s<=8)(hl:(aG M (k+1)).live=false):
  Calls prog 101 #[.pointer (some ⟨hb,0,none⟩),.agg #[.int .i64 ((k:Int)+1),.int .i64 x],.int .i64 s] w λe w'=>e= .returned (.pointer none)/\Below w.heap.size w w':=by
 obtain⟨Fi,IW,hA,gV,hkn,A',len,cap',c0,c1,c2,hll,hl2,hsa,Ey⟩:=hM.get hk;injection hA with hA;injection hA with yI hA2;subst yI hA2;have hmb:mb<w.heap.size:=by omega
 rw[hl]at c2;have hz1:hb<w.heap.size+1:=by omega
 have hz3:mb<w.heap.size+1:=by omega
 have hk0:(0:Int)<=(k:Int):=by omega
 have hk1:(k:Int)<(n:Int):=by omega
 have hk2:(((k:Int)+1)==0)=false:=by simp;omega
 have hn:=hM.2.1;have hw1:IntKind.i64.wrap (k:Int)=(k:Int):=IntWalk.i64_in _ (by omega);have hw2:IntKind.i64.wrap ((k:Int)+1-1)=(k:Int):=by rw[Int.add_sub_cancel];exact hw1
 have HS:=ae (λ(W:World)(aJ:Below (w.heap.size+1) (w.alloc (.cells #[.int .i64 ((k:Int)+1),.int .i64 x] 75)) W)=>(⟨ag (ag hc (ax w _) hpb) aJ (by omega),ag (ag c0 (ax w _) hmb) aJ (by omega),ag (ag c1 (ax w _) hmb) aJ (by omega),ag (ag c2 (ax w _) hmb) aJ (by omega),ag (by simp[go_sem]) aJ (by omega)⟩:W.cell? ⟨hb,0,none⟩=some (.slice (some ⟨mb,mo,none⟩) n aA)/\W.cell? ⟨mb,mo+k*3,none⟩=some (.int .i64 (aG M (k+1)).size)/\W.cell? ⟨mb,mo+k*3+1,none⟩=some (.slice A' len cap')/\W.cell? ⟨mb,mo+k*3+2,none⟩=some (.bool (!false))/\W.cell? ⟨w.heap.size,0,none⟩=some (.int .i64 ((k:Int)+1))));clear hM hk hl hll;go_enter func101,ntmps101;refine aj λQ HQ=>?_;go_wp2_with fail
 go_region_held3 (λw'=>w'.cell? ⟨hb,0,none⟩=some (.slice (some ⟨mb,mo,none⟩) n aA)/\w'.cell? ⟨mb,mo+k*3,none⟩=some (.int .i64 (aG M (k+1)).size)/\w'.cell? ⟨mb,mo+k*3+1,none⟩=some (.slice A' len cap')/\w'.cell? ⟨mb,mo+k*3+2,none⟩=some (.bool (!false))/\w'.cell? ⟨w.heap.size,0,none⟩=some (.int .i64 ((k:Int)+1))) (first|exact HS _ (((aV _ _).alloc (by first|(simp;done)|(simp;omega)) _)).drew|go_keep) (fail);go_wp2_with fail;refine HQ _ _ _ ?_;refine aS (v:= .pointer none) (by simp[results,results101,go_sem]) rfl ⟨rfl,?_⟩;exact(aB _ _ _).drew
theorem PU(hb mb mo n aA B k:Nat)(x s:Nat)(M:List MO)(w:World)(hB:B<=w.heap.size)(hpb:hb<w.heap.size)(hc:w.cell? ⟨hb,0,none⟩=some (.slice (some ⟨mb,mo,none⟩) n aA))(hM:bU w B (some ⟨mb,mo,none⟩) n M)(hk:k+1<M.length)(hx:x<=512)(hs1:1<=s)(hs2:s<=8)(hl:(aG M (k+1)).live=true)(hs:¬(aG M (k+1)).size=s):
  Calls prog 101 #[.pointer (some ⟨hb,0,none⟩),.agg #[.int .i64 ((k:Int)+1),.int .i64 x],.int .i64 s] w λe w'=>e= .returned (.pointer none)/\Below w.heap.size w w':=by
 obtain⟨Fi,IW,hA,gV,hkn,A',len,cap',c0,c1,c2,hll,hl2,hsa,Ey⟩:=hM.get hk;injection hA with hA;injection hA with yI hA2;subst yI hA2;have hmb:mb<w.heap.size:=by omega
 rw[hl]at c2;have hz1:hb<w.heap.size+1:=by omega
 have hz3:mb<w.heap.size+1:=by omega
 have hk0:(0:Int)<=(k:Int):=by omega
 have hk1:(k:Int)<(n:Int):=by omega
 have hk2:(((k:Int)+1)==0)=false:=by simp;omega
 have hn:=hM.2.1;have hw1:IntKind.i64.wrap (k:Int)=(k:Int):=IntWalk.i64_in _ (by omega);have hw2:IntKind.i64.wrap ((k:Int)+1-1)=(k:Int):=by rw[Int.add_sub_cancel];exact hw1
 have hd1:((aG M (k+1)).size !=(s:Int))=true:=by simpa using hs
 have HS:=ae (λ(W:World)(aJ:Below (w.heap.size+1) (w.alloc (.cells #[.int .i64 ((k:Int)+1),.int .i64 x] 75)) W)=>(⟨ag (ag hc (ax w _) hpb) aJ (by omega),ag (ag c0 (ax w _) hmb) aJ (by omega),ag (ag c1 (ax w _) hmb) aJ (by omega),ag (ag c2 (ax w _) hmb) aJ (by omega),ag (by simp[go_sem]) aJ (by omega)⟩:W.cell? ⟨hb,0,none⟩=some (.slice (some ⟨mb,mo,none⟩) n aA)/\W.cell? ⟨mb,mo+k*3,none⟩=some (.int .i64 (aG M (k+1)).size)/\W.cell? ⟨mb,mo+k*3+1,none⟩=some (.slice A' len cap')/\W.cell? ⟨mb,mo+k*3+2,none⟩=some (.bool (!true))/\W.cell? ⟨w.heap.size,0,none⟩=some (.int .i64 ((k:Int)+1))));clear hM hk hl hll;go_enter func101,ntmps101;refine aj λQ HQ=>?_;go_wp2_with fail
 go_region_held3 (λw'=>w'.cell? ⟨hb,0,none⟩=some (.slice (some ⟨mb,mo,none⟩) n aA)/\w'.cell? ⟨mb,mo+k*3,none⟩=some (.int .i64 (aG M (k+1)).size)/\w'.cell? ⟨mb,mo+k*3+1,none⟩=some (.slice A' len cap')/\w'.cell? ⟨mb,mo+k*3+2,none⟩=some (.bool (!true))/\w'.cell? ⟨w.heap.size,0,none⟩=some (.int .i64 ((k:Int)+1))) (first|exact HS _ (((aV _ _).alloc (by first|(simp;done)|(simp;omega)) _)).drew|go_keep) (fail);go_wp2_with fail;refine HQ _ _ _ ?_;refine aS (v:= .pointer none) (by simp[results,results101,go_sem]) rfl ⟨rfl,?_⟩;exact(aB _ _ _).drew
theorem Sy(hb mb mo n aA B k:Nat)(x s:Nat)(M:List MO)(w:World)(hB:B<=w.heap.size)(hpb:hb<w.heap.size)(hc:w.cell? ⟨hb,0,none⟩=some (.slice (some ⟨mb,mo,none⟩) n aA))(hM:bU w B (some ⟨mb,mo,none⟩) n M)(hk:k+1<M.length)(hx:x<=512)(hs1:1<=s)(hs2:s<=8)(hl:(aG M (k+1)).live=true)(hs:(aG M (k+1)).size=s)(ho:¬x%s=0):
  Calls prog 101 #[.pointer (some ⟨hb,0,none⟩),.agg #[.int .i64 ((k:Int)+1),.int .i64 x],.int .i64 s] w λe w'=>e= .returned (.pointer none)/\Below w.heap.size w w':=by
 obtain⟨Fi,IW,hA,gV,hkn,A',len,cap',c0,c1,c2,hll,hl2,hsa,Ey⟩:=hM.get hk;injection hA with hA;injection hA with yI hA2;subst yI hA2;have hmb:mb<w.heap.size:=by omega
 rw[hl]at c2;have hz1:hb<w.heap.size+1:=by omega
 have hz3:mb<w.heap.size+1:=by omega
 have hk0:(0:Int)<=(k:Int):=by omega
 have hk1:(k:Int)<(n:Int):=by omega
 have hk2:(((k:Int)+1)==0)=false:=by simp;omega
 have hn:=hM.2.1;have hw1:IntKind.i64.wrap (k:Int)=(k:Int):=IntWalk.i64_in _ (by omega);have hw2:IntKind.i64.wrap ((k:Int)+1-1)=(k:Int):=by rw[Int.add_sub_cancel];exact hw1
 obtain⟨hlen,hrow⟩:=hll hl;rw[hs]at c0;have gX:(len:Int)*(s:Int)=(aG M (k+1)).bytes:=by unfold MO.bytes;rw[hlen,hs,Int.mul_comm]
 have hbb:=MO.ik hsa Ey (by omega:(aG M (k+1)).l.length<=64);obtain⟨hb0,hb1⟩:=hbb;have GK:(0:Int)<=(len:Int)*(s:Int):=by rw[gX];omega
 have Bf:(len:Int)*(s:Int)<=512:=by rw[gX];omega
 have ho':((x:Int)%(s:Int) !=0)=true:=by simp;omega
 have Xp:=ae gX;clear gX hlen hrow hs;have HS:=ae (λ(W:World)(aJ:Below (w.heap.size+1) (w.alloc (.cells #[.int .i64 ((k:Int)+1),.int .i64 x] 75)) W)=>(⟨ag (ag hc (ax w _) hpb) aJ (by omega),ag (ag c0 (ax w _) hmb) aJ (by omega),ag (ag c1 (ax w _) hmb) aJ (by omega),ag (ag c2 (ax w _) hmb) aJ (by omega),ag (by simp[go_sem]) aJ (by omega)⟩:W.cell? ⟨hb,0,none⟩=some (.slice (some ⟨mb,mo,none⟩) n aA)/\W.cell? ⟨mb,mo+k*3,none⟩=some (.int .i64 (s:Int))/\W.cell? ⟨mb,mo+k*3+1,none⟩=some (.slice A' len cap')/\W.cell? ⟨mb,mo+k*3+2,none⟩=some (.bool (!true))/\W.cell? ⟨w.heap.size,0,none⟩=some (.int .i64 ((k:Int)+1))));clear hM hk hl hll;go_enter func101,ntmps101;refine aj λQ HQ=>?_;go_wp2_with fail;go_region_held3 (λw'=>w'.cell? ⟨hb,0,none⟩=some (.slice (some ⟨mb,mo,none⟩) n aA)/\w'.cell? ⟨mb,mo+k*3,none⟩=some (.int .i64 (s:Int))/\w'.cell? ⟨mb,mo+k*3+1,none⟩=some (.slice A' len cap')/\w'.cell? ⟨mb,mo+k*3+2,none⟩=some (.bool (!true))/\w'.cell? ⟨w.heap.size,0,none⟩=some (.int .i64 ((k:Int)+1))) (first|exact HS _ (((aV _ _).alloc (by first|(simp;done)|(simp;omega)) _)).drew|go_keep) (fail);go_wp2_with fail;refine HQ _ _ _ ?_;refine aS (v:= .pointer none) (by simp[results,results101,go_sem]) rfl ⟨rfl,?_⟩;exact(aB _ _ _).drew
theorem SB(hb mb mo n aA B k:Nat)(x s:Nat)(M:List MO)(w:World)(hB:B<=w.heap.size)(hpb:hb<w.heap.size)(hc:w.cell? ⟨hb,0,none⟩=some (.slice (some ⟨mb,mo,none⟩) n aA))(hM:bU w B (some ⟨mb,mo,none⟩) n M)(hk:k+1<M.length)(hx:x<=512)(hs1:1<=s)(hs2:s<=8)(hl:(aG M (k+1)).live=true)(hs:(aG M (k+1)).size=s)(ho:x%s=0)(hf:(aG M (k+1)).bytes<=x):
  Calls prog 101 #[.pointer (some ⟨hb,0,none⟩),.agg #[.int .i64 ((k:Int)+1),.int .i64 x],.int .i64 s] w λe w'=>e= .returned (.pointer none)/\Below w.heap.size w w':=by
 obtain⟨Fi,IW,hA,gV,hkn,A',len,cap',c0,c1,c2,hll,hl2,hsa,Ey⟩:=hM.get hk;injection hA with hA;injection hA with yI hA2;subst yI hA2;have hmb:mb<w.heap.size:=by omega
 rw[hl]at c2;have hz1:hb<w.heap.size+1:=by omega
 have hz3:mb<w.heap.size+1:=by omega
 have hk0:(0:Int)<=(k:Int):=by omega
 have hk1:(k:Int)<(n:Int):=by omega
 have hk2:(((k:Int)+1)==0)=false:=by simp;omega
 have hn:=hM.2.1;have hw1:IntKind.i64.wrap (k:Int)=(k:Int):=IntWalk.i64_in _ (by omega);have hw2:IntKind.i64.wrap ((k:Int)+1-1)=(k:Int):=by rw[Int.add_sub_cancel];exact hw1
 obtain⟨hlen,hrow⟩:=hll hl;rw[hs]at c0;have gX:(len:Int)*(s:Int)=(aG M (k+1)).bytes:=by unfold MO.bytes;rw[hlen,hs,Int.mul_comm]
 have hbb:=MO.ik hsa Ey (by omega:(aG M (k+1)).l.length<=64);obtain⟨hb0,hb1⟩:=hbb;have GK:(0:Int)<=(len:Int)*(s:Int):=by rw[gX];omega
 have Bf:(len:Int)*(s:Int)<=512:=by rw[gX];omega
 have ho':((x:Int)%(s:Int) !=0)=false:=by simp;omega
 have hf':decide ((len:Int)*(s:Int)<=(x:Int))=true:=by rw[gX];simpa using hf
 rw[<-gX]at hf;have Xp:=ae gX;clear gX hlen hrow hs;have HS:=ae (λ(W:World)(aJ:Below (w.heap.size+1) (w.alloc (.cells #[.int .i64 ((k:Int)+1),.int .i64 x] 75)) W)=>(⟨ag (ag hc (ax w _) hpb) aJ (by omega),ag (ag c0 (ax w _) hmb) aJ (by omega),ag (ag c1 (ax w _) hmb) aJ (by omega),ag (ag c2 (ax w _) hmb) aJ (by omega),ag (by simp[go_sem]) aJ (by omega)⟩:W.cell? ⟨hb,0,none⟩=some (.slice (some ⟨mb,mo,none⟩) n aA)/\W.cell? ⟨mb,mo+k*3,none⟩=some (.int .i64 (s:Int))/\W.cell? ⟨mb,mo+k*3+1,none⟩=some (.slice A' len cap')/\W.cell? ⟨mb,mo+k*3+2,none⟩=some (.bool (!true))/\W.cell? ⟨w.heap.size,0,none⟩=some (.int .i64 ((k:Int)+1))));clear hM hk hl hll;go_enter func101,ntmps101
 refine aj λQ HQ=>?_;go_wp2_with fail;go_region_held3 (λw'=>w'.cell? ⟨hb,0,none⟩=some (.slice (some ⟨mb,mo,none⟩) n aA)/\w'.cell? ⟨mb,mo+k*3,none⟩=some (.int .i64 (s:Int))/\w'.cell? ⟨mb,mo+k*3+1,none⟩=some (.slice A' len cap')/\w'.cell? ⟨mb,mo+k*3+2,none⟩=some (.bool (!true))/\w'.cell? ⟨w.heap.size,0,none⟩=some (.int .i64 ((k:Int)+1))) (first|exact HS _ (((aV _ _).alloc (by first|(simp;done)|(simp;omega)) _)).drew|go_keep) (fail);go_wp2_with fail;refine HQ _ _ _ ?_;refine aS (v:= .pointer none) (by simp[results,results101,go_sem]) rfl ⟨rfl,?_⟩;exact(aB _ _ _).drew
theorem Sw(hb mb mo n aA B k:Nat)(x s:Nat)(M:List MO)(w:World)(hB:B<=w.heap.size)(hpb:hb<w.heap.size)(hc:w.cell? ⟨hb,0,none⟩=some (.slice (some ⟨mb,mo,none⟩) n aA))(hM:bU w B (some ⟨mb,mo,none⟩) n M)(hk:k+1<M.length)(hx:x<=512)(hs1:1<=s)(hs2:s<=8)(hl:(aG M (k+1)).live=true)(hs:(aG M (k+1)).size=s)(ho:x%s=0)(hf:¬(aG M (k+1)).bytes<=x)(ob oo len0 cap0:Nat)(hA0:w.cell? ⟨mb,mo+k*3+1,none⟩=some (.slice (some ⟨ob,oo,none⟩) len0 cap0)):
  Calls prog 101 #[.pointer (some ⟨hb,0,none⟩),.agg #[.int .i64 ((k:Int)+1),.int .i64 x],.int .i64 s] w λe w'=>e= .returned (.pointer (some ⟨ob,oo+x/s*2,none⟩))/\Below w.heap.size w w':=by
 obtain⟨Fi,IW,hA,gV,hkn,A',len,cap',c0,c1,c2,hll,hl2,hsa,Ey⟩:=hM.get hk;injection hA with hA;injection hA with yI hA2;subst yI hA2;have hmb:mb<w.heap.size:=by omega
 rw[hl]at c2;have hz1:hb<w.heap.size+1:=by omega
 have hz3:mb<w.heap.size+1:=by omega
 have hk0:(0:Int)<=(k:Int):=by omega
 have hk1:(k:Int)<(n:Int):=by omega
 have hk2:(((k:Int)+1)==0)=false:=by simp;omega
 have hn:=hM.2.1;have hw1:IntKind.i64.wrap (k:Int)=(k:Int):=IntWalk.i64_in _ (by omega);have hw2:IntKind.i64.wrap ((k:Int)+1-1)=(k:Int):=by rw[Int.add_sub_cancel];exact hw1
 obtain⟨hlen,hrow⟩:=hll hl;rw[hs]at c0;have gX:(len:Int)*(s:Int)=(aG M (k+1)).bytes:=by unfold MO.bytes;rw[hlen,hs,Int.mul_comm]
 have hbb:=MO.ik hsa Ey (by omega:(aG M (k+1)).l.length<=64);obtain⟨hb0,hb1⟩:=hbb;have GK:(0:Int)<=(len:Int)*(s:Int):=by rw[gX];omega
 have Bf:(len:Int)*(s:Int)<=512:=by rw[gX];omega
 rw[hA0]at c1;injection c1 with c1;injection c1 with e1 e2 e3;subst e1;have e2':=e2.symm;have e3':=e3.symm;subst e2' e3';have c1:=hA0;have ho':((x:Int)%(s:Int) !=0)=false:=by simp;omega
 have hf':decide ((len:Int)*(s:Int)<=(x:Int))=false:=by rw[gX];simpa using hf
 have hlt:x<s*len:=by
  have:¬((s*len:Nat):Int)<=(x:Int):=by
   have e:((s*len:Nat):Int)=(aG M (k+1)).bytes:=by rw[<-gX];simp[Int.mul_comm]
   rw[e];exact hf
  omega
 have hj:=kK hlt;have Sr:(x:Int)/(s:Int)=((x/s:Nat):Int):=by simp
 have hj4:(x:Int)/(s:Int)<(len:Int):=by rw[Sr];omega
 have hj5:0<=(x:Int)/(s:Int):=by rw[Sr];exact Int.natCast_nonneg _
 have HJ:=ae Sr;have HJ2:=ae hj;rw[<-gX]at hf;have Xp:=ae gX;clear gX hlen hrow hs Sr hlt hj hA0 ho;have HS:=ae (λ(W:World)(aJ:Below (w.heap.size+1) (w.alloc (.cells #[.int .i64 ((k:Int)+1),.int .i64 x] 75)) W)=>(⟨ag (ag hc (ax w _) hpb) aJ (by omega),ag (ag c0 (ax w _) hmb) aJ (by omega),ag (ag c1 (ax w _) hmb) aJ (by omega),ag (ag c2 (ax w _) hmb) aJ (by omega),ag (by simp[go_sem]) aJ (by omega)⟩:W.cell? ⟨hb,0,none⟩=some (.slice (some ⟨mb,mo,none⟩) n aA)/\W.cell? ⟨mb,mo+k*3,none⟩=some (.int .i64 (s:Int))/\W.cell? ⟨mb,mo+k*3+1,none⟩=some (.slice (some ⟨ob,oo,none⟩) len cap')/\W.cell? ⟨mb,mo+k*3+2,none⟩=some (.bool (!true))/\W.cell? ⟨w.heap.size,0,none⟩=some (.int .i64 ((k:Int)+1))))
 clear hM hk hl hll;go_enter func101,ntmps101;refine aj λQ HQ=>?_;go_wp2_with fail;go_region_held3 (λw'=>w'.cell? ⟨hb,0,none⟩=some (.slice (some ⟨mb,mo,none⟩) n aA)/\w'.cell? ⟨mb,mo+k*3,none⟩=some (.int .i64 (s:Int))/\w'.cell? ⟨mb,mo+k*3+1,none⟩=some (.slice (some ⟨ob,oo,none⟩) len cap')/\w'.cell? ⟨mb,mo+k*3+2,none⟩=some (.bool (!true))/\w'.cell? ⟨w.heap.size,0,none⟩=some (.int .i64 ((k:Int)+1))) (first|exact HS _ (((aV _ _).alloc (by first|(simp;done)|(simp;omega)) _)).drew|go_keep) (fail);go_wp2_with fail;go_quiet (fail);go_wp2_with fail;refine HQ _ _ _ ?_;refine aS (v:= .pointer (some ⟨ob,oo+x/s*2,none⟩)) (by simp[results,results101,go_sem]) rfl ⟨rfl,?_⟩;exact(below_drewN ((aB _ _ _).drew) _)
theorem Qb(kind n:Int)(w:World):
  Calls prog 114 #[.int .i64 kind,.int .i64 n] w λe w'=>e= .returned (.int .i64 (Vp kind n))/\w=w':=by
 go_enter func114,ntmps114;go_wp2
 all_goals go_ret
 all_goals(refine⟨kZ ?_,rfl⟩;simp_all [Vp,kz,i8_in,i16_in,i32_in,u16_in])
theorem GW(op n:Int)(w:World)(h0:31<=op)(h1:op<=36):
  Calls prog 109 #[.int .i64 op,.int .i64 n] w λe w'=>e= .returned (.int .i64 (CN op n))/\Below w.heap.size w w':=by
 have h:op=31\/op=32\/op=33\/op=34\/op=35\/op=36:=by omega
 rcases h with rfl|rfl|rfl|rfl|rfl|rfl
 all_goals
  go_enter func109,ntmps109;go_wp2_with(go_at_call 114;refine(Qb _ _ _).mono ?_;rintro e w' ⟨rfl,rfl⟩);go_ret;exact⟨kZ (by simp[CN,Vp]),(aV _ _).alloc (aY _) _⟩
theorem GR(hb:Nat)(A:Option Addr)(n aA B s:Nat)(a:V)(M:List MO)(w:World)(hB:B<=w.heap.size)(hpb:hb<w.heap.size)(hc:w.cell? ⟨hb,0,none⟩=some (.slice A n aA))(hM:bU w B A n M)(hk:a.obj≠0->a.obj<M.length)(hx:a.obj≠0->0<=a.n/\a.n<=512)(hs0:1<=s)(hs1:s<=8)(hF:sP M a s=none):
  Calls prog 101 #[.pointer (some ⟨hb,0,none⟩),.agg #[.int .i64 a.obj,.int .i64 a.n],.int .i64 s] w λe w'=>e= .returned (.pointer none)/\Below w.heap.size w w':=by
 obtain⟨obj,x⟩:=a;rcases obj with _|k
 ·exact PT hb x s w
 ·obtain⟨hx0,hx⟩:=hx (by simp);have hk:=hk (by simp);obtain⟨x',rfl⟩:=Int.eq_ofNat_of_zero_le hx0;simp only at hk hx;obtain⟨mb,mo,rfl,_⟩:=hM.get hk;unfold sP at hF;show Calls _ _ #[_,.agg #[.int .i64 ((k+1:Nat):Int),.int .i64 x'],_] w _;rw[Int.natCast_add,Int.natCast_one];by_cases hd:(aG M (k+1)).live=true
  ·by_cases hs:(aG M (k+1)).size=s
   ·by_cases ho:x'%s=0
    ·by_cases hf:(aG M (k+1)).bytes<=(x':Int)
     ·exact SB hb mb mo n aA B k x' s M w hB hpb hc hM hk (by omega) hs0 hs1 hd hs ho hf
     ·rw[if_pos ⟨by simp,hd,hs,by simp only;omega,by simp only;omega⟩]at hF;cases hF
    ·exact Sy hb mb mo n aA B k x' s M w hB hpb hc hM hk (by omega) hs0 hs1 hd hs ho
   ·exact PU hb mb mo n aA B k x' s M w hB hpb hc hM hk (by omega) hs0 hs1 hd hs
  ·exact PV hb mb mo n aA B k x' s M w hB hpb hc hM hk (by omega) hs0 hs1 (by simpa using hd)
theorem wU{M:List MO}{a:V}{s j:Nat}(h:sP M a s=some j):0<a.obj/\(aG M a.obj).live=true/\(aG M a.obj).size=s/\a.n%s=0/\a.n<(aG M a.obj).bytes/\j=a.n.toNat/s:=by
 unfold sP at h;split at h
 ·rename_i h1;simp only[Option.some.injEq]at h;exact⟨h1.1,h1.2.1,h1.2.2.1,h1.2.2.2.1,h1.2.2.2.2,h.symm⟩
 ·cases h
theorem wI(hb:Nat)(A:Option Addr)(n aA B s j:Nat)(a:V)(M:List MO)(w:World)(hB:B<=w.heap.size)(hpb:hb<w.heap.size)(hc:w.cell? ⟨hb,0,none⟩=some (.slice A n aA))(hM:bU w B A n M)(hk:a.obj<M.length)(hx:0<=a.n/\a.n<=512)(hs0:1<=s)(hs1:s<=8)(hF:sP M a s=some j):
  j<(aG M a.obj).l.length/\∃ob oo mb mo len cap',A=some ⟨mb,mo,none⟩/\w.cell? ⟨mb,mo+(a.obj-1)*3+1,none⟩=some (.slice (some ⟨ob,oo,none⟩) len cap')/\ob<B/\bJ w ob (oo+j*2) ((aG M a.obj).l.getD j ⟨0,0⟩)/\
  Calls prog 101 #[.pointer (some ⟨hb,0,none⟩),.agg #[.int .i64 a.obj,.int .i64 a.n],.int .i64 s] w λe w'=>e= .returned (.pointer (some ⟨ob,oo+j*2,none⟩))/\Below w.heap.size w w':=by
 obtain⟨hp,hd,hs,ho,hf,hj⟩:=wU hF;obtain⟨obj,x⟩:=a;rcases obj with _|k
 ·exact absurd hp (by simp)
 ·obtain⟨hx0,hx⟩:=hx;obtain⟨x',rfl⟩:=Int.eq_ofNat_of_zero_le hx0;simp only at hk hx hd hs ho hf hj;obtain⟨mb,mo,rfl,hmb,hkn,A',len,cap',c0,c1,c2,hll,hl2,hsa,Ey⟩:=hM.get hk;obtain⟨hlen,hrow⟩:=hll hd;have hlt:x'<s*len:=by
   have e:((s*len:Nat):Int)=(aG M (k+1)).bytes:=by unfold MO.bytes;rw[hs,hlen];simp
   rw[<-e]at hf;omega
  have hjl:=kK hlt;have hj':j=x'/s:=by rw[hj];simp
  have hjj:j<(aG M (k+1)).l.length:=by rw[hlen,hj'];exact hjl
  obtain⟨ob,oo,rfl,ja,hcell⟩:=hrow j _ (List.getElem?_eq_getElem hjj);refine⟨hjj,ob,oo,mb,mo,len,cap',rfl,c1,ja,?_,?_⟩
  ·have e:(aG M (k+1)).l.getD j ⟨0,0⟩=(aG M (k+1)).l[j]:=by rw[List.getD_eq_getElem?_getD,List.getElem?_eq_getElem hjj];rfl
   rw[e];exact hcell
  ·show Calls _ _ #[_,.agg #[.int .i64 ((k+1:Nat):Int),.int .i64 x'],_] w _;rw[Int.natCast_add,Int.natCast_one,hj'];exact Sw hb mb mo n aA B k x' s M w hB hpb hc hM hk (by omega) hs0 hs1 hd hs (by omega) (by omega) ob oo len cap' c1
def EH(op:Int):Int:=if op=5 then 31 else if op=6 then 32 else if op=7 then 33 else if op=9 then 34 else if op=10 then 35 else if op=11 then 36 else 0
theorem xL(op:Int)(w:World)(h0:5<=op)(h1:op<=11):
  Calls prog 110 #[.int .i64 op] w λe w'=>e= .returned (.tuple #[.int .i64 (gK op),.int .i64 (EH op)])/\w=w':=by
 rcases qo h0 h1 with rfl|rfl|rfl|rfl|rfl|rfl|rfl
 all_goals
  go_enter func110,ntmps110;go_wp2;go_ret2;exact⟨by simp[gK,EH],rfl⟩
theorem Kv{op n:Int}(h0:5<=op)(h1:op<=11)(h8:op≠8):31<=EH op/\EH op<=36/\CN (EH op) n=iZ op n:=by
 rcases qo h0 h1 with rfl|rfl|rfl|rfl|rfl|rfl|rfl
 all_goals first|(exact absurd rfl h8)|(simp[EH,CN,iZ,gK])
theorem Na(hb:Nat)(A:Option Addr)(n aA B:Nat)(op:Int)(a:V)(M:List MO)(w:World)(hB:B<=w.heap.size)(hpb:hb<w.heap.size)(hc:w.cell? ⟨hb,0,none⟩=some (.slice A n aA))(hM:bU w B A n M)(hN:eI M)(hk:a.obj≠0->a.obj<M.length)(hx:a.obj≠0->0<=a.n/\a.n<=512)(h0:5<=op)(h1:op<=11):
  Calls prog 103 #[.pointer (some ⟨hb,0,none⟩),.int .i64 op,.agg #[.int .i64 a.obj,.int .i64 a.n]] w λe w'=>cN (gZ M op a) e/\Below w.heap.size w w':=by
 cases hF:sP M a (gK op)with
 |none=>
  have hlf:gZ M op a=none:=by unfold gZ;rw[hF]
  rw[hlf];have HC:=ae (λW(aJ:Below w.heap.size w W)=>GR hb A n aA B (gK op) a M W (Nat.le_trans hB aJ.size) (fQ hpb aJ.size) (ag hc aJ hpb) (hM.below (aJ.mono hB) (aY _)) hk hx (fY op).1 (fY op).2 hF);clear hc hM hF hlf;go_enter func103,ntmps103;refine aj λQ HQ=>?_;go_wp2_with fail;refine(xL _ _ h0 h1).mono ?_;rintro e w' ⟨rfl,rfl⟩;go_wp2_with fail;refine(HC _ (aB _ _ _)).mono ?_;rintro e w2 ⟨rfl,hb2⟩;have bC:=ae ((aB w _ _).trans (hb2.mono (aB w _ _).size));have hr:=(Row.new' (w:=w.alloc (.cells #[.int .i64 a.obj,.int .i64 a.n] 75)) #[.int .i64 0,.int .i64 0] 75 (g:=w.heap.size+1) (by simp)).below hb2 (by simp);have r0:=hr.cell (j:=0) rfl;have r1:=hr.cell (j:=1) rfl;have f0:=hr.free 0;have f1:=hr.free 1
  clear hr;clear hb2;go_wp2_with fail;refine HQ _ _ _ ?_;refine aS (v:= .tuple #[.agg #[.int .i64 0,.int .i64 0],.bool false]) (by simp[results,results103,go_sem,r0,r1]) rfl ⟨⟨0,0,rfl⟩,?_⟩;exact(bC.setCell (by simp) _).setCell (by simp) _
 |some j=>
  have hp:=(wU hF).1;have hk':=hk (by omega);obtain⟨hjl,ob,oo,mb,mo,len,cap',rfl,hs1,ja,hv,_⟩:=wI hb A n aA B (gK op) j a M w hB hpb hc hM hk' (hx (by omega)) (fY op).1 (fY op).2 hF;have HC:=ae (λW(aJ:Below w.heap.size w W)=>by
   obtain⟨_,ob',oo',Fi,IW,len',cap'',hA,CX,_,_,hcall⟩:=wI hb _ n aA B (gK op) j a M W (Nat.le_trans hB aJ.size) (fQ hpb aJ.size) (ag hc aJ hpb) (hM.below (aJ.mono hB) (aY _)) hk' (hx (by omega)) (fY op).1 (fY op).2 hF;obtain⟨mb2,mo2,hA2,hmb2,_⟩:=hM.get (k:=a.obj-1) (by omega);simp only[Option.some.injEq,Addr.mk.injEq,and_true]at hA hA2;obtain⟨rfl,rfl⟩:=hA;obtain⟨rfl,rfl⟩:=hA2;rw[ag hs1 aJ (by omega)]at CX;simp only[Option.some.injEq,Value.slice.injEq,Addr.mk.injEq,and_true]at CX;obtain⟨⟨rfl,rfl⟩,rfl,rfl⟩:=CX;exact hcall)
  rw[MK hN h0 h1 hF hjl hk'];obtain⟨v,hve⟩:∃v,v=(aG M a.obj).l.getD j ⟨0,0⟩:=⟨_,rfl⟩
  rw[<-hve]at hv ⊢;have HV:=ae hv;have Sj:ob<w.heap.size:=by omega
  clear hc hM hF hve hs1 hv;have h8:op=8\/op≠8:=by omega
  rcases h8 with h8|h8
  ·rw[if_pos h8];have hfit:(EH op==0)=true:=by rw[h8];rfl
   have ZK:EH op=0:=by rw[h8];rfl
   clear ZK h8;go_enter func103,ntmps103;refine aj λQ HQ=>?_;go_wp2_with fail;refine(xL _ _ h0 h1).mono ?_;rintro e w' ⟨rfl,rfl⟩;go_wp2_with fail;refine(HC _ (aB _ _ _)).mono ?_;rintro e w2 ⟨rfl,hb2⟩;have bC:=ae ((aB w _ _).trans (hb2.mono (aB w _ _).size));have hr:=(Row.new' (w:=w.alloc (.cells #[.int .i64 a.obj,.int .i64 a.n] 75)) #[.int .i64 0,.int .i64 0] 75 (g:=w.heap.size+1) (by simp)).below hb2 (by simp);have HR:=ae hr;have v0:=ag HV.1 bC.out Sj;have v1:=ag HV.2 bC.out Sj;have r0:=hr.cell (j:=0) rfl;have r1:=hr.cell (j:=1) rfl;have f0:=hr.free 0;have f1:=hr.free 1;clear hr hb2;go_wp2_with fail;refine HQ _ _ _ ?_
   refine aS (v:= .tuple #[.agg #[.int .i64 v.obj,.int .i64 v.n],.bool true]) (by simp[results,results103,go_sem,r0,r1]) rfl ⟨rfl,?_⟩;exact(bC.setCell (by simp) _).setCell (by simp) _
  ·rw[if_neg h8];obtain⟨hf1,hf2,hf3⟩:=Kv (n:=v.n) h0 h1 h8;have hfit:(EH op==0)=false:=by simp;omega
   have uf:=ae hf3;clear hf3;go_enter func103,ntmps103;refine aj λQ HQ=>?_;go_wp2_with fail;refine(xL _ _ h0 h1).mono ?_;rintro e w' ⟨rfl,rfl⟩;go_wp2_with fail;refine(HC _ (aB _ _ _)).mono ?_;rintro e w2 ⟨rfl,hb2⟩;have bC:=ae ((aB w _ _).trans (hb2.mono (aB w _ _).size));have hr:=(Row.new' (w:=w.alloc (.cells #[.int .i64 a.obj,.int .i64 a.n] 75)) #[.int .i64 0,.int .i64 0] 75 (g:=w.heap.size+1) (by simp)).below hb2 (by simp);have HR:=ae hr;have v0:=ag HV.1 bC.out Sj;have v1:=ag HV.2 bC.out Sj;have r0:=hr.cell (j:=0) rfl;have r1:=hr.cell (j:=1) rfl;have f0:=hr.free 0;have f1:=hr.free 1;clear hr hb2;go_wp2_with fail;refine(GW _ _ _ hf1 hf2).mono ?_;rintro e w3 ⟨rfl,hb3⟩;rw[uf.out]
   have eO:=ae (bC.trans (hb3.mono bC.size));have hr:=HR.below hb3 HR.lt;clear r0 r1 f0 f1 v0 v1;have r0:=hr.cell (j:=0) rfl;have r1:=hr.cell (j:=1) rfl;have f0:=hr.free 0;have f1:=hr.free 1;clear hr hb3;go_wp2_with fail;refine HQ _ _ _ ?_;refine aS (v:= .tuple #[.agg #[.int .i64 0,.int .i64 (iZ op v.n)],.bool true]) (by simp[results,results103,go_sem,r0,r1]) rfl ⟨rfl,?_⟩;exact(eO.setCell (by simp) _).setCell (by simp) _
def iQ(ah:Int)(s:St)(inv outv:Value):Array Value:=#[.int .i64 s.kind,.int .i64 s.code,outv,.int .i64 s.steps,.int .i64 s.deep,.int .i64 ah,inv,.int .i64 s.calls]
def mU(cb:Nat)(ah:Int)(s:St)(inv outv:Value)(w w':World):Prop:=Row w' cb (iQ ah s inv outv) 62/\Wr (λb=>b=cb) w w'
theorem xD(cb:Nat)(ah:Int)(s:St)(inv outv:Value)(w:World)(hr:Row w cb (iQ ah s inv outv) 62):
  Calls prog 50 #[.pointer (some ⟨cb,0,none⟩)] w λe w'=>e= .returned (.bool false)/\mU cb ah {s with kind:=3} inv outv w w':=by
 have c0:w.cell? ⟨cb,0,none⟩=some (.int .i64 s.kind):=hr.cell rfl;have f0:=hr.free 0;have HR:=ae (hr.set 0 (.int .i64 3));clear hr;go_enter func50,ntmps50;go_wp2_with fail;go_ret;exact⟨rfl,HR.out,Wr.setCell w ⟨cb,0,none⟩ _ rfl⟩
theorem MN(cb:Nat)(ah:Int)(s:St)(inv outv:Value)(w:World)(hr:Row w cb (iQ ah s inv outv) 62)(h0:1<=s.calls)(h1:s.calls<=64):
  Calls prog 49 #[.pointer (some ⟨cb,0,none⟩)] w λe w'=>e= .returned (.tuple #[])/\mU cb ah {s with calls:=s.calls-1} inv outv w w':=by
 have c0:w.cell? ⟨cb,7,none⟩=some (.int .i64 s.calls):=hr.cell rfl;have f0:=hr.free 7;have HR:=ae (hr.set 7 (.int .i64 (s.calls-1)));clear hr;go_enter func49,ntmps49;go_wp2_with fail
 go_end0
 exact⟨rfl,HR.out,Wr.setCell w ⟨cb,7,none⟩ _ rfl⟩
theorem Al(cb:Nat)(ah n:Int)(s:St)(inv outv:Value)(w:World)(hr:Row w cb (iQ ah s inv outv) 62)(hk:s.kind=0)(hf:ah<=100000000)(h0:0<=s.steps)(h1:s.steps<=ah)(hn0:0<=n)(rT:n<=1000000):
  Calls prog 64 #[.pointer (some ⟨cb,0,none⟩),.int .i64 n] w λe w'=>e= .returned (.bool (aL ah n s).1)/\mU cb ah (aL ah n s).2 inv outv w w':=by
 have c0:w.cell? ⟨cb,0,none⟩=some (.int .i64 s.kind):=hr.cell rfl;have c3:w.cell? ⟨cb,3,none⟩=some (.int .i64 s.steps):=hr.cell rfl;have c5:w.cell? ⟨cb,5,none⟩=some (.int .i64 ah):=hr.cell rfl;have f0:=hr.free 0;have f3:=hr.free 3;have e:aL ah n s=if n>ah-s.steps then(false,{s with steps:=ah,kind:=2})else(true,{s with steps:=s.steps+n}):=by unfold aL;rw[if_pos hk]
 by_cases hgt:n>ah-s.steps
 ·rw[e,if_pos hgt];have hd:decide (ah-s.steps<n)=true:=by simpa using hgt
  have DX:=ae hr;clear hr e hk;go_enter func64,ntmps64;go_wp2_with fail;go_quiet (fail);go_wp2_with fail;go_ret;exact⟨rfl,((DX.below (below_drewN (aV _ _) _) DX.lt).set 3 (.int .i64 ah)).set 0 (.int .i64 2),((Wr.of_below (F:=λb=>b=cb) (below_drewN (aV _ _) _)).cJ cb 3 _ (aK rfl)).cJ cb 0 _ (aK rfl)⟩
 ·rw[e,if_neg hgt];have hd:decide (ah-s.steps<n)=false:=by simpa using hgt
  have DX:=ae hr;clear hr e hk;go_enter func64,ntmps64;go_wp2_with fail;go_quiet (fail);go_wp2_with fail;go_ret;exact⟨rfl,(DX.below (below_drewN (aV _ _) _) DX.lt).set 3 (.int .i64 (s.steps+n)),(Wr.of_below (F:=λb=>b=cb) (below_drewN (aV _ _) _)).cJ cb 3 _ (aK rfl)⟩
theorem KD(cb:Nat)(ah n:Int)(s:St)(inv outv:Value)(w:World)(hr:Row w cb (iQ ah s inv outv) 62)(h1:s.calls=64):
  Calls prog 45 #[.pointer (some ⟨cb,0,none⟩),.int .i64 n] w λe w'=>e= .returned (.bool false)/\mU cb ah {s with kind:=4} inv outv w w':=by
 have c7:w.cell? ⟨cb,7,none⟩=some (.int .i64 s.calls):=hr.cell rfl;have c0:w.cell? ⟨cb,0,none⟩=some (.int .i64 s.kind):=hr.cell rfl;have f0:=hr.free 0;rw[h1]at c7;have HR:=ae (hr.set 0 (.int .i64 4));clear hr h1;go_enter func45,ntmps45;go_wp2_with fail;go_ret;exact⟨rfl,HR.out,Wr.setCell w ⟨cb,0,none⟩ _ rfl⟩
theorem Nj(cb:Nat)(ah n:Int)(s:St)(inv outv:Value)(w:World)(hr:Row w cb (iQ ah s inv outv) 62)(hk:s.kind=0)(hc0:0<=s.calls)(hc1:s.calls<64)(hf:ah<=100000000)(h0:0<=s.steps)(h1:s.steps<=ah)(hn0:0<=n)(rT:n<=1000000):
  Calls prog 45 #[.pointer (some ⟨cb,0,none⟩),.int .i64 n] w λe w'=>e= .returned (.bool (aL ah n {s with calls:=s.calls+1,deep:=max s.deep (s.calls+1)}).1)/\mU cb ah (aL ah n {s with calls:=s.calls+1,deep:=max s.deep (s.calls+1)}).2 inv outv w w':=by
 have c7:w.cell? ⟨cb,7,none⟩=some (.int .i64 s.calls):=hr.cell rfl;have c4:w.cell? ⟨cb,4,none⟩=some (.int .i64 s.deep):=hr.cell rfl;have f7:=hr.free 7;have f4:=hr.free 4;have hd:(s.calls==64)=false:=by simp;omega
 have hm:(s.deep<s.calls+1/\max s.deep (s.calls+1)=s.calls+1)\/(¬s.deep<s.calls+1/\max s.deep (s.calls+1)=s.deep):=by omega
 rcases hm with⟨hm,hmax⟩|⟨hm,hmax⟩
 ·rw[hmax];clear hmax;have HR:=ae hr;have HK:=ae hk;clear hr hk;go_enter func45,ntmps45;refine aj λQ HQ=>?_;go_wp2_with fail;have QD:=ae (HR.set 7 (.int .i64 (s.calls+1)));obtain⟨W,hW⟩:∃W,W=w.setCell ⟨cb,7,none⟩ (.int .i64 (s.calls+1)):=⟨_,rfl⟩
  rw[<-hW]at QD ⊢;have HW:=ae hW;clear hW c7 c4 f7 f4;have c7:W.cell? ⟨cb,7,none⟩=some (.int .i64 (s.calls+1)):=QD.cell rfl;have c4:W.cell? ⟨cb,4,none⟩=some (.int .i64 s.deep):=QD.cell rfl;have f4:=QD.free 4;refine aX 14 (by kernel_rfl) (by kernel_rfl) ?_;simp only[List.take_succ_cons,List.take_zero,List.drop_succ_cons,List.drop_zero]
  repeat(go_big_quiet_step (fail))
  refine wpQuiet_nil ?_;go_wp2_with fail;have K2:=ae (QD.set 4 (.int .i64 (s.calls+1)));refine(Al cb ah n {s with calls:=s.calls+1,deep:=(s.calls+1)} inv outv _ K2.drew HK.out hf h0 h1 hn0 rT).mono ?_;rintro e w1 ⟨rfl,hrow,hwr⟩;have tZ:=ae hrow;have tN:=ae (((HW.out▸(Wr.setCell w ⟨cb,7,none⟩ _ rfl:Wr (λb=>b=cb) w (w.setCell ⟨cb,7,none⟩ (.int .i64 (s.calls+1))))):Wr (λb=>b=cb) w W).cJ cb 4 (.int .i64 (s.calls+1)) (aK rfl)|>.bR|>.trans hwr (λ_ h=>aK h));clear hrow hwr;obtain⟨q,hq⟩:∃q,q=aL ah n {s with calls:=s.calls+1,deep:=(s.calls+1)}:=⟨_,rfl⟩
  rw[<-hq]at tZ ⊢ HQ;clear hq;go_wp2_with fail;refine HQ _ _ _ ?_;exact aS (v:= .bool q.1) (by simp[results,results45,go_sem]) rfl ⟨rfl,tZ.out,tN.out⟩
 ·rw[hmax];clear hmax;have HR:=ae hr;have HK:=ae hk;clear hr hk;go_enter func45,ntmps45;refine aj λQ HQ=>?_;go_wp2_with fail;have QD:=ae (HR.set 7 (.int .i64 (s.calls+1)));obtain⟨W,hW⟩:∃W,W=w.setCell ⟨cb,7,none⟩ (.int .i64 (s.calls+1)):=⟨_,rfl⟩
  rw[<-hW]at QD ⊢;have HW:=ae hW;clear hW c7 c4 f7 f4;have c7:W.cell? ⟨cb,7,none⟩=some (.int .i64 (s.calls+1)):=QD.cell rfl;have c4:W.cell? ⟨cb,4,none⟩=some (.int .i64 s.deep):=QD.cell rfl;have f4:=QD.free 4;refine aX 14 (by kernel_rfl) (by kernel_rfl) ?_;simp only[List.take_succ_cons,List.take_zero,List.drop_succ_cons,List.drop_zero]
  repeat(go_big_quiet_step (fail))
  refine wpQuiet_nil ?_;go_wp2_with fail;have K2:=ae (QD.set 4 (.int .i64 s.deep));refine(Al cb ah n {s with calls:=s.calls+1,deep:=s.deep} inv outv _ K2.drew HK.out hf h0 h1 hn0 rT).mono ?_;rintro e w1 ⟨rfl,hrow,hwr⟩;have tZ:=ae hrow;have tN:=ae (((HW.out▸(Wr.setCell w ⟨cb,7,none⟩ _ rfl:Wr (λb=>b=cb) w (w.setCell ⟨cb,7,none⟩ (.int .i64 (s.calls+1))))):Wr (λb=>b=cb) w W).cJ cb 4 (.int .i64 s.deep) (aK rfl)|>.bR|>.trans hwr (λ_ h=>aK h));clear hrow hwr;obtain⟨q,hq⟩:∃q,q=aL ah n {s with calls:=s.calls+1,deep:=s.deep}:=⟨_,rfl⟩
  rw[<-hq]at tZ ⊢ HQ;clear hq;go_wp2_with fail;refine HQ _ _ _ ?_;exact aS (v:= .bool q.1) (by simp[results,results45,go_sem]) rfl ⟨rfl,tZ.out,tN.out⟩
theorem G0(cb:Nat)(ah:Int)(s:St)(inv outv:Value)(A:Option Addr)(n c:Nat)(w:World)(hr:Row w cb (iQ ah s inv outv) 62)(ho:outv= .slice A n c):
  Calls prog 29 #[.pointer (some ⟨cb,0,none⟩)] w λe w'=>e= .returned (if s.kind=3 then .agg #[.int .i64 3,.int .i64 0,.slice none 0 0,.int .i64 0,.int .i64 0]else .agg #[.int .i64 s.kind,.int .i64 s.code,outv,.int .i64 s.steps,.int .i64 s.deep])/\Below w.heap.size w w':=by
 subst ho;have c0:w.cell? ⟨cb,0,none⟩=some (.int .i64 s.kind):=hr.cell rfl;have c1:w.cell? ⟨cb,1,none⟩=some (.int .i64 s.code):=hr.cell rfl;have c2:w.cell? ⟨cb,2,none⟩=some (.slice A n c):=hr.cell rfl;have c3:w.cell? ⟨cb,3,none⟩=some (.int .i64 s.steps):=hr.cell rfl;have c4:w.cell? ⟨cb,4,none⟩=some (.int .i64 s.deep):=hr.cell rfl;have hlt:=hr.lt;clear hr;by_cases hk:s.kind=3
 ·rw[if_pos hk];have hd:(s.kind==3)=true:=by simpa using hk
  clear hk;go_enter func29,ntmps29;refine aj λQ HQ=>?_;go_wp2_with fail;refine HQ _ _ _ ?_;exact aS (v:= .agg #[.int .i64 3,.int .i64 0,.slice none 0 0,.int .i64 0,.int .i64 0]) (by simp[results,results29,go_sem]) rfl ⟨rfl,ax _ _⟩
 ·rw[if_neg hk];have hd:(s.kind==3)=false:=by simpa using hk
  clear hk;go_enter func29,ntmps29;refine aj λQ HQ=>?_;go_wp2_with fail;refine HQ _ _ _ ?_;exact aS (v:= .agg #[.int .i64 s.kind,.int .i64 s.code,.slice A n c,.int .i64 s.steps,.int .i64 s.deep]) (by simp[results,results29,go_sem]) rfl ⟨rfl,ax _ _⟩
theorem Kw(cb:Nat)(ah:Int)(s:St)(inv outv:Value)(v:V)(w:World)(hr:Row w cb (iQ ah s inv outv) 62)(hv:v.obj≠0):
  Calls prog 28 #[.pointer (some ⟨cb,0,none⟩),.agg #[.int .i64 v.obj,.int .i64 v.n]] w λe w'=>e= .returned (.bool false)/\mU cb ah {s with kind:=3} inv outv w w':=by
 have hd2:decide ((0:Int)<(v.obj:Int))=true:=by simp;omega
 have hd3:decide (0<v.obj)=true:=by simp;omega
 have HR:=ae (hr.alloc (.cells #[.int .i64 v.obj,.int .i64 v.n] 75));clear hr hv;go_enter func28,ntmps28;refine aj λQ HQ=>?_;go_wp2_with fail;refine(xD cb ah s inv outv _ HR.out).mono ?_;rintro e w1 ⟨rfl,hrow,hwr⟩;have tZ:=ae hrow;have tN:=ae (((Wr.refl (λb=>b=cb) w).bH (.cells #[.int .i64 v.obj,.int .i64 v.n] 75)).trans hwr (λ_ h=>aK h));clear hrow hwr;go_wp2_with fail;refine HQ _ _ _ ?_;exact aS (v:= .bool false) (by simp[results,results28,go_sem]) rfl ⟨rfl,tZ.out,tN.out⟩
theorem Ms(cb:Nat)(ah:Int)(s:St)(inv outv:Value)(v:V)(w:World)(hr:Row w cb (iQ ah s inv outv) 62)(hv:v.obj≠0):
  Calls prog 83 #[.pointer (some ⟨cb,0,none⟩),.agg #[.int .i64 v.obj,.int .i64 v.n]] w λe w'=>e= .returned (.bool false)/\mU cb ah {s with kind:=3} inv outv w w':=by
 have hd2:decide ((0:Int)<(v.obj:Int))=true:=by simp;omega
 have hd3:decide (0<v.obj)=true:=by simp;omega
 have HR:=ae (hr.alloc (.cells #[.int .i64 v.obj,.int .i64 v.n] 75));clear hr hv;go_enter func83,ntmps83;refine aj λQ HQ=>?_;go_wp2_with fail;refine(xD cb ah s inv outv _ HR.out).mono ?_;rintro e w1 ⟨rfl,hrow,hwr⟩;have tZ:=ae hrow;have tN:=ae (((Wr.refl (λb=>b=cb) w).bH (.cells #[.int .i64 v.obj,.int .i64 v.n] 75)).trans hwr (λ_ h=>aK h));clear hrow hwr;go_wp2_with fail;refine HQ _ _ _ ?_;exact aS (v:= .bool false) (by simp[results,results83,go_sem]) rfl ⟨rfl,tZ.out,tN.out⟩
theorem Qd(cb:Nat)(ah:Int)(s:St)(inv outv:Value)(v:V)(w:World)(hr:Row w cb (iQ ah s inv outv) 62)(hv:v.obj=0):
  Calls prog 28 #[.pointer (some ⟨cb,0,none⟩),.agg #[.int .i64 v.obj,.int .i64 v.n]] w λe w'=>e= .returned (.bool false)/\mU cb ah {s with kind:=1,code:=v.n} inv outv w w':=by
 have hd2:decide ((0:Int)<(v.obj:Int))=false:=by simp;omega
 have hd3:decide (0<v.obj)=false:=by simp;omega
 have c0:w.cell? ⟨cb,0,none⟩=some (.int .i64 s.kind):=hr.cell rfl;have c1:w.cell? ⟨cb,1,none⟩=some (.int .i64 s.code):=hr.cell rfl;have f0:=hr.free 0;have f1:=hr.free 1;have hlt:=hr.lt;have hlt2:cb<w.heap.size+1:=by omega
 have hne:cb≠w.heap.size:=by omega
 have HR:=ae hr;clear hr hv;go_enter func28,ntmps28;refine aj λQ HQ=>?_;go_wp2_with fail;go_region_held3 (λw'=>w'.cell? ⟨w.heap.size,1,none⟩=some (.int .i64 v.n)) (first|(simp[go_sem,hne,Ne.symm hne];done)|go_keep) (fail);go_wp2_with fail;refine HQ _ _ _ ?_;refine aS (v:= .bool false) (by simp[results,results28,go_sem]) rfl ⟨rfl,?_,?_⟩
 ·first
  |exact(((HR.set 0 (.int .i64 1)).alloc _).set 1 (.int .i64 v.n)).drew
  |exact(((HR.set 0 (.int .i64 1)).set 1 (.int .i64 v.n)).alloc _).drew
 ·first
  |exact((((Wr.refl (λb=>b=cb) w).cJ cb 0 _ (aK rfl)).bH _).cJ cb 1 _ (aK rfl)).bR
  |exact((((Wr.refl (λb=>b=cb) w).cJ cb 0 _ (aK rfl)).cJ cb 1 _ (aK rfl)).bH _).bR
def vk(xs:List Value)(rb:Nat->Nat)(k:Nat)(o:MO):Prop:=
 xs[k*3]? =some (.int .i64 o.size)/\xs[k*3+1]? =some (if o.live=true then .slice (some ⟨rb k,0,none⟩) o.l.length o.l.length else .slice none 0 0)/\xs[k*3+2]? =some (.bool (!o.live))
structure jq (w:World) (ai:Nat) (own:Nat->Prop) (aU:Value) (rb:Nat->Nat) (M:List MO):Prop where
 row:∃xs,w.ownsRow ai 128 3 aU M.tail.length xs/\∀k o,M.tail[k]? =some o->vk xs rb k o
 mine:∀k o,M.tail[k]? =some o->own (rb k)/\iG w (rb k) o.l
 inj:∀i j,i<M.tail.length->j<M.tail.length->rb i=rb j->i=j
 ok:cQ M
 num:eI M
structure HC (w:World) (ai:Nat) (own:Nat->Prop) (cb hb:Nat) (ah:Int) (s:St) (inv outv aU:Value) (rb:Nat->Nat):Prop where
 clk:Row w cb (iQ ah s inv outv) 62
 heap:Row w hb #[aU] 66
 En:own cb
 RM:own hb
 inp:uB w ai inv s.inp
 out:w.ownsRow ai 2 1 outv s.out.length (s.out.map (Value.int .i64))
 sI:∀g,outv.ownBlock=some g->own g
 mem:jq w ai own aU rb (au s.mem)
 memo:∀g,aU.ownBlock=some g->own g
 own:∀k,own k->ai<=k/\k<w.heap.size
def iH(w:World)(ai:Nat)(own:Nat->Prop)(cb hb:Nat)(ah:Int)(s:St):Prop:=∃inv outv aU rb,HC w ai own cb hb ah s inv outv aU rb
theorem jq.wr{w w':World}{ai:Nat}{own F:Nat->Prop}{aU:Value}{rb:Nat->Nat}{M:List MO}(h:jq w ai own aU rb M)(hw:Wr F w w')
  (zx:∀g,aU.ownBlock=some g->¬F g)(hF2:∀k,k<M.tail.length->¬F (rb k)):jq w' ai own aU rb M:=by
 obtain⟨⟨xs,hx,qO⟩,hm,hi,hk,hn⟩:=h;refine⟨⟨xs,aF hx hw zx,qO⟩,λk o ho=>?_,hi,hk,hn⟩;obtain⟨h2,cs,hr,hv⟩:=hm k o ho;have hlt:k<M.tail.length:=by
  rcases Nat.lt_or_ge k M.tail.length with h|h
  ·exact h
  ·rw[List.getElem?_eq_none h]at ho;cases ho
 exact⟨h2,cs,hr.wr hw (hF2 k hlt),hv⟩
theorem jq.get{w:World}{ai:Nat}{own:Nat->Prop}{aU:Value}{rb:Nat->Nat}{M:List MO}(h:jq w ai own aU rb M){k:Nat}(hk:k<M.tail.length):
  own (rb k)/\∃cs,Row w (rb k) cs 75:=by
 obtain⟨h1,cs,h2,_⟩:=h.mine k _ (List.getElem?_eq_getElem hk);exact⟨h1,cs,h2⟩
theorem HC.wr{w w':World}{ai:Nat}{own F:Nat->Prop}{cb hb:Nat}{ah:Int}{s:St}{inv outv aU:Value}{rb:Nat->Nat}(h:HC w ai own cb hb ah s inv outv aU rb)(hw:Wr F w w')(hF:∀k,F k->ai<=k/\¬own k):HC w' ai own cb hb ah s inv outv aU rb:=by
 have hb:=h.own cb h.En;refine⟨h.clk.wr hw (λhf=>(hF _ hf).2 h.En),h.heap.wr hw (λhf=>(hF _ hf).2 h.RM),h.En,h.RM,h.inp.below (λb o hb'=>?_),aF h.out hw (λg hg hf=>(hF g hf).2 (h.sI g hg)),h.sI,h.mem.wr hw (λg hg hf=>(hF g hf).2 (h.memo g hg)) (λk hk hf=>(hF _ hf).2 (h.mem.get hk).1),h.memo,λk hk=>⟨(h.own k hk).1,fQ (h.own k hk).2 hw.size⟩⟩;exact World.cell?_of_block (a:=⟨b,o,none⟩) (hw.block b (by omega) (λhf=>by have:=(hF b hf).1;omega))
theorem iH.wr{w w':World}{ai:Nat}{own F:Nat->Prop}{cb hb:Nat}{ah:Int}{s:St}(h:iH w ai own cb hb ah s)(hw:Wr F w w')(hF:∀k,F k->ai<=k/\¬own k):iH w' ai own cb hb ah s:=by
 obtain⟨a,b,c,d,h⟩:=h;exact⟨a,b,c,d,h.wr hw hF⟩
theorem iH.below{w w':World}{ai:Nat}{own:Nat->Prop}{cb hb:Nat}{ah:Int}{s:St}(h:iH w ai own cb hb ah s)(hw:Below w.heap.size w w'):iH w' ai own cb hb ah s:=
 h.wr (F:=λ_=>False) (Wr.of_below hw) (λ_ h=>h.elim)
theorem iH.blocks{w:World}{ai:Nat}{own:Nat->Prop}{cb hb:Nat}{ah:Int}{s:St}(h:iH w ai own cb hb ah s):own cb/\own hb/\∀k,own k->ai<=k/\k<w.heap.size:=by
 obtain⟨a,b,c,d,h⟩:=h;exact⟨h.En,h.RM,h.own⟩
theorem HC.clock{w w':World}{ai:Nat}{own:Nat->Prop}{cb hb:Nat}{ah:Int}{s s':St}{inv outv aU:Value}{rb:Nat->Nat}(h:HC w ai own cb hb ah s inv outv aU rb)(hs:mU cb ah s' inv outv w w')(h1:s'.inp=s.inp)(h2:s'.out=s.out)(h3:s'.mem=s.mem):
  HC w' ai own cb hb ah s' inv outv aU rb:=by
 obtain⟨hr,hw⟩:=hs;have gX:=h.own cb h.En;have hne:∀g cs t,Row w g cs t->t≠62->¬g=cb:=λg cs t hr' ht e=>by subst e;exact hr'.ne h.clk ht rfl
 refine⟨hr,h.heap.wr hw (hne _ _ _ h.heap (by decide)),h.En,h.RM,?_,?_,h.sI,?_,h.memo,λk hk=>⟨(h.own k hk).1,fQ (h.own k hk).2 hw.size⟩⟩
 ·rw[h1];exact h.inp.below (λb o hb'=>World.cell?_of_block (a:=⟨b,o,none⟩) (hw.block b (by omega) (λhf=>by omega)))
 ·rw[h2];refine aF h.out hw (λg hg=>?_);obtain⟨_,cs,hr'⟩:=aC h.out hg;exact hne g cs _ hr' (by decide)
 ·rw[h3];refine h.mem.wr hw (λg hg=>?_) (λk hk=>?_)
  ·obtain⟨⟨xs,hx,_⟩,_⟩:=h.mem;obtain⟨_,cs,hr'⟩:=aC hx hg;exact hne g cs _ hr' (by decide)
  ·obtain⟨_,cs,hr'⟩:=h.mem.get hk;exact hne _ cs _ hr' (by decide)
theorem jq.Tq{w:World}{ai:Nat}{own:Nat->Prop}{aU:Value}{rb:Nat->Nat}{M:List MO}(h:jq w ai own aU rb M):
  ∃A aA,aU= .slice A M.tail.length aA/\bU w w.heap.size A M.tail.length M:=by
 obtain⟨⟨xs,hx,qO⟩,su,_,hok,_⟩:=h;obtain⟨hxl,hx2⟩:=id hx;have jk:=hok.many;have htl:M.length<=M.tail.length+1:=by rw[List.length_tail];omega
 have htl2:M.tail.length<=M.length:=by rw[List.length_tail];omega
 rcases hx2 with⟨rfl,h0⟩|⟨g,aA,cur,rfl,_,hg,hcap,_,_,htake⟩
 ·refine⟨none,0,by rw[h0],htl,by omega,λk o hk=>?_⟩;rw[<-List.getElem?_tail,List.getElem?_eq_none (by omega)]at hk;cases hk
 ·refine⟨some ⟨g,0,none⟩,aA,rfl,htl,by omega,λk o hk=>⟨g,0,rfl,Row.lt hg,?_⟩⟩;have hk':M.tail[k]? =some o:=by rw[List.getElem?_tail];exact hk
  have hkl:k<M.tail.length:=by
   rcases Nat.lt_or_ge k M.tail.length with h|h
   ·exact h
   ·rw[List.getElem?_eq_none h]at hk';cases hk'
  refine⟨hkl,?_⟩;have hcell:∀j u,xs[j]? =some u->w.cell? ⟨g,0+j,none⟩=some u:=by
   intro j u hj;have:=hx.cells (g:=g) rfl j u hj;rw[wY]at this;simpa using this
  obtain⟨h0,h1,h2⟩:=qO k o hk';obtain⟨hs1,hs2⟩:=hok.size (k+1) o (by omega) hk;obtain⟨_,cs,hrow,gT⟩:=su k o hk';by_cases hl:o.live=true
  ·rw[if_pos hl]at h1;exact⟨_,_,_,hcell _ _ h0,hcell _ _ h1,hcell _ _ h2,λ_=>⟨rfl,λj v hj=>⟨rb k,0,rfl,hrow.lt,by rw[Nat.zero_add];exact⟨hrow.cell (gT.2 j v hj).1,hrow.cell (gT.2 j v hj).2⟩⟩⟩,hs2,by omega,by omega⟩
  ·rw[if_neg hl]at h1;exact⟨_,_,_,hcell _ _ h0,hcell _ _ h1,hcell _ _ h2,λh=>absurd h hl,by omega,by omega,by omega⟩
theorem jq.RN{w:World}{ai:Nat}{own:Nat->Prop}{A:Option Addr}{n aA:Nat}{rb:Nat->Nat}{M:List MO}(h:jq w ai own (.slice A n aA) rb M){k:Nat}(hk:k<M.tail.length)(hl:(aG M (k+1)).live=true):
  ∃g,A=some ⟨g,0,none⟩/\w.cell? ⟨g,k*3+1,none⟩=some (.slice (some ⟨rb k,0,none⟩) (aG M (k+1)).l.length (aG M (k+1)).l.length):=by
 obtain⟨⟨xs,hx,qO⟩,_⟩:=h;obtain⟨hxl,hx2⟩:=id hx;rcases hx2 with⟨e,h0⟩|⟨g,cap',cur,e,_,hg,_⟩
 ·omega
 ·injection e with e1 e2 e3;subst e1;have hget:M.tail[k]? =some (aG M (k+1)):=by rw[List.getElem?_tail];exact qj (by rw[List.length_tail]at hk;omega)
  obtain⟨_,h1,_⟩:=qO k _ hget;rw[if_pos hl]at h1;have:=hx.cells (g:=g) rfl (k*3+1) _ h1;rw[wY]at this;exact⟨g,rfl,by simpa using this⟩
theorem Ha(s:Nat)(n:Int)(w:World)(hs:s=1\/s=2\/s=4\/s=8)(hn:In64 n):
  Calls prog 63 #[.int .i64 s,.int .i64 n] w λe w'=>e= .returned (.int .i64 (eA s n))/\w=w':=by
 rcases hs with rfl|rfl|rfl|rfl
 all_goals
  go_enter func63,ntmps63;go_wp2;go_ret;refine⟨kZ ?_,rfl⟩;unfold In64 at hn;simp[eA,kz,wrap64];omega
end Go.Proofs.YtinmgbodgecoeaaGreat
