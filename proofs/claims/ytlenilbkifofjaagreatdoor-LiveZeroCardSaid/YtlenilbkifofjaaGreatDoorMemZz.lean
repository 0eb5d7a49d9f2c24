/- The page's memory: how it lies, and the walks of its reading functions. Conditions: as stated. -/
import Derived.Test.YtlenilbkifofjaaGreatDoorQ01Zz
set_option linter.unusedVariables false
set_option linter.unusedSimpArgs false
set_option maxHeartbeats 8000000
namespace Go.Proofs.YtlenilbkifofjaaGreatDoor
open Go.RowKit
def ValCells(w:World)(b off:Nat)(v:V):Prop:=w.cell? ⟨b,off,none⟩=some (.int .i64 v.obj)∧w.cell? ⟨b,off+1,none⟩=some (.int .i64 v.n)
def RowV(w:World)(B:Nat)(A:Option Addr)(l:List V):Prop:=
 ∀j v,l[j]? =some v→∃b off,A=some ⟨b,off,none⟩∧b<B∧ValCells w b (off+j*2) v
def ObjR(w:World)(B mb mo k:Nat)(o:MO):Prop:=
 ∃A len cap,w.cell? ⟨mb,mo+k*3,none⟩=some (.int .i64 o.size)∧w.cell? ⟨mb,mo+k*3+1,none⟩=some (.slice A len cap)∧w.cell? ⟨mb,mo+k*3+2,none⟩=some (.bool o.live)∧
  o.l.length=len∧len≤64∧0≤o.size∧o.size≤8∧RowV w B A o.l
def MemR(w:World)(B:Nat)(A:Option Addr)(n:Nat)(M:List MO):Prop:=
 M.length=n∧n≤4294967296∧∀k o,M[k]? =some o→∃mb mo,A=some ⟨mb,mo,none⟩∧mb<B∧ObjR w B mb mo k o
theorem mget_of{M:List MO}{k:Nat}(h:k<M.length):M[k]? =some (mget M k):=by
 unfold mget;rw[List.getD_eq_getElem?_getD,List.getElem?_eq_getElem h];rfl
theorem MemR.get{w:World}{B n:Nat}{A:Option Addr}{M:List MO}(h:MemR w B A n M){k:Nat}(hk:k<n):
  ∃mb mo,A=some ⟨mb,mo,none⟩∧mb<B∧ObjR w B mb mo k (mget M k):=
 h.2.2 k _ (mget_of (by rw[h.1];exact hk))
theorem MO.bytes_bd{o:MO}(h0:0≤o.size)(h1:o.size≤8)(h2:o.l.length≤64):0≤o.bytes∧o.bytes≤512:=by
 unfold MO.bytes;constructor
 ·exact Int.mul_nonneg h0 (by omega)
 ·have h3:o.size*(o.l.length:Int)≤8*(o.l.length:Int):=Int.mul_le_mul_of_nonneg_right h1 (by omega);omega
theorem bytes_any(pb po:Nat)(A:Option Addr)(n cap k B:Nat)(M:List MO)(w:World)(hc:w.cell? ⟨pb,po,none⟩=some (.slice A n cap))(hM:MemR w B A n M)(hk:k<n):
  Calls Tryz.prog 89 #[.pointer (some ⟨pb,po,none⟩),.int .i64 k] w fun e w'=>e= .returned (.int .i64 (mget M k).bytes)∧∃m,w'=w.drewN m:=by
 obtain⟨mb,mo,rfl,_,A',len,cap',c0,c1,_,hl,hl2,hs0,hs1,_⟩:=hM.get hk;have hn:=hM.2.1;have hb:=MO.bytes_bd hs0 hs1 (by omega:(mget M k).l.length≤64);have hbd:(mget M k).size*(len:Int)=(mget M k).bytes:=by unfold MO.bytes;rw[hl]
 have HB:=Lib.hid hbd;have hlo:-9223372036854775808≤(mget M k).size*(len:Int)∧(mget M k).size*(len:Int)≤9223372036854775807:=by rw[hbd];omega
 obtain⟨hlo1,hlo2⟩:=hlo;have hk0:(0:Int)≤(k:Int):=by omega
 have hk1:(k:Int)<(n:Int):=by omega
 clear hM hbd hl hb;go_enter Tryz.func89,Tryz.ntmps89;go_wp2_with fail;go_quiet (fail);go_wp2_with fail;go_ret;exact⟨ret_i HB.out,_,rfl⟩
theorem ValCells.below{w w':World}{B b off:Nat}{v:V}(h:ValCells w b off v)(hb:Below B w w')(hlt:b<B):ValCells w' b off v:=
 ⟨(hb.cell (p:=⟨b,off,none⟩) hlt).trans h.1,(hb.cell (p:=⟨b,off+1,none⟩) hlt).trans h.2⟩
theorem RowV.below{w w':World}{B B':Nat}{A:Option Addr}{l:List V}(h:RowV w B A l)(hb:Below B w w')(hB:B≤B'):RowV w' B' A l:=by
 intro j v hj;obtain⟨b,off,hA,hlt,hc⟩:=h j v hj;exact⟨b,off,hA,by omega,hc.below hb hlt⟩
theorem MemR.below{w w':World}{B B' n:Nat}{A:Option Addr}{M:List MO}(h:MemR w B A n M)(hb:Below B w w')(hB:B≤B'):MemR w' B' A n M:=by
 refine⟨h.1,h.2.1,fun k o hk=>?_⟩;obtain⟨mb,mo,hA,hlt,A',len,cap,c0,c1,c2,h1,h2,h3,h4,h5⟩:=h.2.2 k o hk;exact⟨mb,mo,hA,by omega,A',len,cap,(hb.cell (p:=⟨mb,mo+k*3,none⟩) hlt).trans c0,(hb.cell (p:=⟨mb,mo+k*3+1,none⟩) hlt).trans c1,(hb.cell (p:=⟨mb,mo+k*3+2,none⟩) hlt).trans c2,h1,h2,h3,h4,h5.below hb hB⟩
theorem moved_dead(pb po:Nat)(A:Option Addr)(n cap k B:Nat)(x m:Int)(M:List MO)(w:World)(hB:B≤w.heap.size)(hpb:pb<w.heap.size)(hc:w.cell? ⟨pb,po,none⟩=some (.slice A n cap))(hM:MemR w B A n M)(hk:k<n)(hd:(mget M k).live=false):
  Calls Tryz.prog 72 #[.pointer (some ⟨pb,po,none⟩),.agg #[.int .i64 k,.int .i64 x],.int .i64 m] w fun e w'=>e= .returned (.tuple #[.agg #[.int .i64 0,.int .i64 0],.bool false])∧Below w.heap.size w w':=by
 obtain⟨mb,mo,rfl,hmb',A',len,cap',c0,c1,c2,hl,hl2,hs0,hs1,_⟩:=hM.get hk;have hmb:mb<w.heap.size:=by omega
 rw[hd]at c2;have hk0:(0:Int)≤(k:Int):=by omega
 have hk1:(k:Int)<(n:Int):=by omega
 have hn:=hM.2.1;clear hM hd hl;go_enter Tryz.func72,Tryz.ntmps72;go_wp2_with fail;go_quiet (fail);go_wp2_with fail;refine bodyPost_ret (v:= .tuple #[.agg #[.int .i64 0,.int .i64 0],.bool false]) ?_ rfl ⟨rfl,?_⟩
 ·simp[results,Tryz.results72,go_sem]
 ·exact((below_drewN (below2 _ _ _) _).setCell (by simp) _).setCell (by simp) _
theorem moved_low(pb po:Nat)(A:Option Addr)(n cap k B:Nat)(x m:Int)(M:List MO)(w:World)(hB:B≤w.heap.size)(hpb:pb<w.heap.size)(hc:w.cell? ⟨pb,po,none⟩=some (.slice A n cap))(hM:MemR w B A n M)(hk:k<n)(hd:(mget M k).live=true)
  (hx0:0≤x)(hx1:x≤512)(hm:m< -x):
  Calls Tryz.prog 72 #[.pointer (some ⟨pb,po,none⟩),.agg #[.int .i64 k,.int .i64 x],.int .i64 m] w fun e w'=>e= .returned (.tuple #[.agg #[.int .i64 0,.int .i64 0],.bool false])∧Below w.heap.size w w':=by
 obtain⟨mb,mo,rfl,hmb',A',len,cap',c0,c1,c2,hl,hl2,hs0,hs1,_⟩:=hM.get hk;have hmb:mb<w.heap.size:=by omega
 rw[hd]at c2;have hk0:(0:Int)≤(k:Int):=by omega
 have hk1:(k:Int)<(n:Int):=by omega
 have hn:=hM.2.1;have hm':decide (m< -x)=true:=by simpa using hm
 clear hM hd hl;go_enter Tryz.func72,Tryz.ntmps72;go_wp2_with fail;go_quiet (fail);go_wp2_with fail;refine bodyPost_ret (v:= .tuple #[.agg #[.int .i64 0,.int .i64 0],.bool false]) ?_ rfl ⟨rfl,?_⟩
 ·simp[results,Tryz.results72,go_sem]
 ·exact((below_drewN (below2 _ _ _) _).setCell (by simp) _).setCell (by simp) _
theorem moved_high(pb po:Nat)(A:Option Addr)(n cap k B:Nat)(x m:Int)(M:List MO)(w:World)(hB:B≤w.heap.size)(hpb:pb<w.heap.size)(hc:w.cell? ⟨pb,po,none⟩=some (.slice A n cap))(hM:MemR w B A n M)(hk:k<n)(hd:(mget M k).live=true)
  (hx0:0≤x)(hx1:x≤512)(hm:¬m< -x)(hh:(mget M k).bytes-x<m):
  Calls Tryz.prog 72 #[.pointer (some ⟨pb,po,none⟩),.agg #[.int .i64 k,.int .i64 x],.int .i64 m] w fun e w'=>e= .returned (.tuple #[.agg #[.int .i64 0,.int .i64 0],.bool false])∧Below w.heap.size w w':=by
 obtain⟨mb,mo,rfl,hmb',A',len,cap',c0,c1,c2,hl,hl2,hs0,hs1,_⟩:=hM.get hk;have hmb:mb<w.heap.size:=by omega
 have hbb:=MO.bytes_bd hs0 hs1 (by omega:(mget M k).l.length≤64);rw[hd]at c2;have hk0:(0:Int)≤(k:Int):=by omega
 have hk1:(k:Int)<(n:Int):=by omega
 have hn:=hM.2.1;have hm':decide (m< -x)=false:=by simpa using hm
 have hh':decide ((mget M k).bytes-x<m)=true:=by simpa using hh
 have HM:=Lib.hid hM;have HC:=Lib.hid hc;obtain⟨hb0,hb1⟩:=hbb;clear hM hd hl;go_enter Tryz.func72,Tryz.ntmps72;go_wp2_with fail;go_quiet ((go_at_call 89;exact Calls.quiet_of (bytes_any pb po _ n cap k w.heap.size M _ (cell_below HC.out (below_drewN (below2 _ _ _) _) hpb) ((HM.out).below (below_drewN ((below2 _ _ _).mono hB) _) hB) hk)));go_wp2_with fail;refine bodyPost_ret (v:= .tuple #[.agg #[.int .i64 0,.int .i64 0],.bool false]) ?_ rfl ⟨rfl,?_⟩
 ·simp[results,Tryz.results72,go_sem]
 ·exact((below_drewN (below2 _ _ _) _).setCell (by simp) _).setCell (by simp) _
theorem moved_yes(pb po:Nat)(A:Option Addr)(n cap k B:Nat)(x m:Int)(M:List MO)(w:World)(hB:B≤w.heap.size)(hpb:pb<w.heap.size)(hc:w.cell? ⟨pb,po,none⟩=some (.slice A n cap))(hM:MemR w B A n M)(hk:k<n)(hd:(mget M k).live=true)
  (hx0:0≤x)(hx1:x≤512)(hm:¬m< -x)(hh:¬(mget M k).bytes-x<m):
  Calls Tryz.prog 72 #[.pointer (some ⟨pb,po,none⟩),.agg #[.int .i64 k,.int .i64 x],.int .i64 m] w fun e w'=>e= .returned (.tuple #[.agg #[.int .i64 k,.int .i64 (x+m)],.bool true])∧Below w.heap.size w w':=by
 obtain⟨mb,mo,rfl,hmb',A',len,cap',c0,c1,c2,hl,hl2,hs0,hs1,_⟩:=hM.get hk;have hmb:mb<w.heap.size:=by omega
 have hbb:=MO.bytes_bd hs0 hs1 (by omega:(mget M k).l.length≤64);rw[hd]at c2;have hk0:(0:Int)≤(k:Int):=by omega
 have hk1:(k:Int)<(n:Int):=by omega
 have hn:=hM.2.1;have hm':decide (m< -x)=false:=by simpa using hm
 have hh':decide ((mget M k).bytes-x<m)=false:=by simpa using hh
 have HM:=Lib.hid hM;have HC:=Lib.hid hc;obtain⟨hb0,hb1⟩:=hbb;clear hM hd hl;go_enter Tryz.func72,Tryz.ntmps72;go_wp2_with fail;go_quiet ((go_at_call 89;exact Calls.quiet_of (bytes_any pb po _ n cap k w.heap.size M _ (cell_below HC.out (below_drewN (below2 _ _ _) _) hpb) ((HM.out).below (below_drewN ((below2 _ _ _).mono hB) _) hB) hk)));go_wp2_with fail;refine bodyPost_ret (v:= .tuple #[.agg #[.int .i64 k,.int .i64 (x+m)],.bool true]) ?_ rfl ⟨rfl,?_⟩
 ·simp[results,Tryz.results72,go_sem]
 ·exact((below_drewN (below2 _ _ _) _).setCell (by simp) _).setCell (by simp) _
def ansV:Option V→Value
 |some v=> .tuple #[.agg #[.int .i64 v.obj,.int .i64 v.n],.bool true]
 |none=> .tuple #[.agg #[.int .i64 0,.int .i64 0],.bool false]
theorem moved_any(pb po:Nat)(A:Option Addr)(n cap B:Nat)(a:V)(m:Int)(M:List MO)(w:World)(hB:B≤w.heap.size)(hpb:pb<w.heap.size)(hc:w.cell? ⟨pb,po,none⟩=some (.slice A n cap))(hM:MemR w B A n M)(hk:a.obj<n)
  (hx0:0≤a.n)(hx1:a.n≤512):
  Calls Tryz.prog 72 #[.pointer (some ⟨pb,po,none⟩),.agg #[.int .i64 a.obj,.int .i64 a.n],.int .i64 m] w fun e w'=>e= .returned (ansV (movedF M a m))∧Below w.heap.size w w':=by
 unfold movedF;by_cases hd:(mget M a.obj).live=true
 ·by_cases hm:m< -a.n
  ·rw[if_neg (by simp[hm])];exact moved_low pb po A n cap a.obj B a.n m M w hB hpb hc hM hk hd hx0 hx1 hm
  ·by_cases hh:(mget M a.obj).bytes-a.n<m
   ·rw[if_neg (by simp[hm,hh])];exact moved_high pb po A n cap a.obj B a.n m M w hB hpb hc hM hk hd hx0 hx1 hm hh
   ·rw[if_pos ⟨hd,hm,hh⟩];exact moved_yes pb po A n cap a.obj B a.n m M w hB hpb hc hM hk hd hx0 hx1 hm hh
 ·rw[if_neg (by simp[hd])];exact moved_dead pb po A n cap a.obj B a.n m M w hB hpb hc hM hk (by simpa using hd)
end Go.Proofs.YtlenilbkifofjaaGreatDoor
