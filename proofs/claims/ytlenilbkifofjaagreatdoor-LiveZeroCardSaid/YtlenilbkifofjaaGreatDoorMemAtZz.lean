/- The page's memory: an element's place. Conditions: as stated. -/
import Derived.Test.YtlenilbkifofjaaGreatDoorMemZz
set_option linter.unusedVariables false
set_option linter.unusedSimpArgs false
set_option maxHeartbeats 8000000
namespace Go.Proofs.YtlenilbkifofjaaGreatDoor
open Go.RowKit
theorem at_zero(pb po s:Nat)(x:Int)(w:World):
  Calls Tryz.prog 76 #[.pointer (some ⟨pb,po,none⟩),.agg #[.int .i64 0,.int .i64 x],.int .i64 s] w fun e w'=>e= .returned (.tuple #[.pointer none,.bool false])∧Below w.heap.size w w':=by
 go_enter Tryz.func76,Tryz.ntmps76;go_wp2_with fail;go_ret2;exact⟨rfl,below1 _ _⟩
theorem at_dead(pb po:Nat)(A:Option Addr)(n cap k B:Nat)(x s:Nat)(M:List MO)(w:World)(hB:B≤w.heap.size)(hpb:pb<w.heap.size)(hc:w.cell? ⟨pb,po,none⟩=some (.slice A n cap))(hM:MemR w B A n M)(hk:k<n)(hk0:0<k)(_hx:x≤512)(_hs0':1≤s)(_hs1':s≤8)(hd:(mget M k).live=false):
  Calls Tryz.prog 76 #[.pointer (some ⟨pb,po,none⟩),.agg #[.int .i64 k,.int .i64 x],.int .i64 s] w fun e w'=>(e= .returned (.tuple #[.pointer none,.bool false])∧Below w.heap.size w w'):=by
 obtain⟨mb,mo,rfl,hmb',A',len,cap',c0,c1,c2,hl,hl2,hs0,hs1,hrow⟩:=hM.get hk;have hmb:mb<w.heap.size:=by omega
 have hk1:(k:Int)<(n:Int):=by omega
 have hk2:((k:Int)==0)=false:=by simp;omega
 have hn:=hM.2.1;rw[hd]at c2;clear hd;have HM:=Lib.hid hM;have HC:=Lib.hid hc;clear hM hl hrow;go_enter Tryz.func76,Tryz.ntmps76;go_wp2_with fail;go_quiet (fail);go_wp2_with fail;go_quiet (fail);go_wp2_with fail;go_ret2;exact⟨rfl,below_drewN (below_drewN (below1 _ _) _) _⟩
theorem at_size(pb po:Nat)(A:Option Addr)(n cap k B:Nat)(x s:Nat)(M:List MO)(w:World)(hB:B≤w.heap.size)(hpb:pb<w.heap.size)(hc:w.cell? ⟨pb,po,none⟩=some (.slice A n cap))(hM:MemR w B A n M)(hk:k<n)(hk0:0<k)(_hx:x≤512)(_hs0':1≤s)(_hs1':s≤8)(hd:(mget M k).live=true)(hs:¬(mget M k).size=s):
  Calls Tryz.prog 76 #[.pointer (some ⟨pb,po,none⟩),.agg #[.int .i64 k,.int .i64 x],.int .i64 s] w fun e w'=>(e= .returned (.tuple #[.pointer none,.bool false])∧Below w.heap.size w w'):=by
 obtain⟨mb,mo,rfl,hmb',A',len,cap',c0,c1,c2,hl,hl2,hs0,hs1,hrow⟩:=hM.get hk;have hmb:mb<w.heap.size:=by omega
 have hk1:(k:Int)<(n:Int):=by omega
 have hk2:((k:Int)==0)=false:=by simp;omega
 have hn:=hM.2.1;rw[hd]at c2;have hs':((mget M k).size !=(s:Int))=true:=by simpa using hs
 clear hd hs;have HM:=Lib.hid hM;have HC:=Lib.hid hc;clear hM hl hrow;go_enter Tryz.func76,Tryz.ntmps76;go_wp2_with fail;go_quiet (fail);go_wp2_with fail;go_quiet (fail);go_wp2_with fail;go_ret2;exact⟨rfl,below_drewN (below_drewN (below1 _ _) _) _⟩
theorem at_odd(pb po:Nat)(A:Option Addr)(n cap k B:Nat)(x s:Nat)(M:List MO)(w:World)(hB:B≤w.heap.size)(hpb:pb<w.heap.size)(hc:w.cell? ⟨pb,po,none⟩=some (.slice A n cap))(hM:MemR w B A n M)(hk:k<n)(hk0:0<k)(hx:x≤512)(hs0':1≤s)(hs1':s≤8)(hd:(mget M k).live=true)(hs:(mget M k).size=s)(ho:¬x%s=0):
  Calls Tryz.prog 76 #[.pointer (some ⟨pb,po,none⟩),.agg #[.int .i64 k,.int .i64 x],.int .i64 s] w fun e w'=>(e= .returned (.tuple #[.pointer none,.bool false])∧Below w.heap.size w w'):=by
 obtain⟨mb,mo,rfl,hmb',A',len,cap',c0,c1,c2,hl,hl2,hs0,hs1,hrow⟩:=hM.get hk;have hmb:mb<w.heap.size:=by omega
 have hk1:(k:Int)<(n:Int):=by omega
 have hk2:((k:Int)==0)=false:=by simp;omega
 have hn:=hM.2.1;rw[hd]at c2;rw[hs]at c0;have ho':((x:Int)%(s:Int) !=0)=true:=by simp;omega
 clear hd hs;have HM:=Lib.hid hM;have HC:=Lib.hid hc;clear hM hl hrow;go_enter Tryz.func76,Tryz.ntmps76;go_wp2_with fail;go_quiet (fail);go_wp2_with fail;go_quiet (fail);go_wp2_with fail;go_ret2;exact⟨rfl,below_drewN (below_drewN (below1 _ _) _) _⟩
theorem at_far(pb po:Nat)(A:Option Addr)(n cap k B:Nat)(x s:Nat)(M:List MO)(w:World)(hB:B≤w.heap.size)(hpb:pb<w.heap.size)(hc:w.cell? ⟨pb,po,none⟩=some (.slice A n cap))(hM:MemR w B A n M)(hk:k<n)(hk0:0<k)(hx:x≤512)(hs0':1≤s)(hs1':s≤8)(hd:(mget M k).live=true)(hs:(mget M k).size=s)(ho:x%s=0)(hf:(mget M k).bytes≤x):
  Calls Tryz.prog 76 #[.pointer (some ⟨pb,po,none⟩),.agg #[.int .i64 k,.int .i64 x],.int .i64 s] w fun e w'=>(e= .returned (.tuple #[.pointer none,.bool false])∧Below w.heap.size w w'):=by
 obtain⟨mb,mo,rfl,hmb',A',len,cap',c0,c1,c2,hl,hl2,hs0,hs1,hrow⟩:=hM.get hk;have hmb:mb<w.heap.size:=by omega
 have hk1:(k:Int)<(n:Int):=by omega
 have hk2:((k:Int)==0)=false:=by simp;omega
 have hn:=hM.2.1;rw[hd]at c2;rw[hs]at c0;have ho':((x:Int)%(s:Int) !=0)=false:=by simp;omega
 have hf':decide ((mget M k).bytes≤(x:Int))=true:=by simpa using hf
 clear hd hs ho hf;have HM:=Lib.hid hM;have HC:=Lib.hid hc;clear hM hl hrow;go_enter Tryz.func76,Tryz.ntmps76;go_wp2_with fail;go_quiet (fail);go_wp2_with fail;go_quiet ((go_at_call 89;exact quiet_d2 (bytes_any pb po _ n cap k w.heap.size M _ (cell_below HC.out (below_drewN (below1 _ _) _) hpb) ((HM.out).below (below_drewN ((below1 _ _).mono hB) _) hB) hk)));go_wp2_with fail;go_ret2;exact⟨rfl,below_drewN (below_drewN (below1 _ _) _) _⟩
theorem div_lt_of_bytes{x s len:Nat}(h:x<s*len):x/s<len:=by
 exact Nat.div_lt_of_lt_mul h
theorem at_yes(pb po mb mo ob oo:Nat)(n cap k B len cap':Nat)(x s:Nat)(M:List MO)(w:World)(hB:B≤w.heap.size)(hpb:pb<w.heap.size)(hc:w.cell? ⟨pb,po,none⟩=some (.slice (some ⟨mb,mo,none⟩) n cap))(hM:MemR w B (some ⟨mb,mo,none⟩) n M)(hk:k<n)(hk0:0<k)(hx:x≤512)(hs0':1≤s)(hs1':s≤8)
  (c1:w.cell? ⟨mb,mo+k*3+1,none⟩=some (.slice (some ⟨ob,oo,none⟩) len cap'))
  (hd:(mget M k).live=true)(hs:(mget M k).size=s)(ho:x%s=0)(hf:¬(mget M k).bytes≤x):
  Calls Tryz.prog 76 #[.pointer (some ⟨pb,po,none⟩),.agg #[.int .i64 k,.int .i64 x],.int .i64 s] w fun e w'=>e= .returned (.tuple #[.pointer (some ⟨ob,oo+x/s*2,none⟩),.bool true])∧Below w.heap.size w w':=by
 obtain⟨mb',mo',hA,hmb',A',len',cap'',c0,c1',c2,hl,hl2,hs0,hs1,hrow⟩:=hM.get hk;injection hA with hA;injection hA with hA1 hA2;subst hA1 hA2;rw[c1]at c1';injection c1' with c1';injection c1' with e1 e2 e3;subst e1 e2 e3;have hmb:mb<w.heap.size:=by omega
 have hk1:(k:Int)<(n:Int):=by omega
 have hk2:((k:Int)==0)=false:=by simp;omega
 have hn:=hM.2.1;have hlt:x<s*len:=by
  have:¬((s*len:Nat):Int)≤(x:Int):=by
   have e:((s*len:Nat):Int)=(mget M k).bytes:=by unfold MO.bytes;rw[hs,hl];simp
   rw[e];exact hf
  omega
 have hj:=div_lt_of_bytes hlt;have hj2:((x/s:Nat):Int)<(len:Int):=by omega
 have hj3:(x:Int)/(s:Int)=((x/s:Nat):Int):=by simp
 rw[hd]at c2;rw[hs]at c0;have ho':((x:Int)%(s:Int) !=0)=false:=by simp;omega
 have hf':decide ((mget M k).bytes≤(x:Int))=false:=by simpa using hf
 have HM:=Lib.hid hM;have HC:=Lib.hid hc;have hj4:(x:Int)/(s:Int)<(len:Int):=by rw[hj3];exact hj2
 have hj5:0≤(x:Int)/(s:Int):=by rw[hj3];exact Int.natCast_nonneg _
 have HJ:=Lib.hid hj3;have HJ2:=Lib.hid hj;clear hM hl hrow hd hs ho hf hj2 hj3 hlt hj;go_enter Tryz.func76,Tryz.ntmps76;go_wp2_with fail;go_quiet (fail);go_wp2_with fail;go_quiet ((go_at_call 89;exact quiet_d2 (bytes_any pb po _ n cap k w.heap.size M _ (cell_below HC.out (below_drewN (below1 _ _) _) hpb) ((HM.out).below (below_drewN ((below1 _ _).mono hB) _) hB) hk)));go_wp2_with fail;go_quiet (fail);go_wp2_with fail;go_ret2;exact⟨rfl,below_drewN (below_drewN (below_drewN (below1 _ _) _) _) _⟩
def atF(M:List MO)(a:V)(s:Nat):Option Nat:=
 if 0<a.obj∧(mget M a.obj).live=true∧(mget M a.obj).size=s∧a.n%s=0∧a.n<(mget M a.obj).bytes then some (a.n.toNat/s)else none
theorem at_none(pb po:Nat)(A:Option Addr)(n cap B s:Nat)(a:V)(M:List MO)(w:World)(hB:B≤w.heap.size)(hpb:pb<w.heap.size)(hc:w.cell? ⟨pb,po,none⟩=some (.slice A n cap))(hM:MemR w B A n M)(hk:a.obj≠0→a.obj<n)(hx:a.obj≠0→0≤a.n∧a.n≤512)(hs0:1≤s)(hs1:s≤8)
  (hF:atF M a s=none):
  Calls Tryz.prog 76 #[.pointer (some ⟨pb,po,none⟩),.agg #[.int .i64 a.obj,.int .i64 a.n],.int .i64 s] w fun e w'=>e= .returned (.tuple #[.pointer none,.bool false])∧Below w.heap.size w w':=by
 obtain⟨obj,x⟩:=a;by_cases h0:obj=0
 ·subst h0;exact at_zero pb po s _ w
 ·have hk0:0<obj:=by omega
  obtain⟨hx0,hx⟩:=hx h0;obtain⟨x',rfl⟩:=Int.eq_ofNat_of_zero_le hx0;have hk:=hk h0;simp only at hk hx;unfold atF at hF;by_cases hd:(mget M obj).live=true
  ·by_cases hs:(mget M obj).size=s
   ·by_cases ho:x'%s=0
    ·by_cases hf:(mget M obj).bytes≤(x':Int)
     ·exact at_far pb po A n cap obj B x' s M w hB hpb hc hM hk hk0 (by omega) hs0 hs1 hd hs ho hf
     ·rw[if_pos ⟨hk0,hd,hs,by simp only;omega,by simp only;omega⟩]at hF;cases hF
    ·exact at_odd pb po A n cap obj B x' s M w hB hpb hc hM hk hk0 (by omega) hs0 hs1 hd hs ho
   ·exact at_size pb po A n cap obj B x' s M w hB hpb hc hM hk hk0 (by omega) hs0 hs1 hd hs
  ·exact at_dead pb po A n cap obj B x' s M w hB hpb hc hM hk hk0 (by omega) hs0 hs1 (by simpa using hd)
theorem at_some(pb po mb mo ob oo:Nat)(n cap B len cap' s:Nat)(a:V)(M:List MO)(w:World)(j:Nat)(hB:B≤w.heap.size)(hpb:pb<w.heap.size)(hc:w.cell? ⟨pb,po,none⟩=some (.slice (some ⟨mb,mo,none⟩) n cap))(hM:MemR w B (some ⟨mb,mo,none⟩) n M)(hk:a.obj<n)(hx0:0≤a.n)(hx:a.n≤512)(hs0:1≤s)(hs1:s≤8)
  (c1:w.cell? ⟨mb,mo+a.obj*3+1,none⟩=some (.slice (some ⟨ob,oo,none⟩) len cap'))(hF:atF M a s=some j):
  Calls Tryz.prog 76 #[.pointer (some ⟨pb,po,none⟩),.agg #[.int .i64 a.obj,.int .i64 a.n],.int .i64 s] w fun e w'=>e= .returned (.tuple #[.pointer (some ⟨ob,oo+j*2,none⟩),.bool true])∧Below w.heap.size w w':=by
 obtain⟨obj,x⟩:=a;obtain⟨x',rfl⟩:=Int.eq_ofNat_of_zero_le hx0;unfold atF at hF;by_cases hh:0<obj∧(mget M obj).live=true∧(mget M obj).size=s∧(x':Int)%s=0∧(x':Int)<(mget M obj).bytes
 ·rw[if_pos hh]at hF;obtain⟨hk0,hd,hs,ho,hf⟩:=hh;simp only[Int.toNat_natCast,Option.some.injEq]at hF;subst hF;simp only at hk hx;exact at_yes pb po mb mo ob oo n cap obj B len cap' x' s M w hB hpb hc hM hk hk0 (by omega) hs0 hs1 c1 hd hs (by omega) (by omega)
 ·rw[if_neg hh]at hF;cases hF
theorem atF_pos{M:List MO}{a:V}{s j:Nat}(h:atF M a s=some j):a.obj≠0:=by
 unfold atF at h;intro h0;simp[h0]at h
theorem atF_lt{M:List MO}{a:V}{s j:Nat}(hF:atF M a s=some j)(hx0:0≤a.n):0<a.obj∧(mget M a.obj).live=true∧(mget M a.obj).size=s∧j<(mget M a.obj).l.length:=by
 unfold atF at hF;by_cases hh:0<a.obj∧(mget M a.obj).live=true∧(mget M a.obj).size=s∧a.n%s=0∧a.n<(mget M a.obj).bytes
 ·rw[if_pos hh]at hF;obtain⟨hk0,hd,hz,ho,hf⟩:=hh;simp only[Option.some.injEq]at hF;subst hF;refine⟨hk0,hd,hz,div_lt_of_bytes ?_⟩;unfold MO.bytes at hf;rw[hz]at hf;have e:((s*(mget M a.obj).l.length:Nat):Int)=(s:Int)*((mget M a.obj).l.length:Int):=by simp
  have hp:0≤(s:Int)*((mget M a.obj).l.length:Int):=by rw[←e];exact Int.natCast_nonneg _
  omega
 ·rw[if_neg hh]at hF;cases hF
end Go.Proofs.YtlenilbkifofjaaGreatDoor
