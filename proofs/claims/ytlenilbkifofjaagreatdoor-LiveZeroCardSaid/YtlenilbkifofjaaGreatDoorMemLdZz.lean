/- The page's memory: loads. Conditions: as stated. -/
import Derived.Test.YtlenilbkifofjaaGreatDoorMemAtZz
import Derived.Test.YtlenilbkifofjaaGreatDoorRefNumZz
import Derived.Deep.RegionWith
set_option linter.unusedVariables false
set_option linter.unusedSimpArgs false
set_option maxHeartbeats 8000000
set_option maxRecDepth 100000
namespace Go.Proofs.YtlenilbkifofjaaGreatDoor
open Go.RowKit
def sizeL(op:Int):Nat:=if op=5∨op=9 then 1 else if op=6∨op=10 then 2 else if op=7∨op=11 then 4 else 8
def loadedF(op n:Int):Int:=if op=8 then n else cutN (8*sizeL op) (decide (op≤8)) n
theorem loads_seven{op:Int}(h0:5≤op)(h1:op≤11):op=5∨op=6∨op=7∨op=8∨op=9∨op=10∨op=11:=by omega
theorem isLoad_any(op:Int)(w:World):
  Calls Tryz.prog 62 #[.int .i64 op] w fun e w'=>e= .returned (.bool (decide (5≤op∧op≤11)))∧w=w':=by
 go_enter Tryz.func62,Tryz.ntmps62;go_wp2
 all_goals go_ret
 ·exact⟨ret_b (by simp[*]),rfl⟩
 ·exact⟨ret_b (by simp;omega),rfl⟩
theorem sizeL_any(op:Int)(w:World)(h0:5≤op)(h1:op≤11):
  Calls Tryz.prog 77 #[.int .i64 op] w fun e w'=>e= .returned (.int .i64 (sizeL op))∧w=w':=by
 rcases loads_seven h0 h1 with rfl|rfl|rfl|rfl|rfl|rfl|rfl
 all_goals
  go_enter Tryz.func77,Tryz.ntmps77;go_wp2;go_ret;exact⟨ret_i (by decide),rfl⟩
theorem loaded_any(op n:Int)(w:World)(h0:5≤op)(h1:op≤11):
  Calls Tryz.prog 78 #[.int .i64 op,.int .i64 n] w fun e w'=>e= .returned (.int .i64 (loadedF op n))∧w=w':=by
 rcases loads_seven h0 h1 with rfl|rfl|rfl|rfl|rfl|rfl|rfl
 all_goals
  go_enter Tryz.func78,Tryz.ntmps78;go_wp2_with(first
   |(go_at_call 77;refine(sizeL_any _ _ (by decide) (by decide)).mono ?_;rintro e w' ⟨rfl,rfl⟩;simp only[sizeL])
   |(go_at_call 55;refine(refcut_any _ _ _ _ (by decide)).mono ?_;rintro e w' ⟨rfl,rfl⟩))
  go_ret;exact⟨ret_i (by simp[loadedF,sizeL]),rfl⟩
theorem sizeL_bd(op:Int):1≤sizeL op∧sizeL op≤8:=by unfold sizeL;(repeat' split)<;>omega
def loadF(M:List MO)(op:Int)(a:V):Option V:=
 match atF M a (sizeL op)with
 |none=>none
 |some j=>
  let v:=(mget M a.obj).l.getD j ⟨0,0⟩
  if 0<v.obj then if op=8 then some v else none else some ⟨0,loadedF op v.n⟩
theorem load_none(pb po:Nat)(A:Option Addr)(n cap B:Nat)(op:Int)(a:V)(M:List MO)(w:World)(hB:B≤w.heap.size)(hpb:pb<w.heap.size)(hc:w.cell? ⟨pb,po,none⟩=some (.slice A n cap))(hM:MemR w B A n M)(hk:a.obj≠0→a.obj<n)(hx:a.obj≠0→0≤a.n∧a.n≤512)(h0:5≤op)(h1:op≤11)
  (hF:atF M a (sizeL op)=none):
  Calls Tryz.prog 59 #[.pointer (some ⟨pb,po,none⟩),.int .i64 op,.agg #[.int .i64 a.obj,.int .i64 a.n]] w fun e w'=>e= .returned (ansV none)∧Below w.heap.size w w':=by
 have HC:=Lib.hid (fun W(hb:Below w.heap.size w W)=>at_none pb po A n cap w.heap.size (sizeL op) a M W hb.size (Nat.lt_of_lt_of_le hpb hb.size) (cell_below hc hb hpb) (hM.below (hb.mono hB) hB) hk hx (sizeL_bd op).1 (sizeL_bd op).2 hF);clear hc hM hF;go_enter Tryz.func59,Tryz.ntmps59;go_wp2_with fail;refine region_grow (by kernel_rfl) (by kernel_rfl) (fun hG=>?_)
 repeat(go_big_quiet_step ((first
  |(go_at_call 77;exact call_grow_same (sizeL_any _ _ h0 h1))
  |(go_at_call 76;exact call_grow (HC.out _ (grow_below (below2 _ _ _) (by simp;omega) _))))))
 refine wpQuiet_nil ?_;rintro⟨w1,hb1⟩;simp only[];obtain⟨hc1,hf1⟩:=bcell hb1;have hz1:=hb1.size;simp only[World.size_alloc]at hz1;go_wp2_with fail;refine bodyPost_ret (v:=ansV none) ?_ rfl ⟨rfl,?_⟩
 ·simp[results,Tryz.results59,go_sem,ansV,hc1]
 ·exact(((below2 _ _ _).trans (hb1.mono (by simp;omega))).setCell (by simp) _).setCell (by simp) _
theorem load_place(pb po:Nat)(mb mo:Nat)(n cap B:Nat)(op:Int)(a:V)(M:List MO)(w:World)(hB:B≤w.heap.size)(hpb:pb<w.heap.size)(hc:w.cell? ⟨pb,po,none⟩=some (.slice (some ⟨mb,mo,none⟩) n cap))(hM:MemR w B (some ⟨mb,mo,none⟩) n M)(hk:a.obj<n)(hx0:0≤a.n)(hx:a.n≤512)(h0:5≤op)(h1:op≤11)
  (ob oo len cap' j:Nat)(v:V)(hob:ob<w.heap.size)(c1:w.cell? ⟨mb,mo+a.obj*3+1,none⟩=some (.slice (some ⟨ob,oo,none⟩) len cap'))(hv:ValCells w ob (oo+j*2) v)(hF:atF M a (sizeL op)=some j)(hp:0<v.obj)(ho:¬op=8):
  Calls Tryz.prog 59 #[.pointer (some ⟨pb,po,none⟩),.int .i64 op,.agg #[.int .i64 a.obj,.int .i64 a.n]] w fun e w'=>e= .returned (ansV (none))∧Below w.heap.size w w':=by
 have hmb:mb<w.heap.size:=by
  obtain⟨mb',mo',hA,hlt,_⟩:=hM.get hk;injection hA with hA;injection hA with hA1 _;omega
 have HC:=Lib.hid (fun W(hb:Below w.heap.size w W)=>at_some pb po mb mo ob oo n cap w.heap.size len cap' (sizeL op) a M W j hb.size (Nat.lt_of_lt_of_le hpb hb.size) (cell_below hc hb hpb) (hM.below (hb.mono hB) hB) hk hx0 hx (sizeL_bd op).1 (sizeL_bd op).2 (cell_below c1 hb hmb) hF);obtain⟨hv0,hv1⟩:=hv;clear hc hM hF c1;have hp':(0:Int)<(v.obj:Int):=by omega
 have ho':(op !=8)=true:=by simpa using ho
 go_enter Tryz.func59,Tryz.ntmps59;go_wp2_with fail;refine region_grow (by kernel_rfl) (by kernel_rfl) (fun hG=>?_)
 repeat(go_big_quiet_step ((first
  |(go_at_call 77;exact call_grow_same (sizeL_any _ _ h0 h1))
  |(go_at_call 76;exact call_grow (HC.out _ (grow_below (below2 _ _ _) (by simp;omega) _))))))
 refine wpQuiet_nil ?_;rintro⟨w1,hb1⟩;simp only[];obtain⟨hc1,hf1⟩:=bcell hb1;have hz1:=hb1.size;simp only[World.size_alloc]at hz1;have e0:w1.cell? ⟨ob,oo+j*2,none⟩=some (.int .i64 v.obj):=cell_below hv0 ((below2 _ _ _).trans (hb1.mono (by simp;omega))) hob;have e1:w1.cell? ⟨ob,oo+j*2+1,none⟩=some (.int .i64 v.n):=cell_below hv1 ((below2 _ _ _).trans (hb1.mono (by simp;omega))) hob;clear hv0 hv1;go_wp2_with(go_at_call 78;refine(loaded_any _ _ _ h0 h1).mono ?_;rintro e w' ⟨rfl,rfl⟩);refine bodyPost_ret (v:=ansV (none)) ?_ rfl ⟨rfl,?_⟩
 ·simp[results,Tryz.results59,go_sem,ansV,hc1]
 ·exact(((below2 _ _ _).trans (hb1.mono (by simp;omega))).setCell (by simp) _).setCell (by simp) _
theorem load_whole(pb po:Nat)(mb mo:Nat)(n cap B:Nat)(op:Int)(a:V)(M:List MO)(w:World)(hB:B≤w.heap.size)(hpb:pb<w.heap.size)(hc:w.cell? ⟨pb,po,none⟩=some (.slice (some ⟨mb,mo,none⟩) n cap))(hM:MemR w B (some ⟨mb,mo,none⟩) n M)(hk:a.obj<n)(hx0:0≤a.n)(hx:a.n≤512)(h0:5≤op)(h1:op≤11)
  (ob oo len cap' j:Nat)(v:V)(hob:ob<w.heap.size)(c1:w.cell? ⟨mb,mo+a.obj*3+1,none⟩=some (.slice (some ⟨ob,oo,none⟩) len cap'))(hv:ValCells w ob (oo+j*2) v)(hF:atF M a (sizeL op)=some j)(hp:0<v.obj)(ho:op=8):
  Calls Tryz.prog 59 #[.pointer (some ⟨pb,po,none⟩),.int .i64 op,.agg #[.int .i64 a.obj,.int .i64 a.n]] w fun e w'=>e= .returned (ansV (some v))∧Below w.heap.size w w':=by
 have hmb:mb<w.heap.size:=by
  obtain⟨mb',mo',hA,hlt,_⟩:=hM.get hk;injection hA with hA;injection hA with hA1 _;omega
 have HC:=Lib.hid (fun W(hb:Below w.heap.size w W)=>at_some pb po mb mo ob oo n cap w.heap.size len cap' (sizeL op) a M W j hb.size (Nat.lt_of_lt_of_le hpb hb.size) (cell_below hc hb hpb) (hM.below (hb.mono hB) hB) hk hx0 hx (sizeL_bd op).1 (sizeL_bd op).2 (cell_below c1 hb hmb) hF);obtain⟨hv0,hv1⟩:=hv;clear hc hM hF c1;have hp':(0:Int)<(v.obj:Int):=by omega
 have ho':(op !=8)=false:=by simpa using ho
 clear ho;go_enter Tryz.func59,Tryz.ntmps59;go_wp2_with fail;refine region_grow (by kernel_rfl) (by kernel_rfl) (fun hG=>?_)
 repeat(go_big_quiet_step ((first
  |(go_at_call 77;exact call_grow_same (sizeL_any _ _ h0 h1))
  |(go_at_call 76;exact call_grow (HC.out _ (grow_below (below2 _ _ _) (by simp;omega) _))))))
 refine wpQuiet_nil ?_;rintro⟨w1,hb1⟩;simp only[];obtain⟨hc1,hf1⟩:=bcell hb1;have hz1:=hb1.size;simp only[World.size_alloc]at hz1;have e0:w1.cell? ⟨ob,oo+j*2,none⟩=some (.int .i64 v.obj):=cell_below hv0 ((below2 _ _ _).trans (hb1.mono (by simp;omega))) hob;have e1:w1.cell? ⟨ob,oo+j*2+1,none⟩=some (.int .i64 v.n):=cell_below hv1 ((below2 _ _ _).trans (hb1.mono (by simp;omega))) hob;clear hv0 hv1;go_wp2_with(go_at_call 78;refine(loaded_any _ _ _ h0 h1).mono ?_;rintro e w' ⟨rfl,rfl⟩);refine bodyPost_ret (v:=ansV (some v)) ?_ rfl ⟨rfl,?_⟩
 ·simp[results,Tryz.results59,go_sem,ansV,hc1]
 ·exact(((below2 _ _ _).trans (hb1.mono (by simp;omega))).setCell (by simp) _).setCell (by simp) _
theorem load_num(pb po:Nat)(mb mo:Nat)(n cap B:Nat)(op:Int)(a:V)(M:List MO)(w:World)(hB:B≤w.heap.size)(hpb:pb<w.heap.size)(hc:w.cell? ⟨pb,po,none⟩=some (.slice (some ⟨mb,mo,none⟩) n cap))(hM:MemR w B (some ⟨mb,mo,none⟩) n M)(hk:a.obj<n)(hx0:0≤a.n)(hx:a.n≤512)(h0:5≤op)(h1:op≤11)
  (ob oo len cap' j:Nat)(v:V)(hob:ob<w.heap.size)(c1:w.cell? ⟨mb,mo+a.obj*3+1,none⟩=some (.slice (some ⟨ob,oo,none⟩) len cap'))(hv:ValCells w ob (oo+j*2) v)(hF:atF M a (sizeL op)=some j)(hp:¬0<v.obj):
  Calls Tryz.prog 59 #[.pointer (some ⟨pb,po,none⟩),.int .i64 op,.agg #[.int .i64 a.obj,.int .i64 a.n]] w fun e w'=>e= .returned (ansV (some ⟨0,loadedF op v.n⟩))∧Below w.heap.size w w':=by
 have hmb:mb<w.heap.size:=by
  obtain⟨mb',mo',hA,hlt,_⟩:=hM.get hk;injection hA with hA;injection hA with hA1 _;omega
 have HC:=Lib.hid (fun W(hb:Below w.heap.size w W)=>at_some pb po mb mo ob oo n cap w.heap.size len cap' (sizeL op) a M W j hb.size (Nat.lt_of_lt_of_le hpb hb.size) (cell_below hc hb hpb) (hM.below (hb.mono hB) hB) hk hx0 hx (sizeL_bd op).1 (sizeL_bd op).2 (cell_below c1 hb hmb) hF);obtain⟨hv0,hv1⟩:=hv;clear hc hM hF c1;have hp':¬(0:Int)<(v.obj:Int):=by omega
 have hp2:decide ((0:Int)<(v.obj:Int))=false:=by simpa using hp'
 go_enter Tryz.func59,Tryz.ntmps59;go_wp2_with fail;refine region_grow (by kernel_rfl) (by kernel_rfl) (fun hG=>?_)
 repeat(go_big_quiet_step ((first
  |(go_at_call 77;exact call_grow_same (sizeL_any _ _ h0 h1))
  |(go_at_call 76;exact call_grow (HC.out _ (grow_below (below2 _ _ _) (by simp;omega) _))))))
 refine wpQuiet_nil ?_;rintro⟨w1,hb1⟩;simp only[];obtain⟨hc1,hf1⟩:=bcell hb1;have hz1:=hb1.size;simp only[World.size_alloc]at hz1;have e0:w1.cell? ⟨ob,oo+j*2,none⟩=some (.int .i64 v.obj):=cell_below hv0 ((below2 _ _ _).trans (hb1.mono (by simp;omega))) hob;have e1:w1.cell? ⟨ob,oo+j*2+1,none⟩=some (.int .i64 v.n):=cell_below hv1 ((below2 _ _ _).trans (hb1.mono (by simp;omega))) hob;clear hv0 hv1;go_wp2_with(go_at_call 78;refine(loaded_any _ _ _ h0 h1).mono ?_;rintro e w' ⟨rfl,rfl⟩);refine bodyPost_ret (v:=ansV (some ⟨0,loadedF op v.n⟩)) ?_ rfl ⟨rfl,?_⟩
 ·simp[results,Tryz.results59,go_sem,ansV,hc1]
 ·exact(((below2 _ _ _).trans (hb1.mono (by simp;omega))).setCell (by simp) _).setCell (by simp) _
theorem load_any(pb po:Nat)(A:Option Addr)(n cap B:Nat)(op:Int)(a:V)(M:List MO)(w:World)(hB:B≤w.heap.size)(hpb:pb<w.heap.size)(hc:w.cell? ⟨pb,po,none⟩=some (.slice A n cap))(hM:MemR w B A n M)(hk:a.obj≠0→a.obj<n)(hx:a.obj≠0→0≤a.n∧a.n≤512)(h0:5≤op)(h1:op≤11):
  Calls Tryz.prog 59 #[.pointer (some ⟨pb,po,none⟩),.int .i64 op,.agg #[.int .i64 a.obj,.int .i64 a.n]] w fun e w'=>e= .returned (ansV (loadF M op a))∧Below w.heap.size w w':=by
 unfold loadF;cases hF:atF M a (sizeL op)with
 |none=>exact load_none pb po A n cap B op a M w hB hpb hc hM hk hx h0 h1 hF
 |some j=>
  obtain⟨hx0,hx⟩:=hx (atF_pos hF);have hk:=hk (atF_pos hF);obtain⟨_,_,_,hj⟩:=atF_lt hF hx0;obtain⟨mb,mo,rfl,hmb,A',len,cap',_,c1,_,hl,_,_,_,hrow⟩:=hM.get hk;have hget:(mget M a.obj).l[j]? =some ((mget M a.obj).l.getD j ⟨0,0⟩):=by
   rw[List.getD_eq_getElem?_getD,List.getElem?_eq_getElem hj];rfl
  obtain⟨ob,oo,rfl,hob,hv⟩:=hrow j _ hget;simp only;generalize (mget M a.obj).l.getD j ⟨0,0⟩=v at hv;by_cases hp:0<v.obj
  ·rw[if_pos hp];by_cases ho:op=8
   ·rw[if_pos ho];exact load_whole pb po mb mo n cap B op a M w hB hpb hc hM hk hx0 hx h0 h1 ob oo len cap' j v (by omega) c1 hv hF hp ho
   ·rw[if_neg ho];exact load_place pb po mb mo n cap B op a M w hB hpb hc hM hk hx0 hx h0 h1 ob oo len cap' j v (by omega) c1 hv hF hp ho
  ·rw[if_neg hp];exact load_num pb po mb mo n cap B op a M w hB hpb hc hM hk hx0 hx h0 h1 ob oo len cap' j v (by omega) c1 hv hF hp
end Go.Proofs.YtlenilbkifofjaaGreatDoor
