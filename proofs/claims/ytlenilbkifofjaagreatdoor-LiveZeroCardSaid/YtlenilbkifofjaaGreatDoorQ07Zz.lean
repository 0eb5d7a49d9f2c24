/- The page's Labels: a table of 8000. Conditions: as stated. The page's After. Conditions: as stated. The page's Uses: its regions of two puts. Conditions: as stated. The page's Uses. Conditions: as stated. A sorted list made compact is rising, with the same members (plain). No condition. -/
import Derived.Test.YtlenilbkifofjaaGreatDoorRFormZz
import Derived.Test.YtlenilbkifofjaaGreatDoorQ02Zz
import Derived.Test.YtlenilbkifofjaaGreatDoorQ05Zz
import Derived.Test.YtlenilbkifofjaaGreatDoorQ06Zz
import Derived.Test.YtlenilbkifofjaaGreatDoorQ08Zz
import Derived.Lib.SlicesCompact
set_option linter.unusedVariables false
set_option linter.unusedSimpArgs false
set_option maxHeartbeats 8000000
set_option maxRecDepth 100000
namespace Go.Proofs.YtlenilbkifofjaaGreatDoor
open Go.RowKit
def labK(l:List InsS):Nat→Nat→Int
 |0,_=> -1
 |k+1,j=>if(l.getD k ⟨0,0,0,0,0,[]⟩).op=14∧(l.getD k ⟨0,0,0,0,0,[]⟩).n=(j:Int)then(k:Int)else labK l k j
theorem labK_next{l:List InsS}{k:Nat}{x:InsS}(h:l[k]? =some x)(j:Nat):labK l (k+1) j=if x.op=14∧x.n=(j:Int)then(k:Int)else labK l k j:=by
 rw[labK,List.getD_eq_getElem?_getD,h,Option.getD_some]
theorem labK_there{l:List InsS}:∀(k:Nat),k≤l.length→∀j:Nat,(0≤labK l k j↔labI (l.take k) j=true)
 |0,_,j=>by simp[labK,labI]
 |k+1,hk,j=>by
  have hkl:k<l.length:=by omega
  have hx:l[k]? =some (l[k]'hkl):=List.getElem?_eq_getElem hkl;obtain⟨x,hxe⟩:∃x,x=l[k]'hkl:=⟨_,rfl⟩
  rw[←hxe]at hx;clear hxe;rw[labK_next hx j,take_succ_of hx,labI_snoc];have ih:=labK_there (l:=l) k (by omega) j;by_cases h:x.op=14∧x.n=(j:Int)
  ·rw[if_pos h,decide_eq_true h];simp
  ·rw[if_neg h,decide_eq_false h,Bool.or_false];exact ih
def IntsAt(w:World)(b N:Nat)(f:Nat→Int):Prop:=∃cs,Row w b cs 3∧cs.size=N∧∀j,j<N→cs[j]? =some (.int .i64 (f j))
def BoolsAt(w:World)(b N:Nat)(f:Nat→Bool):Prop:=∃cs,Row w b cs 4∧cs.size=N∧∀j,j<N→cs[j]? =some (.bool (f j))
theorem IntsAt.wr{F:Nat→Prop}{w w':World}{b N:Nat}{f:Nat→Int}(h:IntsAt w b N f)(hw:Wr F w w')(hF:¬F b):IntsAt w' b N f:=by
 obtain⟨cs,h1,h2,h3⟩:=h;exact⟨cs,h1.wr hw hF,h2,h3⟩
theorem BoolsAt.wr{F:Nat→Prop}{w w':World}{b N:Nat}{f:Nat→Bool}(h:BoolsAt w b N f)(hw:Wr F w w')(hF:¬F b):BoolsAt w' b N f:=by
 obtain⟨cs,h1,h2,h3⟩:=h;exact⟨cs,h1.wr hw hF,h2,h3⟩
theorem IntsAt.set{w:World}{b N:Nat}{f g:Nat→Int}{j:Nat}{v:Int}(h:IntsAt w b N f)(hj:j<N)(hg:g j=v)(ho:∀i,i≠j→g i=f i):IntsAt (w.setCell ⟨b,j,none⟩ (.int .i64 v)) b N g:=by
 obtain⟨cs,h1,h2,h3⟩:=h;refine⟨_,h1.set j _,by simp[h2],fun i hi=>?_⟩;by_cases hij:j=i
 ·subst hij;rw[Array.getElem?_setIfInBounds_self_of_lt (by omega),hg]
 ·rw[Array.getElem?_setIfInBounds_ne hij,h3 i hi,ho i (fun h=>hij h.symm)]
theorem BoolsAt.set{w:World}{b N:Nat}{f g:Nat→Bool}{j:Nat}{v:Bool}(h:BoolsAt w b N f)(hj:j<N)(hg:g j=v)(ho:∀i,i≠j→g i=f i):BoolsAt (w.setCell ⟨b,j,none⟩ (.bool v)) b N g:=by
 obtain⟨cs,h1,h2,h3⟩:=h;refine⟨_,h1.set j _,by simp[h2],fun i hi=>?_⟩;by_cases hij:j=i
 ·subst hij;rw[Array.getElem?_setIfInBounds_self_of_lt (by omega),hg]
 ·rw[Array.getElem?_setIfInBounds_ne hij,h3 i hi,ho i (fun h=>hij h.symm)]
theorem int_info14:(Tryz.prog.info? 3).map (fun i=>(i.zero,i.size,i.bytes))=some (some (.int .i64 0),1,8):=by kernel_rfl
theorem bool_info14:(Tryz.prog.info? 4).map (fun i=>(i.zero,i.size,i.bytes))=some (some (.bool false),1,1):=by kernel_rfl
theorem made_one(v:Value)(n:Nat)(h:v.cells=#[v]){j:Nat}(hj:j<n):(madeCells v.cells n)[j]? =some v:=by
 rw[h];unfold madeCells;rw[Array.getElem?_map,Array.getElem?_range,if_pos hj];simp[Nat.mod_one]
theorem make_ints:∃Z:Array Value,Z.size=8000∧(∀j,j<8000→Z[j]? =some (.int .i64 0))∧∀W:World,(Instr.makeSlice 41 (.int .i64 8000) (.int .i64 8000)).run Tryz.prog W= .ok (.slice (some ⟨W.heap.size,0,none⟩) 8000 8000) (W.alloc (.cells Z 3)):=by
 obtain⟨i0,hi,hz0,hz1,hz2⟩:=info_parts int_info14;refine⟨madeCells (Value.int .i64 0).cells 8000,by rw[size_madeCells],fun j hj=>made_one _ _ (by kernel_rfl) hj,fun W=>?_⟩;have:=run_make (P:=Tryz.prog) W 41 3 i0 _ Tryz.underlying41 hi hz0 .i64 .i64 8000 8000 (by omega) (by omega) (by rw[hz2];omega) (by omega);rw[hz1]at this;simpa using this
theorem make_bools:∃Z:Array Value,Z.size=8000∧(∀j,j<8000→Z[j]? =some (.bool false))∧∀W:World,(Instr.makeSlice 76 (.int .i64 8000) (.int .i64 8000)).run Tryz.prog W= .ok (.slice (some ⟨W.heap.size,0,none⟩) 8000 8000) (W.alloc (.cells Z 4)):=by
 obtain⟨i0,hi,hz0,hz1,hz2⟩:=info_parts bool_info14;refine⟨madeCells (Value.bool false).cells 8000,by rw[size_madeCells],fun j hj=>made_one _ _ (by kernel_rfl) hj,fun W=>?_⟩;have:=run_make (P:=Tryz.prog) W 76 4 i0 _ Tryz.underlying76 hi hz0 .i64 .i64 8000 8000 (by omega) (by omega) (by rw[hz2];omega) (by omega);rw[hz1]at this;simpa using this
def RLabSays(l:List InsS)(w:World)(e:Ending)(w':World):Prop:=
 ∃tb,e= .returned (.slice (some ⟨tb,0,none⟩) 8000 8000)∧w.heap.size≤tb∧IntsAt w' tb 8000 (labK l l.length)∧Below w.heap.size w w'
theorem rlabels_any(c:CodeS)(LA:Option Addr)(lc:Nat)(BA:Option Addr)(bc B:Nat)(w:World)(hB:B≤w.heap.size)(hl:SliceAt w B 6 (InsE w B) c.ins (.slice BA c.ins.length bc))(hlen:c.ins.length≤8000):
  Calls Tryz.prog 22 #[.agg #[.int .i64 c.params,.int .i64 c.regs,.slice LA c.locs.length lc,.slice BA c.ins.length bc]] w fun e w'=>RLabSays c.ins w e w':=by
 obtain⟨Z,hZ,hZ0,hmk⟩:=make_ints;have HL:=Lib.hid hl;have HI0:=Lib.hid (⟨Z,Row.new' Z 3 (by simp),hZ,fun j hj=>by rw[hZ0 j hj];simp⟩:IntsAt ((w.alloc (.cells #[.int .i64 c.params,.int .i64 c.regs,.slice LA c.locs.length lc,.slice BA c.ins.length bc] 39)).alloc (.cells Z 3)) (w.heap.size+1) 8000 (fun j=>if j<0 then-1 else 0));have HBX:=Lib.hid ((Row.new w #[.int .i64 c.params,.int .i64 c.regs,.slice LA c.locs.length lc,.slice BA c.ins.length bc] 39).alloc (.cells Z 3));have HB2:=Lib.hid (below2 w (.cells #[.int .i64 c.params,.int .i64 c.regs,.slice LA c.locs.length lc,.slice BA c.ins.length bc] 39) (.cells Z 3));clear hl hZ hZ0;go_enter Tryz.func22,Tryz.ntmps22;refine wp_letter (fun Q hQ=>?_);have HQ:=Lib.hid hQ;clear hQ;go_wp2_with fail
 go_loopw [4] (fun i wr=>∃k:Nat,i= .int .i64 (k:Nat)∧k≤8000∧IntsAt wr (w.heap.size+1) 8000 (fun j=>if j<k then-1 else 0)∧Row wr w.heap.size #[.int .i64 c.params,.int .i64 c.regs,.slice LA c.locs.length lc,.slice BA c.ins.length bc] 39∧Below w.heap.size w wr) (fun i _=>8000-(intOf i).toNat)
 case atStart=>exact⟨0,rfl,Nat.zero_le _,HI0.out,HBX.out,HB2.out⟩
 case round=>
  obtain⟨k,rfl,hk,hi,hbx,hb⟩:=hrel;by_cases hlt:k<8000
  ·have hd:decide ((k:Int)<8000)=true:=by simp;omega
   obtain⟨cs,hr,hc1,hc2⟩:=id hi;have c0:=hr.cell (hc2 k hlt);have c1:=hr.free k;have cl:=hr.lt;have hk0:(0:Int)≤(k:Int):=by omega
   have hk1:(k:Int)<8000:=by omega
   have HI:=Lib.hid (hi.set (j:=k) (g:=fun j=>if j<k+1 then-1 else 0) (v:= -1) hlt (by simp) (fun i hi=>by by_cases h:i<k<;>simp[h]<;>omega));have HX:=Lib.hid (hbx.other (by omega) k (.int .i64 (-1)):Row (wr.setCell ⟨w.heap.size+1,k,none⟩ (.int .i64 (-1))) w.heap.size #[.int .i64 c.params,.int .i64 c.regs,.slice LA c.locs.length lc,.slice BA c.ins.length bc] 39);have HB:=Lib.hid (hb.trans ((Wr.cell1 wr (w.heap.size+1) k (.int .i64 (-1))).below hb.size (fun i hi=>by have:i=w.heap.size+1:=hi;omega)));clear hi hbx hb hr hc1 hc2;go_wp2_with fail;go_roundw
   case rel=>exact⟨k+1,by go_num,hlt,HI.out,HX.out,HB.out⟩
   case measure=>simp[intOf];omega
  ·obtain rfl:k=8000:=by omega
   have hi2:IntsAt wr (w.heap.size+1) 8000 (labK c.ins 0):=by
    obtain⟨cs,h1,h2,h3⟩:=hi;exact⟨cs,h1,h2,fun j hj=>by rw[h3 j hj];simp[hj,labK]⟩
   have HI:=Lib.hid hi2;have HX:=Lib.hid hbx;have HB:=Lib.hid hb;have x3:=hbx.cell (j:=3) rfl;have xl:=hbx.lt;clear hi hi2 hbx hb;go_wp2_with fail;obtain⟨w9,rfl⟩:∃w9:World,w9=wr:=⟨_,rfl⟩
   clear x3 xl;go_loopw [5] (fun i wr=>∃k:Nat,i= .int .i64 (k:Nat)∧k≤c.ins.length∧IntsAt wr (w.heap.size+1) 8000 (labK c.ins k)∧Row wr w.heap.size #[.int .i64 c.params,.int .i64 c.regs,.slice LA c.locs.length lc,.slice BA c.ins.length bc] 39∧Below w.heap.size w wr) (fun i _=>c.ins.length-(intOf i).toNat)
   case atStart=>exact⟨0,rfl,Nat.zero_le _,HI.out,HX.out,HB.out⟩
   case round=>
    obtain⟨k,rfl,hk,hi,hbx,hb⟩:=hrel;have hzw:=hb.size;have x3:=hbx.cell (j:=3) rfl;have xl:=hbx.lt;by_cases hlt:k<c.ins.length
    ·have hBw:Below B w wr:=hb.mono hB;obtain⟨bb,boff,x,rfl,hbb,hbk,b0,b1,b2,b3,b4,⟨sv,b5,hst⟩,hx0,hx1,hx2,hx3,hx4⟩:=(HL.out.below hBw (Nat.le_refl _) (fun _ _ h=>h.below hBw (Nat.le_refl _))).get hlt;simp only[Nat.add_zero]at b0 b1 b2 b3 b4 b5;obtain⟨SA,scap,hsv⟩:∃SA scap,sv= .slice SA x.arg.length scap:=(by obtain⟨A',c',h,_⟩:=hst;exact⟨_,_,h⟩)
     subst hsv;have hkb:(k:Int)<(c.ins.length:Int):=by omega
     have hbbl:bb<wr.heap.size:=by omega
     have HI2:=Lib.hid (hi.wr (Wr.of_below (F:=fun _=>False) (below1 wr (.cells #[.int .i64 x.op,.int .i64 x.dst,.int .i64 x.a,.int .i64 x.b,.int .i64 x.n,.slice SA x.arg.length scap] 43))) (fun h=>h));have HX2:=Lib.hid (hbx.alloc (.cells #[.int .i64 x.op,.int .i64 x.dst,.int .i64 x.a,.int .i64 x.b,.int .i64 x.n,.slice SA x.arg.length scap] 43));have HB3:=Lib.hid (hb.trans ((below1 wr (.cells #[.int .i64 x.op,.int .i64 x.dst,.int .i64 x.a,.int .i64 x.b,.int .i64 x.n,.slice SA x.arg.length scap] 43)).mono hzw));have HBK:=Lib.hid hbk;have hil:w.heap.size+1<wr.heap.size:=by obtain⟨_,h,_⟩:=hi;exact h.lt
     have hcase:(x.op=14∧∃m:Nat,x.n=(m:Int)∧m<8000)∨(¬(x.op=14∧0≤x.n∧x.n<8000)):=by
      by_cases h:x.op=14∧0≤x.n∧x.n<8000
      ·exact Or.inl ⟨h.1,x.n.toNat,by omega,by omega⟩
      ·exact Or.inr h
     rcases hcase with⟨hop,m,hn,hm⟩|hno
     ·have hm0:(0:Int)≤(m:Int):=by omega
      have hm1:(m:Int)<8000:=by omega
      obtain⟨cs,hr,hc1,hc2⟩:=HI2.out;have c0:=hr.cell (hc2 m hm);have c1:=hr.free m;have HI4:=Lib.hid ((hi.set (j:=m) (g:=labK c.ins (k+1)) (v:=(k:Int)) hm (by rw[labK_next hbk,if_pos ⟨hop,hn⟩]) (fun i hi=>by rw[labK_next hbk,if_neg (fun h=>by omega)])).wr (Wr.of_below (F:=fun _=>False) (below1 _ (.cells #[.int .i64 x.op,.int .i64 x.dst,.int .i64 x.a,.int .i64 x.b,.int .i64 x.n,.slice SA x.arg.length scap] 43))) (fun h=>h));have HX4:=Lib.hid ((hbx.other (show w.heap.size≠w.heap.size+1 by omega) m (.int .i64 (k:Int))).alloc (.cells #[.int .i64 x.op,.int .i64 x.dst,.int .i64 x.a,.int .i64 x.b,.int .i64 x.n,.slice SA x.arg.length scap] 43))
      have HB4:=Lib.hid ((hb.trans ((Wr.cell1 wr (w.heap.size+1) m (.int .i64 (k:Int))).below hb.size (fun i hi=>by have:i=w.heap.size+1:=hi;omega))).trans ((below1 (wr.setCell ⟨w.heap.size+1,m,none⟩ (.int .i64 (k:Int))) (.cells #[.int .i64 x.op,.int .i64 x.dst,.int .i64 x.a,.int .i64 x.b,.int .i64 x.n,.slice SA x.arg.length scap] 43)).mono (by simp;omega)));rw[hop,hn]at c0 c1 HI4 HX4 HB4;rw[hop]at b0;rw[hn]at b4;clear hi hbx hb hr hc1 hc2 hbk hst hBw hop hn hx0 hx1 hx2 hx3 hx4;go_wp2_with fail;go_roundw
      case rel=>exact⟨k+1,by go_num,hlt,HI4.out,HX4.out,HB4.out⟩
      case measure=>simp[intOf];omega
     ·have HI4:=Lib.hid (show IntsAt (wr.alloc (.cells #[.int .i64 x.op,.int .i64 x.dst,.int .i64 x.a,.int .i64 x.b,.int .i64 x.n,.slice SA x.arg.length scap] 43)) (w.heap.size+1) 8000 (labK c.ins (k+1))from by
       obtain⟨cs,h1,h2,h3⟩:=HI2.out;exact⟨cs,h1,h2,fun j hj=>by rw[h3 j hj,labK_next HBK.out,if_neg (fun h=>hno ⟨h.1,by omega,by omega⟩)]⟩)
      have hd:(x.op==14)=false∨((x.op==14)=true∧decide (0≤x.n)=false)∨((x.op==14)=true∧decide (0≤x.n)=true∧decide (x.n<8000)=false):=by
       by_cases h1:x.op=14
       ·right;by_cases h2:0≤x.n
        ·right;exact⟨by simp[h1],by simpa using h2,by simp;exact Int.not_lt.1 (fun h3=>hno ⟨h1,h2,h3⟩)⟩
        ·left;exact⟨by simp[h1],by simpa using h2⟩
       ·left;simpa using h1
      obtain⟨xo,hxo⟩:∃o,o=x.op:=⟨_,rfl⟩
      clear hi hbx hb hbk hst hBw hno hx0 hx1 hx2 hx3 hx4;rcases hd with d1|⟨d1,d2⟩|⟨d1,d2,d3⟩
      ·go_wp2_with fail;go_roundw
       case rel=>exact⟨k+1,by go_num,hlt,HI4.out,HX2.out,HB3.out⟩
       case measure=>simp[intOf];omega
      all_goals
       have e14:x.op=14:=by simpa using d1
       rw[e14]at b0 HI4 HX2 HB3;clear d1 e14 hxo;go_wp2_with fail;go_roundw
       case rel=>exact⟨k+1,by go_num,hlt,HI4.out,HX2.out,HB3.out⟩
       case measure=>simp[intOf];omega
    ·obtain rfl:k=c.ins.length:=by omega
     have HI9:=Lib.hid hi;have HB9:=Lib.hid hb;clear hi hbx hb;go_wp2_with fail;refine HQ.out _ _ _ ?_;exact bodyPost_ret (v:= .slice (some ⟨w.heap.size+1,0,none⟩) 8000 8000) (by simp[results,Tryz.results22,go_sem]) rfl ⟨_,rfl,by omega,HI9.out,HB9.out⟩
def IntsV(W:World)(l:List Int)(v:Value):Prop:=∃A c,v= .slice A l.length c∧LongsAt W W.heap.size l v∧(l=[]→A=none∧c=0)∧l.length≤c
theorem IntsV.below{W W':World}{l:List Int}{v:Value}(h:IntsV W l v)(hb:Below W.heap.size W W'):IntsV W' l v:=by
 obtain⟨A,c,h1,h2,h3⟩:=h;exact⟨A,c,h1,h2.below hb hb.size,h3⟩
theorem NewInts.v{l:List Int}{w w':World}{e:Ending}(h:NewInts l w e w'):∃v,e= .returned v∧IntsV w' l v∧Below w.heap.size w w':=by
 obtain⟨A,c,h1,h2,h3,h4,h5⟩:=h;exact⟨_,h1,⟨A,c,rfl,h2,h3,h4⟩,h5⟩
def luCl(xb f2:Nat)(r1 r2:Int)(W:World):Nat→Value→Prop
 |0,v=>v= .slice none 0 0
 |1,v=>v= .pointer (some ⟨xb,2,none⟩)
 |2,v=>v= .int .i64 r1
 |3,v=>IntsV W (putL [] r1) v
 |4,v=>v= .pointer (some ⟨xb,f2,none⟩)
 |5,v=>v= .int .i64 r2
 |6,v|7,v=>IntsV W (putL (putL [] r1) r2) v
 |_,_=>True
theorem IntsV.new{l:List Int}{w w':World}{v:Value}(h:IntsV w' l v)(hb:Below w.heap.size w w'):NewInts l w (.returned v) w':=by
 obtain⟨A,c,rfl,h2,h3,h4⟩:=h;exact⟨A,c,rfl,h2,h3,h4,hb⟩
theorem putL_len_le{l:List Int}{n:Int}:(putL l n).length≤l.length+1:=by
 induction l with
 |nil=>simp[putL]
 |cons x r ih=>
  rw[putL];split
  ·simp only[List.length_cons];omega
  ·split<;>simp
theorem foldPut_len{m:List Int}:∀{l:List Int},(m.foldl putL l).length≤l.length+m.length:=by
 induction m with
 |nil=>intro l;simp
 |cons a m ih=>
  intro l;have h1:=ih (l:=putL l a);have h2:=putL_len_le (l:=l) (n:=a);simp only[List.foldl_cons,List.length_cons];omega
end Go.Proofs.YtlenilbkifofjaaGreatDoor
namespace Go.Proofs.YtlenilbkifofjaaGreatDoor
theorem compact_mem{zs:List Int}(hs:zs.Pairwise (·≤·))(x:Int):x∈Lib.compact zs↔x∈zs:=by
 have hget:∀j(h:j<zs.length),zs.toArray[j]! =zs[j]:=fun j h=>by rw[getElem!_pos zs.toArray j (by simpa using h)];simp
 unfold Lib.compact Lib.compactUpTo;simp only[List.mem_map,List.mem_filter,List.mem_range];constructor
 ·rintro⟨j,⟨h1,_⟩,rfl⟩;rw[hget j h1];exact List.getElem_mem h1
 ·intro hx;have key:∀j,∀h:j<zs.length,∃i,(i<zs.length∧Lib.keeps zs.toArray i=true)∧zs.toArray[i]! =zs[j]:=by
   intro j
   induction j with
   |zero=>intro h;exact⟨0,⟨h,Lib.keeps_lt_one _ 0 (by omega)⟩,hget 0 h⟩
   |succ j ih=>
    intro h;by_cases e:zs[j+1]=zs[j]
    ·obtain⟨i,h1,h2⟩:=ih (by omega);exact⟨i,h1,by rw[h2,e]⟩
    ·exact⟨j+1,⟨h,Lib.keeps_pos (by rw[hget _ h,Nat.add_sub_cancel,hget j (by omega)];exact e)⟩,hget _ h⟩
  obtain⟨j,hj,rfl⟩:=List.mem_iff_getElem.1 hx;exact key j hj
theorem compact_rise{zs:List Int}(hs:zs.Pairwise (·≤·)):Rise (Lib.compact zs):=by
 have hget:∀j(h:j<zs.length),zs.toArray[j]! =zs[j]:=fun j h=>by rw[getElem!_pos zs.toArray j (by simpa using h)];simp
 unfold Lib.compact Lib.compactUpTo Rise;rw[List.pairwise_map];have h1:((List.range zs.length).filter (Lib.keeps zs.toArray)).Pairwise (·<·):=List.Pairwise.sublist List.filter_sublist List.pairwise_lt_range;refine List.Pairwise.imp_of_mem ?_ h1;intro i j hi hj hij;obtain⟨hi1,_⟩:=List.mem_filter.1 hi;obtain⟨hj1,hj2⟩:=List.mem_filter.1 hj;simp only[List.mem_range]at hi1 hj1;rw[hget i hi1,hget j hj1];have hne:zs[j]≠zs[j-1]'(by omega):=fun e=>by
  have:=Lib.keeps_neg (d:=zs.toArray) (m:=j) (by omega) (by rw[hget j hj1,hget (j-1) (by omega)];exact e);rw[this]at hj2;cases hj2
 have hle:∀a b(ha:a<zs.length)(hb:b<zs.length),a<b→zs[a]≤zs[b]:=fun a b ha hb hab=>List.pairwise_iff_getElem.1 hs a b ha hb hab;have h2:zs[j-1]'(by omega)≤zs[j]:=hle _ _ (by omega) hj1 (by omega);have h3:zs[i]≤zs[j-1]'(by omega):=by
  by_cases e:i=j-1
  ·subst e;exact Int.le_refl _
  ·exact hle _ _ hi1 (by omega) (by omega)
 omega
theorem sort_le(zs:List Int):(zs.mergeSort fun x y=>decide (x≤y)).Pairwise (·≤·):=by
 have:=List.pairwise_mergeSort (le:=fun x y:Int=>decide (x≤y)) (fun a b c h1 h2=>by simp at*;omega) (fun a b=>by simp;omega) zs;exact List.Pairwise.imp (fun h=>by simpa using h) this
theorem uses_sorted{x:InsS}:Lib.compact ((regsL x).mergeSort fun x y=>decide (x≤y))=usesL x:=
 usesL_of (compact_rise (sort_le _)) fun y=>(compact_mem (sort_le _) y).trans List.mem_mergeSort
end Go.Proofs.YtlenilbkifofjaaGreatDoor
