/- The page's Labels: a table of 8000. Conditions: as stated. gantletref14's Run: the region that keeps a function's labels. Conditions: as stated. gantletref14: get, nothing more coming in. Conditions: as stated. -/
import Derived.Test.YtinmgbodgecoeaaGreatRFormZz
import Derived.Test.YtinmgbodgecoeaaGreatRDoesBZz
set_option linter.unusedSimpArgs false
set_option linter.unusedVariables false
set_option maxHeartbeats 8000000
set_option maxRecDepth 100000
open Go.Proofs.Tryz
namespace Go.Proofs.YtinmgbodgecoeaaGreat
open Go.RowKit
def oH(l:List bg):Nat->Nat->Int
 |0,_=> -1
 |k+1,j=>if(l.getD k ⟨0,0,0,0,0,[]⟩).op=14/\(l.getD k ⟨0,0,0,0,0,[]⟩).n=(j:Int)then(k:Int)else oH l k j
theorem rD{l:List bg}{k:Nat}{x:bg}(h:l[k]? =some x)(j:Nat):oH l (k+1) j=if x.op=14/\x.n=(j:Int)then(k:Int)else oH l k j:=by
 rw[oH,List.getD_eq_getElem?_getD,h,Option.getD_some]
theorem A8{l:List bg}:∀(k:Nat),k<=l.length->∀j:Nat,(0<=oH l k j↔dh (l.take k) j=true)
 |0,_,j=>by simp[oH,dh]
 |k+1,hk,j=>by
  have hkl:k<l.length:=by omega
  have hx:l[k]? =some (l[k]'hkl):=List.getElem?_eq_getElem hkl;obtain⟨x,J8⟩:∃x,x=l[k]'hkl:=⟨_,rfl⟩
  rw[<-J8]at hx;clear J8;rw[rD hx j,bW hx,nP];have ih:=A8 (l:=l) k (by omega) j;by_cases h:x.op=14/\x.n=(j:Int)
  ·rw[if_pos h,decide_eq_true h];simp
  ·rw[if_neg h,decide_eq_false h,Bool.or_false];exact ih
def fM(w:World)(b N:Nat)(f:Nat->Int):Prop:=∃cs,Row w b cs 3/\cs.size=N/\∀j,j<N->cs[j]? =some (.int .i64 (f j))
def qG(w:World)(b N:Nat)(f:Nat->Bool):Prop:=∃cs,Row w b cs 4/\cs.size=N/\∀j,j<N->cs[j]? =some (.bool (f j))
theorem fM.wr{F:Nat->Prop}{w w':World}{b N:Nat}{f:Nat->Int}(h:fM w b N f)(hw:Wr F w w')(hF:¬F b):fM w' b N f:=by
 obtain⟨cs,h1,h2,h3⟩:=h;exact⟨cs,h1.wr hw hF,h2,h3⟩
theorem qG.wr{F:Nat->Prop}{w w':World}{b N:Nat}{f:Nat->Bool}(h:qG w b N f)(hw:Wr F w w')(hF:¬F b):qG w' b N f:=by
 obtain⟨cs,h1,h2,h3⟩:=h;exact⟨cs,h1.wr hw hF,h2,h3⟩
theorem fM.set{w:World}{b N:Nat}{f g:Nat->Int}{j:Nat}{v:Int}(h:fM w b N f)(hj:j<N)(hg:g j=v)(ho:∀i,i≠j->g i=f i):fM (w.setCell ⟨b,j,none⟩ (.int .i64 v)) b N g:=by
 obtain⟨cs,h1,h2,h3⟩:=h;refine⟨_,h1.set j _,by simp[h2],λi hi=>?_⟩;by_cases hij:j=i
 ·subst hij;rw[Array.getElem?_setIfInBounds_self_of_lt (by omega),hg]
 ·rw[Array.getElem?_setIfInBounds_ne hij,h3 i hi,ho i (λh=>hij h.symm)]
theorem qG.set{w:World}{b N:Nat}{f g:Nat->Bool}{j:Nat}{v:Bool}(h:qG w b N f)(hj:j<N)(hg:g j=v)(ho:∀i,i≠j->g i=f i):qG (w.setCell ⟨b,j,none⟩ (.bool v)) b N g:=by
 obtain⟨cs,h1,h2,h3⟩:=h;refine⟨_,h1.set j _,by simp[h2],λi hi=>?_⟩;by_cases hij:j=i
 ·subst hij;rw[Array.getElem?_setIfInBounds_self_of_lt (by omega),hg]
 ·rw[Array.getElem?_setIfInBounds_ne hij,h3 i hi,ho i (λh=>hij h.symm)]
theorem Ba:(prog.info? 3).map (λi=>(i.zero,i.size,i.bytes))=some (some (.int .i64 0),1,8):=by kernel_rfl
theorem H7:(prog.info? 4).map (λi=>(i.zero,i.size,i.bytes))=some (some (.bool false),1,1):=by kernel_rfl
theorem Gj(v:Value)(n:Nat)(h:v.cells=#[v]){j:Nat}(hj:j<n):(madeCells v.cells n)[j]? =some v:=by
 rw[h];unfold madeCells;rw[Array.getElem?_map,Array.getElem?_range,if_pos hj];simp[Nat.mod_one]
theorem MG:∃Z:Array Value,Z.size=8000/\(∀j,j<8000->Z[j]? =some (.int .i64 0))/\∀W:World,(Instr.makeSlice 36 (.int .i64 8000) (.int .i64 8000)).run prog W= .ok (.slice (some ⟨W.heap.size,0,none⟩) 8000 8000) (W.alloc (.cells Z 3)):=by
 obtain⟨i0,hi,hz0,hz1,hz2⟩:=info_parts Ba;refine⟨madeCells (Value.int .i64 0).cells 8000,by rw[size_madeCells],λj hj=>Gj _ _ (by kernel_rfl) hj,λW=>?_⟩;have:=run_make (P:=prog) W 36 3 i0 _ underlying36 hi hz0 .i64 .i64 8000 8000 (by omega) (by omega) (by rw[hz2];omega) (by omega);rw[hz1]at this;simpa using this
theorem JV:∃Z:Array Value,Z.size=8000/\(∀j,j<8000->Z[j]? =some (.bool false))/\∀W:World,(Instr.makeSlice 96 (.int .i64 8000) (.int .i64 8000)).run prog W= .ok (.slice (some ⟨W.heap.size,0,none⟩) 8000 8000) (W.alloc (.cells Z 4)):=by
 obtain⟨i0,hi,hz0,hz1,hz2⟩:=info_parts H7;refine⟨madeCells (Value.bool false).cells 8000,by rw[size_madeCells],λj hj=>Gj _ _ (by kernel_rfl) hj,λW=>?_⟩;have:=run_make (P:=prog) W 96 4 i0 _ underlying96 hi hz0 .i64 .i64 8000 8000 (by omega) (by omega) (by rw[hz2];omega) (by omega);rw[hz1]at this;simpa using this
def Cw(l:List bg)(w:World)(e:Ending)(w':World):Prop:=
 ∃tb,e= .returned (.slice (some ⟨tb,0,none⟩) 8000 8000)/\w.heap.size<=tb/\fM w' tb 8000 (oH l l.length)/\Below w.heap.size w w'
theorem yx(c:aR)(LA:Option Addr)(lc:Nat)(BA:Option Addr)(bc B:Nat)(w:World)(hB:B<=w.heap.size)(hl:SliceAt w B 6 (kI w B) c.ins (.slice BA c.ins.length bc))(hlen:c.ins.length<=8000):
  Calls prog 30 #[.agg #[.int .i64 c.params,.int .i64 c.regs,.slice LA c.az.length lc,.slice BA c.ins.length bc]] w λe w'=>Cw c.ins w e w':=by
 obtain⟨Z,hZ,ZU,hmk⟩:=MG;have HL:=ae hl;have IM:=ae (⟨Z,Row.new' Z 3 (by simp),hZ,λj hj=>by rw[ZU j hj];simp⟩:fM ((w.alloc (.cells #[.int .i64 c.params,.int .i64 c.regs,.slice LA c.az.length lc,.slice BA c.ins.length bc] 54)).alloc (.cells Z 3)) (w.heap.size+1) 8000 (λj=>if j<0 then-1 else 0));have cS:=ae ((Row.new w #[.int .i64 c.params,.int .i64 c.regs,.slice LA c.az.length lc,.slice BA c.ins.length bc] 54).alloc (.cells Z 3));have bC:=ae (aB w (.cells #[.int .i64 c.params,.int .i64 c.regs,.slice LA c.az.length lc,.slice BA c.ins.length bc] 54) (.cells Z 3));clear hl hZ ZU;go_enter func30,ntmps30;refine aj λQ HQ=>?_;go_wp2_with fail
 go_loopw [4] (λi wr=>∃k:Nat,i= .int .i64 (k:Nat)/\k<=8000/\fM wr (w.heap.size+1) 8000 (λj=>if j<k then-1 else 0)/\Row wr w.heap.size #[.int .i64 c.params,.int .i64 c.regs,.slice LA c.az.length lc,.slice BA c.ins.length bc] 54/\Below w.heap.size w wr) (λi _=>8000-(intOf i).toNat)
 case atStart=>exact⟨0,rfl,Nat.zero_le _,IM.out,cS.out,bC.out⟩
 case round=>
  obtain⟨k,rfl,hk,hi,kJ,hb⟩:=hrel;by_cases hlt:k<8000
  ·have hd:decide ((k:Int)<8000)=true:=by simp;omega
   obtain⟨cs,hr,hc1,hc2⟩:=id hi;have c0:=hr.cell (hc2 k hlt);have c1:=hr.free k;have cl:=hr.lt;have hk0:(0:Int)<=(k:Int):=by omega
   have hk1:(k:Int)<8000:=by omega
   have HI:=ae (hi.set (j:=k) (g:=λj=>if j<k+1 then-1 else 0) (v:= -1) hlt (by simp) (λi hi=>by by_cases h:i<k<;>simp[h]<;>omega));have HX:=ae (kJ.other (by omega) k (.int .i64 (-1)):Row (wr.setCell ⟨w.heap.size+1,k,none⟩ (.int .i64 (-1))) w.heap.size #[.int .i64 c.params,.int .i64 c.regs,.slice LA c.az.length lc,.slice BA c.ins.length bc] 54);have HB:=ae (hb.trans ((Wr.cell1 wr (w.heap.size+1) k (.int .i64 (-1))).below hb.size (λi hi=>by have:i=w.heap.size+1:=hi;omega)));clear hi kJ hb hr hc1 hc2;go_wp2_with fail;go_roundw
   case rel=>exact⟨k+1,by go_num,hlt,HI.out,HX.out,HB.out⟩
   case measure=>simp[intOf];omega
  ·obtain rfl:k=8000:=by omega
   have hi2:fM wr (w.heap.size+1) 8000 (oH c.ins 0):=by
    obtain⟨cs,h1,h2,h3⟩:=hi;exact⟨cs,h1,h2,λj hj=>by rw[h3 j hj];simp[hj,oH]⟩
   have HI:=ae hi2;have HX:=ae kJ;have HB:=ae hb;have x3:=kJ.cell (j:=3) rfl;have xl:=kJ.lt;clear hi hi2 kJ hb;go_wp2_with fail;obtain⟨w9,rfl⟩:∃w9:World,w9=wr:=⟨_,rfl⟩
   clear x3 xl;go_loopw [5] (λi wr=>∃k:Nat,i= .int .i64 (k:Nat)/\k<=c.ins.length/\fM wr (w.heap.size+1) 8000 (oH c.ins k)/\Row wr w.heap.size #[.int .i64 c.params,.int .i64 c.regs,.slice LA c.az.length lc,.slice BA c.ins.length bc] 54/\Below w.heap.size w wr) (λi _=>c.ins.length-(intOf i).toNat)
   case atStart=>exact⟨0,rfl,Nat.zero_le _,HI.out,HX.out,HB.out⟩
   case round=>
    obtain⟨k,rfl,hk,hi,kJ,hb⟩:=hrel;have pS:=hb.size;have x3:=kJ.cell (j:=3) rfl;have xl:=kJ.lt;by_cases hlt:k<c.ins.length
    ·have hBw:Below B w wr:=hb.mono hB;obtain⟨bb,zO,x,rfl,hbb,hbk,b0,b1,b2,b3,b4,⟨sv,b5,hst⟩,hx0,hx1,hx2,hx3,Fj⟩:=(HL.below hBw (aY _) (λ_ _ h=>h.below hBw (aY _))).get hlt;simp only[Nat.add_zero]at b0 b1 b2 b3 b4 b5;obtain⟨SA,scap,vA⟩:∃SA scap,sv= .slice SA x.arg.length scap:=(by obtain⟨A',c',h,_⟩:=hst;exact⟨_,_,h⟩)
     subst vA;have hkb:(k:Int)<(c.ins.length:Int):=by omega
     have iF:bb<wr.heap.size:=by omega
     have XZ:=ae (hi.wr (eW (ax wr (.cells #[.int .i64 x.op,.int .i64 x.dst,.int .i64 x.a,.int .i64 x.b,.int .i64 x.n,.slice SA x.arg.length scap] 94))) (λh=>h));have HX2:=ae (kJ.alloc (.cells #[.int .i64 x.op,.int .i64 x.dst,.int .i64 x.a,.int .i64 x.b,.int .i64 x.n,.slice SA x.arg.length scap] 94));have eO:=ae (hb.trans ((ax wr (.cells #[.int .i64 x.op,.int .i64 x.dst,.int .i64 x.a,.int .i64 x.b,.int .i64 x.n,.slice SA x.arg.length scap] 94)).mono pS));have fD:=ae hbk;have hil:w.heap.size+1<wr.heap.size:=by obtain⟨_,h,_⟩:=hi;exact h.lt
     have PR:(x.op=14/\∃m:Nat,x.n=(m:Int)/\m<8000)\/(¬(x.op=14/\0<=x.n/\x.n<8000)):=by
      by_cases h:x.op=14/\0<=x.n/\x.n<8000
      ·exact aK ⟨h.1,x.n.toNat,by omega,by omega⟩
      ·exact bu h
     rcases PR with⟨hop,m,hn,hm⟩|hno
     ·have hm0:(0:Int)<=(m:Int):=by omega
      have hm1:(m:Int)<8000:=by omega
      obtain⟨cs,hr,hc1,hc2⟩:=XZ.out;have c0:=hr.cell (hc2 m hm);have c1:=hr.free m;have TT:=ae ((hi.set (j:=m) (g:=oH c.ins (k+1)) (v:=(k:Int)) hm (by rw[rD hbk,if_pos ⟨hop,hn⟩]) (λi hi=>by rw[rD hbk,if_neg (λh=>by omega)])).wr (eW (ax _ (.cells #[.int .i64 x.op,.int .i64 x.dst,.int .i64 x.a,.int .i64 x.b,.int .i64 x.n,.slice SA x.arg.length scap] 94))) (λh=>h));have HX4:=ae ((kJ.other (show w.heap.size≠w.heap.size+1 by omega) m (.int .i64 (k:Int))).alloc (.cells #[.int .i64 x.op,.int .i64 x.dst,.int .i64 x.a,.int .i64 x.b,.int .i64 x.n,.slice SA x.arg.length scap] 94))
      have fO:=ae ((hb.trans ((Wr.cell1 wr (w.heap.size+1) m (.int .i64 (k:Int))).below hb.size (λi hi=>by have:i=w.heap.size+1:=hi;omega))).trans ((ax (wr.setCell ⟨w.heap.size+1,m,none⟩ (.int .i64 (k:Int))) (.cells #[.int .i64 x.op,.int .i64 x.dst,.int .i64 x.a,.int .i64 x.b,.int .i64 x.n,.slice SA x.arg.length scap] 94)).mono (by simp;omega)));rw[hop,hn]at c0 c1 TT HX4 fO;rw[hop]at b0;rw[hn]at b4;clear hi kJ hb hr hc1 hc2 hbk hst hBw hop hn hx0 hx1 hx2 hx3 Fj;go_wp2_with fail;go_roundw
      case rel=>exact⟨k+1,by go_num,hlt,TT.out,HX4.out,fO.out⟩
      case measure=>simp[intOf];omega
     ·have TT:=ae (show fM (wr.alloc (.cells #[.int .i64 x.op,.int .i64 x.dst,.int .i64 x.a,.int .i64 x.b,.int .i64 x.n,.slice SA x.arg.length scap] 94)) (w.heap.size+1) 8000 (oH c.ins (k+1))from by
       obtain⟨cs,h1,h2,h3⟩:=XZ.out;exact⟨cs,h1,h2,λj hj=>by rw[h3 j hj,rD fD.out,if_neg (λh=>hno ⟨h.1,by omega,by omega⟩)]⟩)
      have hd:(x.op==14)=false\/((x.op==14)=true/\decide (0<=x.n)=false)\/((x.op==14)=true/\decide (0<=x.n)=true/\decide (x.n<8000)=false):=by
       by_cases h1:x.op=14
       ·right;by_cases h2:0<=x.n
        ·right;exact⟨by simp[h1],by simpa using h2,by simp;exact Int.not_lt.1 (λh3=>hno ⟨h1,h2,h3⟩)⟩
        ·left;exact⟨by simp[h1],by simpa using h2⟩
       ·left;simpa using h1
      obtain⟨xo,hxo⟩:∃o,o=x.op:=⟨_,rfl⟩
      clear hi kJ hb hbk hst hBw hno hx0 hx1 hx2 hx3 Fj;rcases hd with d1|⟨d1,d2⟩|⟨d1,d2,d3⟩
      ·go_wp2_with fail;go_roundw
       case rel=>exact⟨k+1,by go_num,hlt,TT.out,HX2.out,eO.out⟩
       case measure=>simp[intOf];omega
      all_goals
       have SK:x.op=14:=by simpa using d1
       rw[SK]at b0 TT HX2 eO;clear d1 SK hxo;go_wp2_with fail;go_roundw
       case rel=>exact⟨k+1,by go_num,hlt,TT.out,HX2.out,eO.out⟩
       case measure=>simp[intOf];omega
    ·obtain rfl:k=c.ins.length:=by omega
     have HI9:=ae hi;have HB9:=ae hb;clear hi kJ hb;go_wp2_with fail;refine HQ _ _ _ ?_;exact aS (v:= .slice (some ⟨w.heap.size+1,0,none⟩) 8000 8000) (by simp[results,results30,go_sem]) rfl ⟨_,rfl,by omega,HI9.out,HB9.out⟩
theorem MR:(prog.info? 36).map (λi=>(i.zero,i.size,i.bytes))=some (some (.slice none 0 0),1,24):=by kernel_rfl
def rrlC(mb vb gb mM nf jb k:Nat)(lv cv:Value)(l:List bg)(N:Nat)(W:World):Nat->Value->Prop
 |0,v|1,v|2,v=>v= .pointer (some ⟨mb,0,none⟩)
 |3,v=>v= .pointer (some ⟨mb,3,none⟩)
 |4,v=>v=lv
 |5,v=>v= .pointer (some ⟨vb,1,none⟩)
 |6,v=>v= .slice (some ⟨gb,mM,none⟩) nf jb
 |7,v=>v= .int .i64 (k:Nat)
 |8,v=>v= .pointer (some ⟨gb,mM+k*4,none⟩)
 |9,v=>v=cv
 |10,v=>∃lb,v= .slice (some ⟨lb,0,none⟩) 8000 8000/\fM W lb 8000 (oH l l.length)/\N<=lb
 |11,v=>∃nb lb,v= .slice (some ⟨nb,0,none⟩) 1 1/\Row W nb #[.slice (some ⟨lb,0,none⟩) 8000 8000] 36/\fM W lb 8000 (oH l l.length)/\N<=lb
 |_,_=>True
def rrlF(ai N:Nat)(lv:Value)(k:Nat)(xs:List Value)(l:List bg)(w W':World)(v:Value):Prop:=
 ∃W g aA lb,v= .slice (some ⟨g,0,none⟩) (k+1) aA/\Below w.heap.size w W/\fM W lb 8000 (oH l l.length)/\N<=lb/\W'.ownsRow ai 36 1 v (k+1) (xs++[.slice (some ⟨lb,0,none⟩) 8000 8000])/\W.grownBy W' lv.ownBlock/\(lv.ownBlock=some g\/g=W.heap.size)
noncomputable def rrlR:Code:=(fU (Tryz.f13.body.getD .skip)).getD 4 .skip
theorem Jn(mb vb ai gb mM nf jb:Nat)(cs:Array Value)(q0 q2:Value)(c:aR)(LA:Option Addr)(lc:Nat)(BA:Option Addr)(bc:Nat)(ln:Option Addr)(k bn:Nat)(xs:List Value)(w:World)
  (hrow:Row w mb cs 86)(h3:cs[3]? =some (.slice ln k bn))(oI:Row w vb #[q0,.slice (some ⟨gb,mM,none⟩) nf jb,q2] 31)(hgb:gb<w.heap.size)(hkn:k<nf)
  (g0:w.cell? ⟨gb,mM+k*4,none⟩=some (.int .i64 c.params))(g1:w.cell? ⟨gb,mM+k*4+1,none⟩=some (.int .i64 c.regs))(g2:w.cell? ⟨gb,mM+k*4+2,none⟩=some (.slice LA c.az.length lc))(g3:w.cell? ⟨gb,mM+k*4+3,none⟩=some (.slice BA c.ins.length bc))
  (hown:w.ownsRow ai 36 1 (.slice ln k bn) k xs)(hbase:ai<=w.heap.size)(hk:k<=100)
  (hlab:∀W,Below w.heap.size w W->Calls prog 30 #[.agg #[.int .i64 c.params,.int .i64 c.regs,.slice LA c.az.length lc,.slice BA c.ins.length bc]] W λe w'=>Cw c.ins W e w')
  {c0 c1 c2 c4 c5 c6 c9 c10 c11 c12 c13 c14 c15 c16 c17 c18 c19 c20 c21 iU iT iX iW jM jL jK jJ jI jH jG jF jE jD jC jB jA jo jm jy kG kF kE kD kC kB jw c49 kA c51 jY jX jW jV jU jT jS jR jQ jP jO jN kV kU kT kS kR kQ kP kO kN lN kM kL lM lL lK lJ lI lH mY mD mC lG lF lD lC lB lA:Value}(Q:Exit->Act->World->Prop)
  (cL:∀(W W':World)(g aA lb:Nat)(Y:Nat->Value),Below w.heap.size w W->fM W lb 8000 (oH c.ins c.ins.length)->w.heap.size<=lb->W'.ownsRow ai 36 1 (.slice (some ⟨g,0,none⟩) (k+1) aA) (k+1) (xs++[.slice (some ⟨lb,0,none⟩) 8000 8000])->W.grownBy W' ((Value.slice ln k bn).ownBlock)->((Value.slice ln k bn).ownBlock=some g\/g=W.heap.size)->
   Q .normal ⟨List.toArray (c0::c1::c2::(Value.pointer (some ⟨vb,0,none⟩))::c4::c5::c6::(Value.pointer (some ⟨mb,0,none⟩))::(Value.int .i64 (k:Nat))::c9::c10::c11::c12::c13::c14::c15::c16::c17::c18::c19::c20::c21::iU::iT::Y 0::Y 1::Y 2::Y 3::Y 4::Y 5::Y 6::Y 7::Y 8::Y 9::Y 10::Y 11::Y 12::Y 13::Y 14::jo::jm::jy::kG::kF::kE::kD::kC::kB::jw::c49::kA::c51::jY::jX::jW::jV::jU::jT::jS::jR::jQ::jP::jO::jN::kV::kU::kT::kS::kR::kQ::kP::kO::kN::lN::kM::kL::lM::lL::lK::lJ::lI::lH::mY::mD::mC::lG::lF::lD::lC::lB::lA::[]),[]⟩ (W'.setCell ⟨mb,3,none⟩ (.slice (some ⟨g,0,none⟩) (k+1) aA))):
  Code.wp prog rrlR Q ⟨List.toArray (c0::c1::c2::(Value.pointer (some ⟨vb,0,none⟩))::c4::c5::c6::(Value.pointer (some ⟨mb,0,none⟩))::(Value.int .i64 (k:Nat))::c9::c10::c11::c12::c13::c14::c15::c16::c17::c18::c19::c20::c21::iU::iT::iX::iW::jM::jL::jK::jJ::jI::jH::jG::jF::jE::jD::jC::jB::jA::jo::jm::jy::kG::kF::kE::kD::kC::kB::jw::c49::kA::c51::jY::jX::jW::jV::jU::jT::jS::jR::jQ::jP::jO::jN::kV::kU::kT::kS::kR::kQ::kP::kO::kN::lN::kM::kL::lM::lL::lK::lJ::lI::lH::mY::mD::mC::lG::lF::lD::lC::lB::lA::[]),[]⟩ w:=by
 obtain⟨i0,hi,hz0,hz1,hz2⟩:=info_parts MR;have hkn0:(0:Int)<=(k:Int):=by omega
 have hkn1:(k:Int)<(nf:Int):=by omega
 have dI:=ae hrow;have iA:=ae oI;have HOWN:=ae hown;have yf:=ae hlab;have uu:=ae cL;have H3:=ae h3;have zS:=ae g0;have vD:=ae g1;have HG2:=ae g2;have K6:=ae g3;clear hrow oI hown hlab cL h3 g0 g1 g2 g3
 conv=>arg 2;whnf
 refine pF 12 (λi=>decide (i=0)) (by kernel_rfl) (by kernel_rfl) (by kernel_rfl) (rrlC mb vb gb mM nf jb k (.slice ln k bn) (.agg #[.int .i64 c.params,.int .i64 c.regs,.slice LA c.az.length lc,.slice BA c.ins.length bc]) c.ins w.heap.size) (rrlF ai w.heap.size (.slice ln k bn) k xs c.ins w) (λY=>⟨List.toArray (c0::c1::c2::(Value.pointer (some ⟨vb,0,none⟩))::c4::c5::c6::(Value.pointer (some ⟨mb,0,none⟩))::(Value.int .i64 (k:Nat))::c9::c10::c11::c12::c13::c14::c15::c16::c17::c18::c19::c20::c21::iU::iT::Y 0::Y 1::Y 2::Y 3::Y 4::Y 5::Y 6::Y 7::Y 8::Y 9::Y 10::Y 11::Y 12::jB::jA::jo::jm::jy::kG::kF::kE::kD::kC::kB::jw::c49::kA::c51::jY::jX::jW::jV::jU::jT::jS::jR::jQ::jP::jO::jN::kV::kU::kT::kS::kR::kQ::kP::kO::kN::lN::kM::kL::lM::lL::lK::lJ::lI::lH::mY::mD::mC::lG::lF::lD::lC::lB::lA::[]),[]⟩) (λi=>if i=0 then iX else if i=1 then iW else if i=2 then jM else if i=3 then jL else if i=4 then jK else if i=5 then jJ else if i=6 then jI else if i=7 then jH else if i=8 then jG else if i=9 then jF else if i=10 then jE else if i=11 then jD else if i=12 then jC else undef) rfl ?_ ?_ ?_ ?_ ?_
 ·intro W W' i v hb h;rcases i with _|_|_|_|_|_|_|_|_|_|_|_|i
  iterate 10 (·exact h)
  ·obtain⟨lb,h1,⟨cs',h2,h2'⟩,h3⟩:=h;exact⟨lb,h1,⟨cs',h2.below hb h2.lt,h2'⟩,h3⟩
  ·obtain⟨nb,lb,h1,h2,⟨cs',h3,h3'⟩,h4⟩:=h;exact⟨nb,lb,h1,h2.below hb h2.lt,⟨cs',h3.below hb h3.lt,h3'⟩,h4⟩
  ·trivial
 ·intro i o' Y W hin hnl ho hb hall K hK;have HW:=ae hb;clear hb;rcases i with _|_|_|_|_|_|_|_|_|_|_|_|i
  ·simp at hnl
  ·simp at ho;subst ho;clear hall;refine ak rfl rfl (λK' hK'=>?_);go_simp;have hh:=hK' _ _ (hK _ _ (aV _ _) rfl);simpa [upd]using hh
  ·simp at ho;subst ho;have d1:Y 1=_:=hall {on:=1,ground:=Ground.data} (by simp) rfl;have rl:=dI.lt;clear hall;refine ak rfl rfl (λK' hK'=>?_);go_simp;have hh:=hK' _ _ (hK _ _ (aV _ _) rfl);simpa [upd,d1]using hh
  ·simp at ho;subst ho;have d2:Y 2=_:=hall {on:=2,ground:=Ground.data} (by simp) rfl;clear hall;refine ak rfl rfl (λK' hK'=>?_);go_simp;have hh:=hK' _ _ (hK _ _ (aV _ _) rfl);simpa [upd,d2]using hh
  ·simp at ho;subst ho;have d3:Y 3=_:=hall {on:=3,ground:=Ground.data} (by simp) rfl;have q6:=ag (dI.cell H3.out) HW.out dI.lt;clear hall;refine ak rfl rfl (λK' hK'=>?_);go_simp;have hh:=hK' _ _ (hK _ _ (aV _ _) rfl);simpa [upd,d3]using hh
  ·simp at ho;subst ho;clear hall;refine ak rfl rfl (λK' hK'=>?_);go_simp;have hh:=hK' _ _ (hK _ _ (aV _ _) rfl);simpa [upd]using hh
  ·simp at ho;subst ho;have d5:Y 5=_:=hall {on:=5,ground:=Ground.data} (by simp) rfl;have q1:=ag (iA.cell (j:=1) rfl) HW.out iA.lt;clear hall;refine ak rfl rfl (λK' hK'=>?_);go_simp;have hh:=hK' _ _ (hK _ _ (aV _ _) rfl);simpa [upd,d5]using hh
  ·simp at ho;subst ho;clear hall;refine ak rfl rfl (λK' hK'=>?_);go_simp;have hh:=hK' _ _ (hK _ _ (aV _ _) rfl);simpa [upd]using hh
  ·simp at ho;subst ho;have d6:Y 6=_:=hall {on:=6,ground:=Ground.data} (by simp) rfl;have d7:Y 7=_:=hall {on:=7,ground:=Ground.data} (by simp) rfl;clear hall;refine ak rfl rfl (λK' hK'=>?_);go_simp;have hh:=hK' _ _ (hK _ _ (aV _ _) rfl);simpa [upd,d6,d7]using hh
  ·simp at ho;subst ho;have d8:Y 8=_:=hall {on:=8,ground:=Ground.data} (by simp) rfl;have x0:=ag zS.out HW.out hgb;have x1:=ag vD.out HW.out hgb;have x2:=ag HG2.out HW.out hgb;have x3:=ag K6.out HW.out hgb;have xl:gb<W.heap.size:=fQ hgb HW.size;clear hall;refine ak rfl rfl (λK' hK'=>?_);go_simp;have hh:=hK' _ _ (hK _ _ (aV _ _) rfl);simpa [upd,d8]using hh
  ·simp at ho;subst ho;have d9:Y 9=_:=hall {on:=9,ground:=Ground.data} (by simp) rfl;clear hall;refine ak rfl rfl (λK' hK'=>?_);go_simp;refine(yf.out W HW.out).mono ?_;rintro e W5 ⟨lb,rfl,hmb,hm,hb5⟩;have HM:=ae hm;have yh:=ae hb5;clear hm hb5;go_simp;have hh:=hK' _ _ (hK _ _ (yh.out) ⟨lb,rfl,HM.out,Nat.le_trans HW.size hmb⟩);simpa [upd,d9]using hh
  ·simp at ho;subst ho;obtain⟨lb,d10,hm,hmb⟩:=hall {on:=10,ground:=Ground.data} (by simp) rfl;have HM:=ae hm;clear hall hm;refine ak rfl rfl (λK' hK'=>?_);go_simp;have hh:=hK' _ _ (hK _ _ (ax W (.cells #[.slice (some ⟨lb,0,none⟩) 8000 8000] 36)) ⟨W.heap.size,lb,rfl,Row.new' _ _ rfl,(by obtain⟨cs',h2,h2'⟩:=HM.out;exact⟨cs',h2.below (ax _ _) h2.lt,h2'⟩),hmb⟩);simpa [upd,d10]using hh
  ·omega
 ·intro i o' Y W hin hl ho K hK;obtain rfl:i=0:=by simpa using hl
  simp at ho;subst ho;refine ak rfl rfl (λK' hK'=>?_);go_simp;have hh:=hK' _ _ (hK _ (λ_=>rfl));simpa [upd]using hh
 ·intro o' Y W ho hb hall K hK;have e4:Y 4=_:=hall 4 (by decide) (by decide);obtain⟨nb,lb,e11,Ls,hm,hmb⟩:=hall 11 (by decide) (by decide);have HB:=ae hb;have HNR:=ae Ls;have HM:=ae hm;have hsz:=hb.size;have hone:∀(j:Nat)(u:Value),[Value.slice (some ⟨lb,0,none⟩) 8000 8000][j]? =some u->W.cell? ((⟨nb,0,none⟩:Addr).add j)=some u:=λj u hj=>by
   rw[List.getElem?_cons]at hj;split at hj
   ·rename_i hj0;subst hj0;injection hj with hj;subst hj;exact HNR.cell (j:=0) rfl
   ·simp at hj
  have QF:=ae hone;simp at ho;subst ho;clear hall hb Ls hm hone;refine ak rfl rfl (λK' hK'=>?_);refine wp_append_lies _ (.tmp 28) (.tmp 35) 81 rfl ai 36 i0 (.slice none 0 0) 1 24 underlying81 hi hz0 hz1 hz2 rfl (by decide) (.slice ln k bn) k xs e4 (aF HOWN (eW HB.out) (λ_ _ h=>h)) ⟨nb,0,none⟩ 1 1 [.slice (some ⟨lb,0,none⟩) 8000 8000] e11 rfl QF (by simp[Value.oneCell']) (by decide) (by unfold maxLen;omega) (by omega) (by omega) W.heap.size rfl (λg aA w' r1 r2 r3 r4=>?_);have hh:=hK' _ _ (hK (.slice (some ⟨g,0,none⟩) (k+1) aA) w' ⟨W,g,aA,lb,rfl,HB.out,HM.out,hmb,r1,r2,r3⟩);simpa [upd,Act.put]using hh
 ·intro Y W' ⟨W,g,aA,lb,e12,hb,hm,hmb,r1,r2,r3⟩ hl;have e0:Y 0=_:=hl 0 (by decide) (by decide) W';rw[e12]at r1;have HB:=ae hb;have HM:=ae hm;have oY:=ae r1;have DW:=ae r2;have hr0:Row W' mb cs 86:=((dI.below hb dI.lt)).wr (Wr.grown (F:=λi=>(Value.slice ln k bn).ownBlock=some i) r2 (λi hi=>hi)) (λh=>(by
   obtain⟨_,cs',hx⟩:=aC HOWN.out h;exact hx.ne dI (by decide) rfl))
  have f3:=hr0.free 3;have fl:=hr0.lt;have f4:=hr0.cell H3.out;clear hb hm r1 r2 hl hr0;simp only[List.drop_succ_cons,List.drop_zero,e0,e12];go_wp2_with fail;have hh:=uu.out W W' g aA lb (upd (upd (upd (upd Y 0 (.pointer (some ⟨mb,0,none⟩))) 12 (.slice (some ⟨g,0,none⟩) (k+1) aA)) 13 (.pointer (some ⟨mb,0,none⟩))) 14 (.pointer (some ⟨mb,3,none⟩))) HB.out HM.out hmb oY.out DW.out r3;simpa [upd,e0]using hh
theorem Jz(ai mc fb tb:Nat)(own:Nat->Prop)(P:Value×Value×Value×Value)(lv:Value)(ah:Int)(s:St)(tp:List V)(lo:List Nat)(R:bT)(m:Nat)(a b n:Int)(AV:Value)(l:List Int)(w:World)
  (h:bG w ai mc own P ah s)(hF:bZ w fb tb tp lv lo)(hO:iD ai own fb tb lv)(xu:m<tp.length)(hi:s.inp=[]):
  Calls prog 54 #[.pointer (some ⟨mc,0,none⟩),.pointer (some ⟨fb,0,none⟩),.agg #[.int .i64 12,.int .i64 (m:Int),.int .i64 a,.int .i64 b,.int .i64 n,AV]] w λe w'=>lR ai mc P ah fb tb lv lo own (aW R lo s tp (aT ⟨12,(m:Int),a,b,n,l⟩)) w e w':=by
 rw[uX];have hg:zy s=(0,s):=by unfold zy;rw[hi]
 rw[hg];clear hg;have HE:=ae (λW=>rq (W:=W) h hF hO m (⟨0,0⟩:V) (.int .i64 0) (by first|rfl|simp));have f0:=hF.row.cell (j:=0) rfl;have hfb:=hF.row.lt;obtain⟨cs,hr,hcs,hvs⟩:=hF.bN;have t0:=hr.free (m*2);have t1:=hr.free (m*2+1);have hv:=hvs m _ (List.getElem?_eq_getElem xu);have v0:=hr.cell hv.1;have v1:=hr.cell hv.2;have htl:=hr.lt;have hne:fb≠tb:=λe=>hF.row.ne hr (by decide) e;have sO:=hF.few;have uQ:(m:Int)<(tp.length:Int):=by omega
 have hm0:decide ((0:Int)<=(m:Int))=true:=by simp
 have hsz:cs.size=tp.length*2:=hcs;obtain⟨inv,outv,aU,rb,hm⟩:=id h;obtain⟨A,aA,hv2,_,_,_⟩:=id hm.rest.inp;rw[hi,List.length_nil]at hv2;subst hv2;have m4:w.cell? ⟨mc,4,none⟩=some (.slice A 0 aA):=hm.row.cell rfl;have uQ:=hm.lt;have U2:mc<w.heap.size+1:=by omega
 clear hm hi;clear h hF hO hr hvs hv;go_enter func54,ntmps54;refine aj λQ HQ=>?_;go_wp2_with fail;go_region
 all_goals go_wp2_with fail
 all_goals refine HQ _ _ _ ?_
 all_goals exact aS (v:= .bool true) (by simp[results,results54,go_sem]) rfl (by have E:=HE _ (aB _ (.cells #[.int .i64 12,.int .i64 (m:Int),.int .i64 a,.int .i64 b,.int .i64 n,AV] 94) (.cells #[.int .i64 0,.int .i64 0] 75)).drew;exact⟨rfl,own,λ_ h=>h,λ_ h=>aK h,E.1,λ_=>E.2.1,E.2.2⟩)
end Go.Proofs.YtinmgbodgecoeaaGreat
