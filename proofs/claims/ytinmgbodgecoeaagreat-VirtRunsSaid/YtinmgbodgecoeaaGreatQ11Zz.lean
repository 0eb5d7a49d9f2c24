/- virt: calls, whole. Conditions: as stated. The graph's machine: a step: no fuel; stuck trees. Conditions: as stated. The graph's machine: a step: a temporary is set; what comes in is read. Conditions: as stated. The graph's machine: a step: a number is put out; an exit; a store. Conditions: as stated. The graph's machine: a step: a store. Conditions: as stated. The graph's machine: a step: a call. Conditions: as stated. The graph's machine: a step, whole. Conditions: as stated. The graph's machine: the state between a block's steps. Conditions: as stated. The graph's machine: a block, whole. Conditions: as stated. The graph's machine: calls that do not begin. Conditions: as stated. The graph's machine: the state between a call's blocks. Conditions: as stated. The graph's machine: a call that begins. Conditions: as stated. The graph's machine: calls, whole. Conditions: as stated. The page's machine: how a run starts (plain). No condition. The graph's machine: how a run starts and ends (plain). Conditions: as stated. virt's checks: within, imm, register, Binary. No condition. -/
import Derived.Test.YtinmgbodgecoeaaGreatVCallCZz
set_option linter.unusedSimpArgs false
set_option linter.unusedVariables false
set_option maxHeartbeats 8000000
open Go.Proofs.Tryz
namespace Go.Proofs.YtinmgbodgecoeaaGreat
open Go.RowKit
theorem rJ{v:bB}(h:bY v=true){c:aR}(hc:c∈v.funcs):gD c v.ay.length v.funcs.length (gN v)=true:=by
 unfold bY at h;by_cases hh:s5 v
 ·rw[if_pos hh]at h;exact List.all_eq_true.1 h c hc
 ·rw[if_neg hh]at h;cases h
theorem xC{p:bB}{f:Nat}{g:aR}(hg:p.funcs[f]? =some g):(eB p).funcs[f]? =some (sA g):=by
 show(p.funcs.map sA)[f]? =_;rw[List.getElem?_map,hg];rfl
theorem Dq{p:bB}(hin:tJ p)(hm:bY p=true){ah:Int}(hf:ah<=100000000):∀(d:Nat)(c:Int),(d:Int)+c=64->wZ p ah c (mZ (eB p) ah d)
 |0,c,hd=>by
  intro f g args s ai cb hb rb own P gv bv AA an oD w hg hal h hR hP hL wz Bd hI hc hgl jr GS hargs;have hp:=vF hin hm;rw[mZ];rw[show iJ 4 s={s with kind:=4}from by unfold iJ;rw[if_pos hI.kind]];exact Jf ai cb hb rb own P gv bv ah p s f g args AA an oD w hg (hp.fns _ (List.mem_of_getElem? (xC hg))) hf hal h hR hP wz Bd hI hgl jr GS hargs (by omega)
 |d+1,c,hd=>by
  intro f g args s ai cb hb rb own P gv bv AA an oD w hg hal h hR hP hL wz Bd hI hc hgl jr GS hargs;have hp:=vF hin hm;have hg2:=xC hg;have hmem:=List.mem_of_getElem? hg;have hfn:=hp.fns _ (List.mem_of_getElem? hg2);obtain⟨⟨_,_,_,_,_,_,p6,_⟩,hall,hlast⟩:=rF (rJ hm hmem);obtain⟨nt,hnt,_⟩:=hfn.nt;by_cases hy:(aL ah (aQ g.az) {s with calls:=s.calls+1,deep:=max s.deep (s.calls+1)}).1=true
  ·rw[xY hg2 hnt hy];exact Oe ai cb hb rb own P gv bv ah p s f g args AA an oD w hg hfn hall hlast (Ad hm) hin hmem (by omega) hf hal h hR hP wz Bd hI hgl jr GS hL hargs (mZ (eB p) ah d) (by omega) hy (Dq hin hm hf d _ (by omega)) (xX hp hf d) nt hnt
  ·have hy0:(aL ah (aQ g.az) {s with calls:=s.calls+1,deep:=max s.deep (s.calls+1)}).1=false:=by simpa using hy
   rw[uW hg2 hy0];exact LZ ai cb hb rb own P gv bv ah p s f g args AA an oD w hg hfn hf hal h hR hP wz Bd hI hgl jr GS hargs (by omega) hy0
end Go.Proofs.YtinmgbodgecoeaaGreat
namespace Go.Proofs.YtinmgbodgecoeaaGreat
open Go.RowKit
section
variable {ai cb hb rb fb tb:Nat} {own:Nat->Prop} {ah:Int} {P:Value×Value×Value} {gv lv:Value} {lo:List Nat} {ng nt:Nat} {s:St} {bc:Array Value} {w:World} {cP:Nat->Prop} {st:St} {tp:List V} {wr wr':World}
end
end Go.Proofs.YtinmgbodgecoeaaGreat
namespace Go.Proofs.YtinmgbodgecoeaaGreat
open Go.RowKit
end Go.Proofs.YtinmgbodgecoeaaGreat
namespace Go.Proofs.YtinmgbodgecoeaaGreat
open Go.RowKit
section
variable {ai cb hb rb fb tb:Nat} {own:Nat->Prop} {ah:Int} {P:Value×Value×Value} {gv lv:Value} {lo:List Nat} {ng nt:Nat} {c:Int} {gc:Array Value} {w:World} {cP:Nat->Prop} {st:St} {tp:List V} {wr wr':World}
end
end Go.Proofs.YtinmgbodgecoeaaGreat
namespace Go.Proofs.YtinmgbodgecoeaaGreat
open Go.RowKit
def vz(inp:List Int):St:=⟨inp,0,0,[],0,0,0,[]⟩
theorem Ds{p:qD}{inp:List Int}{ah:Int}{f:Nat}(h:p.main=(f:Nat)):vI p inp ah=oq (mZ p ah (63+1) f [] {vz inp with mem:=bf [] p.ay}):=by
 simp only[vI,h,vz,Nat.reduceAdd]
def QW(o:um)(ai:Nat)(w:World)(e:Ending)(w':World):Prop:=
 ∃outv,e= .returned (.tuple #[.agg #[.int .i64 o.kind,.int .i64 o.code,outv,.int .i64 o.steps,.int .i64 o.deep],.int .i64 0])/\w'.ownsRow ai 2 1 outv o.out.length (o.out.map (Value.int .i64))/\Below w.heap.size w w'
theorem AZ:cQ [⟨0,[],false⟩]:=
 ⟨by simp,λo h=>by simpa using h.symm,λk o h1 h2=>by rw[List.getElem?_cons]at h2;split at h2<;>first|omega|(simp at h2),λo ho v hv=>by simp at ho;subst ho;simp at hv⟩
theorem AX:eI [⟨0,[],false⟩]:=λo h=>by simp at h;subst h;simp
theorem Uz{w:World}{B:Nat}{ah:Int}{inp:List Int}{inv:Value}(hB:B<=w.heap.size)(hin:uB w B inv inp):
  iH ((w.alloc (.cells (iQ ah (vz inp) inv (.slice none 0 0)) 62)).alloc (.cells #[.slice none 0 0] 66)) w.heap.size (λk=>k=w.heap.size\/k=w.heap.size+1) w.heap.size (w.heap.size+1) ah (vz inp):=by
 have hb:=aB w (.cells (iQ ah (vz inp) inv (.slice none 0 0)) 62) (.cells #[.slice none 0 0] 66);refine⟨inv,.slice none 0 0,.slice none 0 0,λ_=>0,(Row.new _ _ _).alloc _,Row.new' _ _ (by simp),aK rfl,bu rfl,?_,World.ownsRow_nil _ _ _ _,λg hg=>(by cases hg),⟨⟨[],World.ownsRow_nil _ _ _ _,λk o h=>(by simp[vz,au]at h)⟩,λk o h=>(by simp[vz,au]at h),λi j h=>(by simp[vz,au]at h),?_,?_⟩,λg hg=>(by cases hg),λk hk=>?_⟩
 ·obtain⟨A,aA,h0,h1,h2,h3⟩:=hin;refine⟨A,aA,h0,h1,h2,λhp=>?_⟩;obtain⟨b,off,hA,hlt,hc⟩:=h3 hp;exact⟨b,off,hA,by omega,λj x hj=>⟨(hb.cell (p:=⟨b,off+j,none⟩) (show b<w.heap.size by omega)).trans (hc j x hj).1,(hc j x hj).2⟩⟩
 ·exact AZ
 ·exact AX
 ·simp only[World.size_alloc];rcases hk with rfl|rfl<;>omega
theorem Lh{ah:Int}(hf:0<=ah){inp:List Int}(hin:∀x,x∈inp->In64 x){l:List kH}(ja:∀o,o∈l->rY o/\∀x,x∈o.init->In64 x)(hl:l.length<=16):GInv ah {vz inp with mem:=bf [] l}/\(au (bf [] l)).length=l.length+1:=by
 have h1:=qL [] l;have h2:(au ([]:List MO)).length=1:=rfl;have h3:cQ (au (bf [] l)):=A4 l (M:=[]) AZ ja (by omega);refine⟨⟨rfl,Int.le_refl _,hf,?_,Nat.zero_le _,Int.le_refl _,Int.le_refl _,hin,h3,?_⟩,by omega⟩
 ·show(au (bf [] l)).length<=20+_;omega
 ·show eI (au (bf [] l));rw[<-tA];exact AX.makes l
theorem uB.Pd{w:World}{B:Nat}{v:Value}{l:List Int}(h:uB w B v l):∀x,x∈l->In64 x:=by
 intro x hx;obtain⟨j,hj⟩:=List.mem_iff_getElem?.1 hx;have hlt:0<l.length:=List.length_pos_of_mem hx;obtain⟨A,aA,_,_,_,h3⟩:=h;obtain⟨b,off,_,_,hc⟩:=h3 hlt;exact(hc j x hj).2
theorem o5(w:World)(r:Nat)(a b c d e:Value):Wr (λi=>i=r) w (((((w.setCell ⟨r,0,none⟩ a).setCell ⟨r,1,none⟩ b).setCell ⟨r,2,none⟩ c).setCell ⟨r,3,none⟩ d).setCell ⟨r,4,none⟩ e):=
 (((((Wr.cell1 w r 0 a).trans (Wr.cell1 _ r 1 b) (λ_ h=>aK h)).trans (Wr.cell1 _ r 2 c) (λ_ h=>aK h)).trans (Wr.cell1 _ r 3 d) (λ_ h=>aK h)).trans (Wr.cell1 _ r 4 e) (λ_ h=>aK h))
theorem Ku(n:Nat):yK n=ui (cX [] n):=by
 unfold yK ui cX;rw[List.map_map];refine List.map_congr_left (λi _=>?_);simp[Nat.add_comm]
theorem gQ{w:World}{ai:Nat}{e:TypeId}{size:Nat}{v:Value}{n:Nat}{xs:List Value}(h:w.ownsRow ai e size v n xs):∃A c,v= .slice A n c:=by
 rcases h.2 with⟨e,e'⟩|⟨gg,aA,cur,e,_⟩
 ·exact⟨none,0,by rw[e,e']⟩
 ·exact⟨_,_,e⟩
theorem Qe{v:V}{s:St}:oq (some v,s)=oq (none,if v.obj>0 then {s with kind:=3}else {s with code:=v.n,kind:=1}):=by
 unfold oq;by_cases h:v.obj>0
 ·simp only[h,if_true]
 ·simp only[h,if_false]
theorem sY(n most:Int)(w:World):
  Calls prog 38 #[.int .i64 n,.int .i64 most] w λe w'=>e= .returned (.bool (decide (0<=n/\n<most)))/\w=w':=by
 go_enter func38,ntmps38;go_wp2
 all_goals go_ret
 all_goals exact⟨iB (by simp;try omega),rfl⟩
theorem Af(n:Int)(w:World):
  Calls prog 95 #[.int .i64 n] w λe w'=>e= .returned (.bool (sK n))/\w=w':=by
 unfold sK;go_enter func95,ntmps95;go_wp2
 all_goals go_ret
 all_goals exact⟨iB (by simp;try omega),rfl⟩
theorem yt(op:Int)(w:World):
  Calls prog 94 #[.int .i64 op] w λe w'=>e= .returned (.bool (decide (12<=op/\op<=30)))/\w=w':=by
 go_enter func94,ntmps94;go_wp2
 all_goals go_ret
 all_goals exact⟨iB (by simp;try omega),rfl⟩
theorem LU(op:Int)(w:World):
  Calls prog 97 #[.int .i64 op] w λe w'=>e= .returned (.bool (decide (5<=op/\op<=11)))/\w=w':=by
 go_enter func97,ntmps97;go_wp2
 all_goals go_ret
 all_goals exact⟨iB (by simp;try omega),rfl⟩
theorem IY(op:Int)(w:World):
  Calls prog 96 #[.int .i64 op] w λe w'=>e= .returned (.bool (decide (31<=op/\op<=36)))/\w=w':=by
 go_enter func96,ntmps96;go_wp2
 all_goals go_ret
 all_goals exact⟨iB (by simp;try omega),rfl⟩
end Go.Proofs.YtinmgbodgecoeaaGreat
