/- The graph's machine: calls, whole. Conditions: as stated. The page's machine: how a run starts (plain). No condition. The graph's machine: how a run starts and ends (plain). Conditions: as stated. graph.May. Conditions: as stated. Programs that the graph lets be may be run (plain). Conditions: as stated. -/
import Derived.Test.YtikbdplllopjlaaGreatGCallCZz
import Derived.Test.YtikbdplllopjlaaGreatGAskGZz
set_option linter.unusedVariables false
set_option linter.unusedSimpArgs false
set_option maxHeartbeats 8000000
set_option maxRecDepth 100000
open Go.Proofs.Tryz
namespace Go.Proofs.YtikbdplllopjlaaGreat
open Go.RowKit
theorem C4{p:aM}(hp:sP p){ah:Int}(hf:ah<=100000000):∀(d:Nat)(c:Int),(d:Int)+c=64->ru p ah c (mF p ah d)
 |0,c,hd=>by
  intro f g args s ai cb hb rb own P gv AA an fX w hg OH h hR hP w8 A5 hI hc yF Ex II eF;rw[mF];rw[show lA 4 s={s with kind:=4}from by unfold lA;rw[if_pos hI.kind]];exact I4 ai cb hb rb own P gv ah p s f g args AA an fX w hg (hp.fns g (List.mem_of_getElem? hg)) hf OH h hR hP w8 A5 hI yF Ex II eF (by omega)
 |d+1,c,hd=>by
  intro f g args s ai cb hb rb own P gv AA an fX w hg OH h hR hP w8 A5 hI hc yF Ex II eF;have hfn:=hp.fns g (List.mem_of_getElem? hg);obtain⟨nt,uZ,_⟩:=hfn.nt;by_cases hy:(aW ah (aS g.az) {s with calls:=s.calls+1,deep:=max s.deep (s.calls+1)}).1=true
  ·rw[yP hg uZ hy];exact OX ai cb hb rb own P gv ah p s f g args AA an fX w hg hfn hf OH h hR hP w8 A5 hI yF Ex II eF (mF p ah d) (by omega) hy (C4 hp hf d _ (by omega)) (yO hp hf d) nt uZ
  ·rw[vC hg (by simpa using hy)];exact LM ai cb hb rb own P gv ah p s f g args AA an fX w hg hfn hf OH h hR hP w8 A5 hI yF Ex II eF (by omega) (by simpa using hy)
def zn(inp:List Int):St:=⟨inp,0,0,[],0,0,0,[]⟩
theorem CP{p:aM}{inp:List Int}{ah:Int}{f:Nat}(h:p.main=(f:Nat)):wV p inp ah=mP (mF p ah (63+1) f [] {zn inp with mem:=bf [] p.ax}):=by
 simp only[wV,h,zn,Nat.reduceAdd]
theorem bH.up{w:World}{B B':Nat}{P:Value×Value×Value}{p:aM}(h:bH w B P p)(hB:B<=B'):bH w B' P p:=
 ⟨h.1.below (bI _ _) hB λ_ _ h=>h.below (bI _ _) hB,h.2.1.below (bI _ _) hB λ_ _ h=>h.below (bI _ _) hB,h.2.2⟩
def PO(o:sX)(ai:Nat)(w:World)(e:Ending)(w':World):Prop:=
 ∃outv,e= .returned (.tuple #[.agg #[.int .i64 o.kind,.int .i64 o.code,outv,.int .i64 o.steps,.int .i64 o.deep],.int .i64 0])/\w'.ownsRow ai 2 1 outv o.out.length (o.out.map (Value.int .i64))/\Below w.heap.size w w'
theorem AK:b9 [⟨0,[],false⟩]:=
 ⟨by simp,λo h=>by simpa using h.symm,λk o h1 h2=>by rw[List.getElem?_cons]at h2;split at h2<;>first|omega|(simp at h2),λo ho v hv=>by simp at ho;subst ho;simp at hv⟩
theorem AH:fP [⟨0,[],false⟩]:=λo h=>by simp at h;subst h;simp
theorem Ui{w:World}{B:Nat}{ah:Int}{inp:List Int}{inv:Value}(hB:B<=w.heap.size)(gZ:vE w B inv inp):
  gS ((w.alloc (.cells (iG ah (zn inp) inv (.slice none 0 0)) 62)).alloc (.cells #[.slice none 0 0] 66)) w.heap.size (λk=>k=w.heap.size\/k=w.heap.size+1) w.heap.size (w.heap.size+1) ah (zn inp):=by
 have hb:=aJ w (.cells (iG ah (zn inp) inv (.slice none 0 0)) 62) (.cells #[.slice none 0 0] 66);refine⟨inv,.slice none 0 0,.slice none 0 0,λ_=>0,(Row.new _ _ _).alloc _,Row.new' _ _ (by simp),aH rfl,aT rfl,?_,World.ownsRow_nil _ _ _ _,λg hg=>(by cases hg),⟨⟨[],World.ownsRow_nil _ _ _ _,λk o h=>(by simp[zn,au]at h)⟩,λk o h=>(by simp[zn,au]at h),λi j h=>(by simp[zn,au]at h),?_,?_⟩,λg hg=>(by cases hg),λk hk=>?_⟩
 ·obtain⟨A,aA,h0,h1,h2,h3⟩:=gZ;refine⟨A,aA,h0,h1,h2,λhp=>?_⟩;obtain⟨b,off,hA,hlt,hc⟩:=h3 hp;exact⟨b,off,hA,by omega,λj x hj=>⟨(hb.cell (p:=⟨b,off+j,none⟩) (show b<w.heap.size by omega)).trans (hc j x hj).1,(hc j x hj).2⟩⟩
 ·exact AK
 ·exact AH
 ·simp only[World.size_alloc];rcases hk with rfl|rfl<;>omega
theorem JS{ah:Int}(hf:0<=ah){inp:List Int}(gZ:∀x,x∈inp->bz x){l:List jR}(oD:∀o,o∈l->q9 o/\∀x,x∈o.init->bz x)(hl:l.length<=16):GInv ah {zn inp with mem:=bf [] l}/\(au (bf [] l)).length=l.length+1:=by
 have h1:=pR [] l;have h2:(au ([]:List MO)).length=1:=rfl;have h3:b9 (au (bf [] l)):=AL l (M:=[]) AK oD (by omega);refine⟨⟨rfl,Int.le_refl _,hf,?_,Nat.zero_le _,Int.le_refl _,Int.le_refl _,gZ,h3,?_⟩,by omega⟩
 ·show(au (bf [] l)).length<=20+_;omega
 ·show fP (au (bf [] l));rw[<-rP];exact AH.makes l
theorem vE.Ib{w:World}{B:Nat}{v:Value}{l:List Int}(h:vE w B v l):∀x,x∈l->bz x:=by
 intro x hx;obtain⟨j,hj⟩:=List.mem_iff_getElem?.1 hx;have hlt:0<l.length:=List.length_pos_of_mem hx;obtain⟨A,aA,_,_,_,h3⟩:=h;obtain⟨b,off,_,_,hc⟩:=h3 hlt;exact(hc j x hj).2
theorem ni(w:World)(r:Nat)(a b c d e:Value):Wr (λi=>i=r) w (((((w.setCell ⟨r,0,none⟩ a).setCell ⟨r,1,none⟩ b).setCell ⟨r,2,none⟩ c).setCell ⟨r,3,none⟩ d).setCell ⟨r,4,none⟩ e):=
 (((((Wr.cell1 w r 0 a).trans (Wr.cell1 _ r 1 b) (λ_ h=>aH h)).trans (Wr.cell1 _ r 2 c) (λ_ h=>aH h)).trans (Wr.cell1 _ r 3 d) (λ_ h=>aH h)).trans (Wr.cell1 _ r 4 e) (λ_ h=>aH h))
theorem IZ(n:Nat):zF n=sU (eE [] n):=by
 unfold zF sU eE;rw[List.map_map];refine List.map_congr_left (λi _=>?_);simp[Nat.add_comm]
theorem mU{w:World}{ai:Nat}{e:TypeId}{size:Nat}{v:Value}{n:Nat}{xs:List Value}(h:w.ownsRow ai e size v n xs):∃A c,v= .slice A n c:=by
 rcases h.2 with⟨e,e'⟩|⟨gg,aA,cur,e,_⟩
 ·exact⟨none,0,by rw[e,e']⟩
 ·exact⟨_,_,e⟩
theorem O2{v:V}{s:St}:mP (some v,s)=mP (none,if v.obj>0 then {s with kind:=3}else {s with code:=v.n,kind:=1}):=by
 unfold mP;by_cases h:v.obj>0
 ·simp only[h,if_true]
 ·simp only[h,if_false]
def qI(p:aM):List aP->Bool
 |[]=>true
 |g::l=>mE p g && qI p l
def C3(p:aM):Prop:=eV p.ax 16=true/\¬(p.funcs.length:Int)<1/\¬(p.funcs.length:Int)>8/\(0<=p.main/\p.main<(p.funcs.length:Int))/\(p.funcs.getD p.main.toNat jv).params=0
instance(p:aM):Decidable (C3 p):=by unfold C3;exact inferInstance
def fA(p:aM):Bool:=if C3 p then qI p p.funcs else false
theorem bH.shape{w:World}{B:Nat}{P:Value×Value×Value}{p:aM}(h:bH w B P p):∃GA gc FA fc,P=(.slice GA p.ax.length gc,.slice FA p.funcs.length fc,.int .i64 p.main):=by
 obtain⟨P0,P1,P2⟩:=P;obtain⟨⟨A,c,h0,_⟩,⟨A',c',h1,_⟩,h2,_⟩:=h;simp only at h0 h1 h2;exact⟨_,_,_,_,by rw[h0,h1,h2]⟩
theorem FK(p:aM)(P:Value×Value×Value)(B:Nat)(w:World)(hB:B<=w.heap.size)(hP:bH w B P p)(Fk:∀g,g∈p.funcs->∀b,b∈g.blocks->b.steps.length<=200000000000000):
  Calls prog 22 #[.agg #[P.1,P.2.1,P.2.2]] w λe w'=>e= .returned (.bool (fA p))/\Below w.heap.size w w':=by
 obtain⟨GA,gc,FA,fc,rfl⟩:=hP.shape;have tq:=hP.2.1.len.2;have yF:=hP.1.len.2;have HO:=ae (λW(hb:Below w.heap.size w W)=>CZ p.ax GA p.ax.length gc 16 B W (by have:=hb.size;omega) (hP.1.below (hb.mono hB) (aN _) (λ_ _ h=>h.below (hb.mono hB) (aN _))));have zX:=ae (λW=>cQ p.main (p.funcs.length:Int) W);have CL:=ae (Row.new w #[.slice GA p.ax.length gc,.slice FA p.funcs.length fc,.int .i64 p.main] 31);have HP:=ae hP;have Za:=ae Fk;clear hP Fk;cases c1:eV p.ax 16 with
 |false=>
  rw[c1]at HO;have HE:=ae (show fA p=false from by unfold fA;rw[if_neg (λh=>absurd h.1 (by rw[c1];decide))]);clear c1;go_enter func22,ntmps22;refine ak λQ HQ=>?_;go_wp2_with fail;refine(HO _ (aj w _)).mono ?_;rintro e w1 ⟨rfl,hb1⟩;have bn:=ae ((aj w (.cells #[.slice GA p.ax.length gc,.slice FA p.funcs.length fc,.int .i64 p.main] 31)).trans (hb1.mono (aj w (.cells #[.slice GA p.ax.length gc,.slice FA p.funcs.length fc,.int .i64 p.main] 31)).size));have hg1:=CL.below hb1 CL.lt;have Ko:=ae hg1;have g0:=hg1.cell (j:=0) rfl;have g1:=hg1.cell (j:=1) rfl;have g2:=hg1.cell (j:=2) rfl;have gl:=hg1.lt;clear hb1 hg1;go_wp2_with fail;refine HQ _ _ _ ?_
  exact aR (v:= .bool false) (by simp[results,results22,go_sem]) rfl ⟨by rw[HE.out],bn.out⟩
 |true=>
  rw[c1]at HO;by_cases c2:(p.funcs.length:Int)<1
  ·have d2:decide ((p.funcs.length:Int)<1)=true:=by simpa using c2
   have HE:=ae (show fA p=false from by unfold fA;rw[if_neg (λh=>absurd c2 h.2.1)]);clear c1 c2;go_enter func22,ntmps22;refine ak λQ HQ=>?_;go_wp2_with fail;refine(HO _ (aj w _)).mono ?_;rintro e w1 ⟨rfl,hb1⟩;have bn:=ae ((aj w (.cells #[.slice GA p.ax.length gc,.slice FA p.funcs.length fc,.int .i64 p.main] 31)).trans (hb1.mono (aj w (.cells #[.slice GA p.ax.length gc,.slice FA p.funcs.length fc,.int .i64 p.main] 31)).size));have hg1:=CL.below hb1 CL.lt;have Ko:=ae hg1;have g0:=hg1.cell (j:=0) rfl;have g1:=hg1.cell (j:=1) rfl;have g2:=hg1.cell (j:=2) rfl;have gl:=hg1.lt;clear hb1 hg1;go_wp2_with fail;refine HQ _ _ _ ?_;exact aR (v:= .bool false) (by simp[results,results22,go_sem]) rfl ⟨by rw[HE.out],bn.out⟩
  ·have d2:decide ((p.funcs.length:Int)<1)=false:=by simpa using c2
   by_cases c3:(p.funcs.length:Int)>8
   ·have d3:decide (8<(p.funcs.length:Int))=true:=by simpa using c3
    have HE:=ae (show fA p=false from by unfold fA;rw[if_neg (λh=>absurd c3 h.2.2.1)]);clear c1 c2 c3;go_enter func22,ntmps22;refine ak λQ HQ=>?_;go_wp2_with fail;refine(HO _ (aj w _)).mono ?_;rintro e w1 ⟨rfl,hb1⟩;have bn:=ae ((aj w (.cells #[.slice GA p.ax.length gc,.slice FA p.funcs.length fc,.int .i64 p.main] 31)).trans (hb1.mono (aj w (.cells #[.slice GA p.ax.length gc,.slice FA p.funcs.length fc,.int .i64 p.main] 31)).size));have hg1:=CL.below hb1 CL.lt;have Ko:=ae hg1;have g0:=hg1.cell (j:=0) rfl;have g1:=hg1.cell (j:=1) rfl;have g2:=hg1.cell (j:=2) rfl;have gl:=hg1.lt;clear hb1 hg1;go_wp2_with fail;refine HQ _ _ _ ?_;exact aR (v:= .bool false) (by simp[results,results22,go_sem]) rfl ⟨by rw[HE.out],bn.out⟩
   ·have d3:decide (8<(p.funcs.length:Int))=false:=by simpa using c3
    by_cases c4:0<=p.main/\p.main<(p.funcs.length:Int)
    ·rw[decide_eq_true c4]at zX;obtain⟨mf,A9⟩:=Int.eq_ofNat_of_zero_le c4.1;have MV:mf<p.funcs.length:=by omega
     have VZ:=ae (List.getElem?_eq_getElem MV);have hgd:p.funcs.getD p.main.toNat jv=p.funcs[mf]:=by rw[A9,Int.toNat_natCast,List.getD_eq_getElem?_getD,VZ.out];rfl
     have mX:(0:Int)<=(mf:Int):=by omega
     have mr:(mf:Int)<(p.funcs.length:Int):=by omega
     have yE:C3 p↔p.funcs[mf].params=0:=by unfold C3;rw[hgd];exact⟨λh=>h.2.2.2.2,λh=>⟨c1,c2,c3,c4,h⟩⟩
     have JC:=ae yE;have HMF:=ae A9;rw[A9]at zX CL ⊢;have SU:=ae (A9▸HP.out:bH w B (.slice GA p.ax.length gc,.slice FA p.funcs.length fc,.int .i64 (mf:Nat)) p);clear yE hgd A9 c1 c2 c3 c4;by_cases c5:p.funcs[mf].params=0
     ·have d5:(p.funcs[mf].params !=0)=false:=by simpa using c5
      have HE:=ae (show fA p=qI p p.funcs from by unfold fA;rw[if_pos (JC.2 c5)]);rw[HE.out];clear c5;go_enter func22,ntmps22;refine ak λQ HQ=>?_;go_wp2_with fail;refine(HO _ (aj w _)).mono ?_;rintro e w1 ⟨rfl,hb1⟩;have bn:=ae ((aj w (.cells #[.slice GA p.ax.length gc,.slice FA p.funcs.length fc,.int .i64 (mf:Nat)] 31)).trans (hb1.mono (aj w (.cells #[.slice GA p.ax.length gc,.slice FA p.funcs.length fc,.int .i64 (mf:Nat)] 31)).size));have hg1:=CL.below hb1 CL.lt;have Ko:=ae hg1;have g0:=hg1.cell (j:=0) rfl;have g1:=hg1.cell (j:=1) rfl;have g2:=hg1.cell (j:=2) rfl;have gl:=hg1.lt;clear hb1 hg1
      obtain⟨gb,mD,g',Cp,hgb,iU,BP⟩:=(SU.2.1.below (bn.mono hB) (aN _) (λ_ _ h=>h.below (bn.mono hB) (aN _))).get MV;subst Cp;have y0:=BP.1;rw[VZ.out]at iU;injection iU with iU;subst iU;simp only[Nat.add_zero]at y0;have DC:gb<w1.heap.size:=by have:=bn.size;omega
      clear BP;go_wp2_with fail;refine(zX _).mono ?_;rintro e w' ⟨rfl,rfl⟩;go_wp2_with fail;go_loopw [44] (λi wr=>∃k:Nat,i= .int .i64 k/\k<=p.funcs.length/\qI p (p.funcs.drop k)=qI p p.funcs/\Below w.heap.size w wr/\Row wr w.heap.size #[.slice GA p.ax.length gc,.slice (some ⟨gb,mD,none⟩) p.funcs.length fc,.int .i64 (mf:Nat)] 31) (λi _=>p.funcs.length-(intOf i).toNat)
      case atStart=>exact⟨0,rfl,by omega,rfl,bn.out,Ko.out⟩
      case round=>
       obtain⟨k,rfl,hk,hcs,aG,hx⟩:=hrel;have gV:=ae hcs;have cV:=ae aG;have MF:=ae hx;have p0:=hx.cell (j:=0) rfl;have p1:=hx.cell (j:=1) rfl;have p2:=hx.cell (j:=2) rfl;have sI:=hx.lt;have fV:=aG.size;clear hcs hx g0 g1 g2 gl y0;by_cases hlt:k<p.funcs.length
       ·obtain⟨fb,lN,g,Cp,x8,GQ,BP⟩:=(SU.2.1.below (aG.mono hB) (aN _) (λ_ _ h=>h.below (aG.mono hB) (aN _))).get hlt;injection Cp with Cp;injection Cp with e1 e2;subst e1 e2;obtain⟨z0,z1,⟨lv,z2,hlv⟩,⟨bv,z3,GS⟩,_,_⟩:=BP;simp only[Nat.add_zero]at z0 z1 z2 z3;obtain⟨⟨LA,lc,Oj,_⟩,⟨BA,bc,Oy,_⟩⟩:=And.intro hlv GS;subst Oj Oy;have hb2:=aJ wr (.cells #[.int .i64 g.params,.int .i64 g.ay,.slice LA g.az.length lc,.slice BA g.blocks.length bc] 54) (.cells #[.slice GA p.ax.length gc,.slice (some ⟨gb,mD,none⟩) p.funcs.length fc,.int .i64 (mf:Nat),.int .i64 g.params,.int .i64 g.ay,.slice LA g.az.length lc,.slice BA g.blocks.length bc,.int .i64 0] 103)
        have Yl:=SU.2.1.below ((cV.trans (hb2.mono fV)).mono hB) (aN _) (λ_ _ h=>h.below ((cV.trans (hb2.mono fV)).mono hB) (aN _));have TV:=ae (RA ⟨GA,p.ax.length,gc,some ⟨gb,mD,none⟩,p.funcs.length,fc,(mf:Nat),g.params,g.ay,LA,g.az.length,lc,BA,g.blocks.length,bc⟩ (wr.heap.size+1) p g B ((wr.alloc (.cells #[.int .i64 g.params,.int .i64 g.ay,.slice LA g.az.length lc,.slice BA g.blocks.length bc] 54)).alloc (.cells #[.slice GA p.ax.length gc,.slice (some ⟨gb,mD,none⟩) p.funcs.length fc,.int .i64 (mf:Nat),.int .i64 g.params,.int .i64 g.ay,.slice LA g.az.length lc,.slice BA g.blocks.length bc,.int .i64 0] 103)) (by simp;omega) (by omega) ⟨rfl,Yl,rfl,rfl,rfl⟩ rfl
         (hlv.below (hb2.mono (by omega)) (aN _) (λ_ _ h=>h.below (hb2.mono (by omega)) (aN _))) (GS.below (hb2.mono (by omega)) (aN _) (λ_ _ h=>h.below (hb2.mono (by omega)) (aN _))) (Row.new' _ _ (by simp)) (Za.out g (List.mem_of_getElem? GQ)))
        have HD:=ae (show qI p (p.funcs.drop k)=(mE p g && qI p (p.funcs.drop (k+1)))from by rw[b8 GQ];rfl);have bL:=ae hb2;have qg:(k:Int)<(p.funcs.length:Int):=by omega
        have UX:gb<wr.heap.size:=by omega
        clear hlv GS aG GQ hb2 Yl;cases hg1:mE p g with
        |true=>
         rw[hg1]at TV HD;clear hg1;go_wp2_with fail;refine TV.mono ?_;rintro e w9 ⟨rfl,Ff⟩;have HW9:=ae (bL.trans (Ff.below (B:=wr.heap.size) (by simp;omega) (λk hk=>by omega)));clear Ff;go_wp2_with fail;go_roundw
         case rel=>exact⟨k+1,by go_num,by omega,by rw[<-gV.out,HD.out];rfl,cV.trans (HW9.mono fV),MF.below HW9.out MF.lt⟩
         case measure=>simp[intOf];omega
        |false=>
         have H9:=ae (show qI p p.funcs=false by rw[<-gV.out,HD.out,hg1];rfl);rw[hg1]at TV;clear hg1;go_wp2_with fail;refine TV.mono ?_;rintro e w9 ⟨rfl,Ff⟩;have HW9:=ae (bL.trans (Ff.below (B:=wr.heap.size) (by simp;omega) (λk hk=>by omega)));clear Ff;go_wp2_with fail;refine HQ _ _ _ ?_;exact aR (v:= .bool false) (by simp[results,results22,go_sem]) rfl ⟨by rw[H9.out],cV.trans (HW9.mono fV)⟩
       ·obtain rfl:k=p.funcs.length:=by omega
        have H9:=ae (show qI p p.funcs=true by rw[<-gV.out,bD (aN _)];rfl);go_wp2_with fail;refine HQ _ _ _ ?_;exact aR (v:= .bool true) (by simp[results,results22,go_sem]) rfl ⟨by rw[H9.out],cV.out⟩
     ·have d5:(p.funcs[mf].params !=0)=true:=by simpa using c5
      have HE:=ae (show fA p=false from by unfold fA;rw[if_neg (λh=>c5 (JC.1 h))]);clear c5;go_enter func22,ntmps22;refine ak λQ HQ=>?_;go_wp2_with fail;refine(HO _ (aj w _)).mono ?_;rintro e w1 ⟨rfl,hb1⟩;have bn:=ae ((aj w (.cells #[.slice GA p.ax.length gc,.slice FA p.funcs.length fc,.int .i64 (mf:Nat)] 31)).trans (hb1.mono (aj w (.cells #[.slice GA p.ax.length gc,.slice FA p.funcs.length fc,.int .i64 (mf:Nat)] 31)).size));have hg1:=CL.below hb1 CL.lt;have Ko:=ae hg1;have g0:=hg1.cell (j:=0) rfl;have g1:=hg1.cell (j:=1) rfl;have g2:=hg1.cell (j:=2) rfl;have gl:=hg1.lt;clear hb1 hg1
      obtain⟨gb,mD,g',Cp,hgb,iU,BP⟩:=(SU.2.1.below (bn.mono hB) (aN _) (λ_ _ h=>h.below (bn.mono hB) (aN _))).get MV;subst Cp;have y0:=BP.1;rw[VZ.out]at iU;injection iU with iU;subst iU;simp only[Nat.add_zero]at y0;have DC:gb<w1.heap.size:=by have:=bn.size;omega
      clear BP;go_wp2_with fail;refine(zX _).mono ?_;rintro e w' ⟨rfl,rfl⟩;go_wp2_with fail;refine HQ _ _ _ ?_;exact aR (v:= .bool false) (by simp[results,results22,go_sem]) rfl ⟨by rw[HE.out],bn.out⟩
    ·rw[decide_eq_false c4]at zX;have HE:=ae (show fA p=false from by unfold fA;rw[if_neg (λh=>absurd h.2.2.2.1 c4)]);clear c1 c2 c3 c4;go_enter func22,ntmps22;refine ak λQ HQ=>?_;go_wp2_with fail;refine(HO _ (aj w _)).mono ?_;rintro e w1 ⟨rfl,hb1⟩;have bn:=ae ((aj w (.cells #[.slice GA p.ax.length gc,.slice FA p.funcs.length fc,.int .i64 p.main] 31)).trans (hb1.mono (aj w (.cells #[.slice GA p.ax.length gc,.slice FA p.funcs.length fc,.int .i64 p.main] 31)).size));have hg1:=CL.below hb1 CL.lt;have Ko:=ae hg1;have g0:=hg1.cell (j:=0) rfl;have g1:=hg1.cell (j:=1) rfl;have g2:=hg1.cell (j:=2) rfl;have gl:=hg1.lt;clear hb1 hg1;go_wp2_with fail;refine(zX _).mono ?_;rintro e w' ⟨rfl,rfl⟩;go_wp2_with fail;refine HQ _ _ _ ?_
     exact aR (v:= .bool false) (by simp[results,results22,go_sem]) rfl ⟨by rw[HE.out],bn.out⟩
structure Pt (p:aM):Prop where
 ax:∀o,o∈p.ax->∀x,x∈o.init->bz x
 az:∀g,g∈p.funcs->∀o,o∈g.az->∀x,x∈o.init->bz x
 conds:∀g,g∈p.funcs->∀b,b∈g.blocks->Pr b.cond
 args:∀g,g∈p.funcs->∀b,b∈g.blocks->∀x,x∈b.steps->e9 x.args
 fns:∀g,g∈p.funcs->∀b,b∈g.blocks->∀x,x∈b.steps->bz x.fn
theorem aL.mem{α:Type}{w:World}{B sz:Nat}{E:(Nat->Option Value)->α->Prop}{l:List α}{v:Value}(h:aL w B sz E l v){x:α}(hx:x∈l):∃c,E c x:=by
 obtain⟨i,hi⟩:=List.mem_iff_getElem?.1 hx;obtain⟨A,aA,_,_,h2⟩:=h;obtain⟨b,off,_,_,h3⟩:=h2 (List.length_pos_of_mem hx);exact⟨_,h3 i x hi⟩
theorem bH.pin{w:World}{B:Nat}{P:Value×Value×Value}{p:aM}(h:bH w B P p):Pt p:=by
 obtain⟨hg,hf,_⟩:=h;refine⟨λo ho=>?_,λg Ri o ho=>?_,λg Ri b hb=>?_,λg Ri b hb x hx=>?_,λg Ri b hb x hx=>?_⟩
 ·obtain⟨c,_,_,⟨v,_,hv⟩,_⟩:=hg.mem ho;exact hv.Ib
 ·obtain⟨c,_,_,⟨v,_,hl⟩,_⟩:=hf.mem Ri;obtain⟨c,_,_,⟨v,_,hv⟩,_⟩:=hl.mem ho;exact hv.Ib
 ·obtain⟨c,_,_,_,⟨v,_,hl⟩,_⟩:=hf.mem Ri;obtain⟨c,_,_,⟨v0,v1,v2,_,_,_,ht⟩,_⟩:=hl.mem hb;exact ht.KH
 ·obtain⟨c,_,_,_,⟨v,_,hl⟩,_⟩:=hf.mem Ri;obtain⟨c,⟨v,_,hs⟩,_⟩:=hl.mem hb;obtain⟨c,_,_,_,_,⟨v,_,A,n,aA,_,hk⟩,_⟩:=hs.mem hx;exact hk.KH
 ·obtain⟨c,_,_,_,⟨v,_,hl⟩,_⟩:=hf.mem Ri;obtain⟨c,⟨v,_,hs⟩,_⟩:=hl.mem hb;obtain⟨c,_,_,_,_,_,_,_,_,hfn⟩:=hs.mem hx;exact hfn
mutual
theorem vz{nt nl ng:Nat}:∀(t:T),PX t->dB nt nl ng t=true->C8 nt nl ng t
 | .node op x ks,h,hn=>by
  obtain⟨h1,h2⟩:=qw.1 h;obtain⟨h3,h4,h5⟩:=Gn.1 h1;rw[dB]at hn;rw[C8];have hc:=AQ h3;have hk:ks.length=rB op:=by unfold rB;split<;>(try split)<;>omega
  refine⟨by omega,by omega,hk,λe=>?_,λe=>?_,λe=>?_,?_⟩
  ·rw[if_pos e]at hn;simp only[decide_eq_true_eq]at hn;exact⟨h5 (by omega),hn⟩
  ·rw[if_neg (by omega),if_pos e]at hn;simp only[decide_eq_true_eq]at hn;exact⟨h5 (by omega),hn⟩
  ·rw[if_neg (by omega),if_neg (by omega),if_pos e]at hn;simp only[decide_eq_true_eq]at hn;exact⟨h5 (by omega),hn⟩
  ·by_cases h9:op<=4
   ·have:ks=[]:=List.eq_nil_of_length_eq_zero (by omega);rw[this,fY];trivial
   ·rw[if_neg (by omega),if_neg (by omega),if_neg (by omega)]at hn;exact zE ks h2 hn
theorem zE{nt nl ng:Nat}:∀(ks:List T),rO ks->gy nt nl ng ks=true->fY nt nl ng ks
 |[],_,_=>by rw[fY];trivial
 |k::ks,h,hn=>by
  simp only[rO]at h;rw[gy,Bool.and_eq_true]at hn;rw[fY];exact⟨vz k h.1 hn.1,zE ks h.2 hn.2⟩
end
theorem zC{na nb nc n:Int}{t:T}(h:(bS na nb nc n t).1=true):sS t=true/\dB na nb nc t=true:=by
 unfold bS at h;split at h
 ·rename_i hc;exact hc
 ·cases h
theorem xA{na nb nc:Int}:∀(ks:List T){n:Int},(bB na nb nc ks n).1=true->∀k,k∈ks->sS k=true/\dB na nb nc k=true
 |[],n,_,k,hk=>by cases hk
 |a::ks,n,h,k,hk=>by
  rw[bB]at h;split at h
  ·rename_i ha;rcases List.mem_cons.1 hk with rfl|hk
   ·exact zC ha
   ·exact xA ks h k hk
  ·cases h
theorem TJ{nt nl ng:Nat}:∀(ks:List T),(∀k,k∈ks->sS k=true/\dB nt nl ng k=true)->fY nt nl ng ks
 |[],_=>by rw[fY];trivial
 |k::ks,h=>by
  rw[fY];have hk:=h k (by simp);exact⟨vz k (oA.1 hk.1).1 hk.2,TJ ks (λk hk=>h k (by simp[hk]))⟩
theorem FH{p:aM}{g:aP}{n:Int}{x:cM}{nt:Nat}(ht:g.ay=nt)(N5:∀g,g∈p.funcs->g.params<=4)(gZ:e9 x.args)(h:(cR p g n x).1=true):sO p nt g.az.length x:=by
 unfold cR at h;split at h
 ·cases h
 ·rename_i hb;split at h
  ·cases h
  ·rename_i hz;unfold lD at hb;rw[not_or,not_or,not_or]at hb;obtain⟨b1,b2,b3,b4⟩:=hb;have fH:=TJ x.args (by rw[ht]at h;exact xA x.args h);have Ea:(eM p x).2.2=true:=by simpa using b1
   have D9:(x.args.length:Int)=(eM p x).1:=by omega
   rw[not_and]at b3 b4;rw[ht]at b3;have key:x.args.length<=4/\((x.op=1/\x.args.length=1/\0<=x.to/\x.to<nt)\/(x.op=2/\x.args.length=2/\x.to= -1/\(x.size=1\/x.size=2\/x.size=4\/x.size=8))\/
     (x.op=3/\(∃f g,x.fn=((f:Nat):Int)/\p.funcs[f]? =some g/\(x.args.length:Int)=g.params)/\(x.to= -1\/0<=x.to/\x.to<nt))\/(x.op=4/\x.args.length=1/\x.to= -1)\/
     (x.op=5/\x.args.length=0/\0<=x.to/\x.to<nt)\/(x.op=6/\x.args.length=1/\x.to= -1)):=by
    unfold eM at Ea D9 b3 b4;by_cases h1:x.op=1
    ·rw[if_pos h1]at Ea D9 b3 b4;simp only at D9;exact⟨by omega,aH ⟨h1,by omega,Classical.not_not.1 (b3 rfl)⟩⟩
    ·rw[if_neg h1]at Ea D9 b3 b4;by_cases h2:x.op=2
     ·rw[if_pos h2]at Ea D9 b3 b4;simp only at D9 Ea;refine⟨by omega,aT (aH ⟨h2,by omega,Classical.not_not.1 (b4 rfl),?_⟩)⟩;unfold nG at Ea;simpa using Ea
     ·rw[if_neg h2]at Ea D9 b3 b4;by_cases h3:x.op=3
      ·rw[if_pos h3]at Ea D9 b3 b4;by_cases h4:0<=x.fn/\x.fn<p.funcs.length
       ·rw[if_pos h4]at Ea D9 b3 b4;obtain⟨f,hf⟩:=Int.eq_ofNat_of_zero_le h4.1;have tq:f<p.funcs.length:=by omega
        have Rk:=List.getElem?_eq_getElem tq;have hgd:p.funcs.getD x.fn.toNat jv=p.funcs[f]:=by rw[hf,Int.toNat_natCast,List.getD_eq_getElem?_getD,Rk];rfl
        rw[hgd]at D9;simp only at D9 b3 b4;have P6:=N5 _ (List.getElem_mem tq);refine⟨by omega,aT (aT (aH ⟨h3,⟨f,_,hf,Rk,D9⟩,?_⟩))⟩;by_cases h5:x.to= -1
        ·exact aH h5
        ·exact aT (Classical.not_not.1 (b3 (by simpa using h5)))
       ·rw[if_neg h4]at Ea;cases Ea
      ·rw[if_neg h3]at Ea D9 b3 b4;by_cases h4:x.op=4\/x.op=6
       ·rw[if_pos h4]at Ea D9 b3 b4;simp only at D9;have h6:=Classical.not_not.1 (b4 rfl);rcases h4 with h4|h4
        ·exact⟨by omega,aT (aT (aT (aH ⟨h4,by omega,h6⟩)))⟩
        ·exact⟨by omega,aT (aT (aT (aT (aT ⟨h4,by omega,h6⟩))))⟩
       ·rw[if_neg h4]at Ea D9 b3 b4;by_cases h5:x.op=5
        ·rw[if_pos h5]at Ea D9 b3 b4;simp only at D9;have h6:=Classical.not_not.1 (b3 rfl);exact⟨by omega,aT (aT (aT (aT (aH ⟨h5,by omega,h6⟩))))⟩
        ·rw[if_neg h5]at Ea;cases Ea
   exact⟨fH,gZ,by omega,key.2⟩
theorem xB{p:aM}{g:aP}:∀(l:List cM){n:Int},(eK p g l n).1=true->∀x,x∈l->∃m,(cR p g m x).1=true
 |[],n,_,x,hx=>by cases hx
 |a::l,n,h,x,hx=>by
  rw[eK]at h;split at h
  ·rename_i ha;rcases List.mem_cons.1 hx with rfl|hx
   ·exact⟨_,ha⟩
   ·exact xB l h x hx
  ·cases h
theorem I2{p:aM}{g:aP}{n:Int}{b:bW}{nt:Nat}(ht:g.ay=nt)(h1:0<g.blocks.length)(gZ:Pr b.cond)(h:(dI p g n b).1=true):
  (b.fin=1\/b.fin=2\/b.fin=3)/\(0<=b.next/\b.next<g.blocks.length)/\(0<=b.els/\b.els<g.blocks.length)/\(b.fin≠1->C8 nt g.az.length p.ax.length b.cond/\Pr b.cond):=by
 have tk:∀m,(bS g.ay g.az.length p.ax.length m b.cond).1=true->C8 nt g.az.length p.ax.length b.cond:=λm hm=>by
  rw[ht]at hm;obtain⟨h1,h2⟩:=zC hm;exact vz _ (oA.1 h1).1 h2
 unfold dI at h;split at h
 ·rename_i f1;split at h
  ·rename_i f2;exact⟨aH f1,f2.1,by omega,λh=>absurd f1 h⟩
  ·cases h
 ·rename_i f1;split at h
  ·rename_i f2;split at h
   ·rename_i f3;exact⟨aT (aH f2),f3.1,f3.2,λ_=>⟨tk _ h,gZ⟩⟩
   ·cases h
  ·rename_i f2;split at h
   ·rename_i f3;split at h
    ·rename_i f4;exact⟨aT (aT f3),by omega,by omega,λ_=>⟨tk _ h,gZ⟩⟩
    ·cases h
   ·cases h
theorem tu{p:aM}{g:aP}:∀(l:List bW){s n:Int},0<=s->(dL p g l s n).1=true->∀b,b∈l->(∃m,(eK p g b.steps m).1=true)/\(∃m,(dI p g m b).1=true)/\(b.steps.length:Int)<=2000
 |[],s,n,_,_,b,hb=>by cases hb
 |a::l,s,n,hs,h,b,hb=>by
  rw[dL]at h;split at h
  ·rename_i h1;split at h
   ·cases h
   ·rename_i h2;split at h
    ·rename_i h3;rcases List.mem_cons.1 hb with rfl|hb
     ·exact⟨⟨_,h1⟩,⟨_,h3⟩,by omega⟩
     ·exact tu l (by omega) h b hb
    ·cases h
  ·cases h
theorem JU{l:List jR}:qx l=true->∀o,o∈l->q9 o:=by
 induction l with
 |nil=>intro _ o ho;cases ho
 |cons a l ih=>
  intro h o ho;rw[qx,Bool.and_eq_true]at h;rcases List.mem_cons.1 ho with rfl|ho
  ·have h1:=h.1;unfold JV nG iI at h1;simp at h1;exact⟨by omega,by omega,by omega,by omega⟩
  ·exact ih h.2 o ho
theorem LL{p:aM}{g:aP}(N5:∀g,g∈p.funcs->g.params<=4)(hl:∀o,o∈g.az->∀x,x∈o.init->bz x)(hc:∀b,b∈g.blocks->Pr b.cond)(ha:∀b,b∈g.blocks->∀x,x∈b.steps->e9 x.args)(h:mE p g=true):Dg p g:=by
 unfold mE at h;split at h
 ·rename_i hh;obtain⟨h1,h2,h3,h4,h5,h6,h7⟩:=hh;obtain⟨nt,uZ⟩:=Int.eq_ofNat_of_zero_le (show 0<=g.ay by omega);unfold eV at h5;rw[Bool.and_eq_true,decide_eq_true_eq]at h5;refine⟨⟨nt,uZ,by omega,λb hb=>?_⟩,by omega,λo ho=>⟨JU h5.1 o ho,hl o ho⟩,by omega,by omega,by omega⟩;obtain⟨⟨m1,k1⟩,⟨m2,k2⟩,k3⟩:=tu g.blocks (by omega) h b hb;obtain⟨e1,e2,e3,e4⟩:=I2 uZ (by omega) (hc b hb) k2;exact⟨λx hx=>(by obtain⟨m,hm⟩:=xB b.steps k1 x hx;exact FH uZ N5 (ha b hb x hx) hm),by omega,e1,e2,e3,e4⟩
 ·cases h
theorem Bn{p:aM}:∀(l:List aP),qI p l=true->∀g,g∈l->mE p g=true
 |[],_,g,hg=>by cases hg
 |a::l,h,g,hg=>by
  rw[qI,Bool.and_eq_true]at h;rcases List.mem_cons.1 hg with rfl|hg
  ·exact h.1
  ·exact Bn l h.2 g hg
theorem J6{p:aM}(gZ:Pt p)(h:fA p=true):sP p:=by
 unfold fA at h;split at h
 ·rename_i hh;obtain⟨h1,h2,h3,h4,h5⟩:=hh;unfold eV at h1;rw[Bool.and_eq_true,decide_eq_true_eq]at h1;have hall:=Bn p.funcs h;have N5:∀g,g∈p.funcs->g.params<=4:=λg hg=>by
   have:=hall g hg;unfold mE at this;split at this
   ·rename_i hd;have:=hd.2.1;omega
   ·cases this
  obtain⟨f,hf⟩:=Int.eq_ofNat_of_zero_le h4.1;have tq:f<p.funcs.length:=by omega
  have Rk:=List.getElem?_eq_getElem tq;have hgd:p.funcs.getD p.main.toNat jv=p.funcs[f]:=by rw[hf,Int.toNat_natCast,List.getD_eq_getElem?_getD,Rk];rfl
  rw[hgd]at h5;exact⟨λo ho=>⟨JU h1.1 o ho,gZ.ax o ho⟩,by omega,λg hg=>LL N5 (gZ.az g hg) (gZ.conds g hg) (gZ.args g hg) (hall g hg),f,_,hf,Rk,h5⟩
 ·cases h
end Go.Proofs.YtikbdplllopjlaaGreat
