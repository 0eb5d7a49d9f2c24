/- The graph's asker: how a block ends. Conditions: as stated. Whether objects may be (plain). No condition. The graph's checks: Objects. Conditions: as stated. A region that draws its order, by what holds after each set of its operations. No program in sight. No condition. A region that draws its order and whose operations at most make new memory, by what each operation's result is. No program in sight. No condition. A region that draws its order, makes one box and writes it whole; its other operations at most make new memory. No program in sight. No condition. Regions that draw their order: one box made and written, or an old box written; results that own memory. No program in sight. No condition. Trees whose rows of kids are all blocks of their own. No program in sight but its name. No condition. A row of trees of the call's own that grows by one. No program in sight but its name. No condition. How long a program's lists may be: what memory may hold. No program in sight. No condition. The page's memory: a value is stored. Conditions: as stated. EqTree, EqTrees: whether two trees are the same. No condition. names, within: whether all that a tree names is there. Conditions: as stated. step: whether a step may be: those that set a temporary, or read what comes in. Conditions: as stated. Objs: whether objects may be. Conditions: as stated. TreeWeight: how much a tree is. Conditions: as stated. What is read as trees lies in memory as trees. No condition. -/
import Derived.Test.YtikbdplllopjlaaGreatGAskEZz
import Derived.Deep.AppendLies
import Derived.SizedLaws
import Derived.Deep.Slices
import Derived.Deep.Strs
import Derived.ProofKit
set_option linter.unusedVariables false
set_option linter.unusedSimpArgs false
set_option maxHeartbeats 8000000
set_option maxRecDepth 100000
open Go.Proofs.Tryz
namespace Go.Proofs.YtikbdplllopjlaaGreat
open Go.RowKit
def dI(p:aM)(g:aP)(n:Int)(b:bW):Bool×Int:=
 if b.fin=1 then(if(0<=b.next/\b.next<g.blocks.length)/\b.els=0 then(rW b.cond,n)else(false,n))
 else if b.fin=2 then(if(0<=b.next/\b.next<g.blocks.length)/\(0<=b.els/\b.els<g.blocks.length)then bS g.ay g.az.length p.ax.length n b.cond else(false,n))
 else if b.fin=3 then(if b.next=0/\b.els=0 then bS g.ay g.az.length p.ax.length n b.cond else(false,n))else(false,n)
theorem OU(a:oM)(ab:Nat)(n:Int)(p:aM)(g:aP)(b:bW)(SV:Value)(CA:Option Addr)(cl cc:Nat)(ca cb:Int)(B:Nat)(w:World)(hB:B<=w.heap.size)(hab:B<=ab)(ha:BK w B a p g)(hr:ry w ab a n)(BO:0<=n)(jw:n<=8000)(rR:∃A l c,SV= .slice A l c)
  (lW:aX w (dP B) b.cond (.int .i64 ca) (.int .i64 cb) (.slice CA cl cc))(sL:g.blocks.length<=9223372036854775807):
  Calls prog 60 #[.pointer (some ⟨ab,0,none⟩),.agg #[SV,.int .i64 b.fin,.int .i64 ca,.int .i64 cb,.slice CA cl cc,.int .i64 b.next,.int .i64 b.els]] w λe w'=>fE a ab (dI p g n b) w e w':=by
 obtain⟨steps,fin,cond,next,els⟩:=b;obtain⟨SA,sl,sc,rfl⟩:=rR;simp only at lW ⊢;have HT:=ae (λW(hW:Below w.heap.size w W)=>lM a ab n cond B W _ _ _ (by have:=hW.size;omega) (lW.below (hW.mono hB) (aN _)) (hr.below hW) BO (by omega));rw[ha.ay,ha.nl,ha.ng]at HT;simp only[fE]at HT;have Kk:=ae (λW(hW:Below w.heap.size w W)=>LG cond B W _ _ _ (lW.below (hW.mono hB) (aN _)));have HR:=ae hr;have Cn:=ha.nb;have r6:w.cell? ⟨ab,6,none⟩=some (.slice a.ba a.nb a.bc):=Row.cell hr rfl;have N2:=Row.lt hr;have Q7:ab<w.heap.size+1:=by omega
 clear hr ha lW;have h:fin=1\/fin=2\/fin=3\/(fin≠1/\fin≠2/\fin≠3):=by omega
 rcases h with rfl|rfl|rfl|⟨f1,f2,f3⟩
 ·by_cases h1:0<=next/\next<(a.nb:Int)
  ·have GW:0<=next/\next<(g.blocks.length:Int):=by omega
   by_cases h2:els=0
   ·subst h2;rw[show dI p g n ⟨steps,1,cond,next,0⟩=(rW cond,n)from by unfold dI;rw[if_pos rfl,if_pos ⟨GW,rfl⟩]];have dG:=ae (show∀W,Calls prog 38 #[.int .i64 next,.int .i64 (a.nb:Nat)] W λe w'=>e= .returned (.bool true)/\W=w' from λW=>by have:=cQ next (a.nb:Nat) W;rwa [decide_eq_true h1]at this);clear h1 GW;clear Cn;go_enter func60,ntmps60;refine ak λQ HQ=>?_;go_wp2_with fail;refine(dG _).mono ?_;rintro e w' ⟨rfl,rfl⟩;go_wp2_with fail;refine(Kk _ (aj _ _)).mono ?_;rintro e w3 ⟨rfl,hb3⟩;have jd:=ae ((aj w _).trans (hb3.mono (aj w _).size));clear hb3;go_wp2_with fail;refine HQ _ _ _ ?_
    exact aR (v:= .bool (rW cond)) (by simp[results,results60,go_sem]) rfl ⟨rfl,HR.below jd.out,Wr.of_below jd.out⟩
   ·have e2:(els==0)=false:=by simpa using h2
    rw[show dI p g n ⟨steps,1,cond,next,els⟩=(false,n)from by unfold dI;rw[if_pos rfl,if_neg (λh=>h2 h.2)]];have dG:=ae (show∀W,Calls prog 38 #[.int .i64 next,.int .i64 (a.nb:Nat)] W λe w'=>e= .returned (.bool true)/\W=w' from λW=>by have:=cQ next (a.nb:Nat) W;rwa [decide_eq_true h1]at this);clear h1 GW h2;clear Cn;go_enter func60,ntmps60;refine ak λQ HQ=>?_;go_wp2_with fail;refine(dG _).mono ?_;rintro e w' ⟨rfl,rfl⟩;go_wp2_with fail;refine HQ _ _ _ ?_;exact aR (v:= .bool false) (by simp[results,results60,go_sem]) rfl ⟨rfl,HR.below (aj _ _),Wr.of_below (aj _ _)⟩
  ·have GW:¬(0<=next/\next<(g.blocks.length:Int)):=by omega
   rw[show dI p g n ⟨steps,1,cond,next,els⟩=(false,n)from by unfold dI;rw[if_pos rfl,if_neg (λh=>GW h.1)]];have dG:=ae (show∀W,Calls prog 38 #[.int .i64 next,.int .i64 (a.nb:Nat)] W λe w'=>e= .returned (.bool false)/\W=w' from λW=>by have:=cQ next (a.nb:Nat) W;rwa [decide_eq_false h1]at this);clear h1 GW;clear Cn;go_enter func60,ntmps60;refine ak λQ HQ=>?_;go_wp2_with fail;refine(dG _).mono ?_;rintro e w' ⟨rfl,rfl⟩;go_wp2_with fail;refine HQ _ _ _ ?_;exact aR (v:= .bool false) (by simp[results,results60,go_sem]) rfl ⟨rfl,HR.below (aj _ _),Wr.of_below (aj _ _)⟩
 ·by_cases h1:0<=next/\next<(a.nb:Int)
  ·have GW:0<=next/\next<(g.blocks.length:Int):=by omega
   by_cases h2:0<=els/\els<(a.nb:Int)
   ·have IM:0<=els/\els<(g.blocks.length:Int):=by omega
    rw[show dI p g n ⟨steps,2,cond,next,els⟩=bS g.ay g.az.length p.ax.length n cond from by unfold dI;rw[if_neg (show¬(2:Int)=1 by decide),if_pos rfl,if_pos ⟨GW,IM⟩]];have dG:=ae (show∀W,Calls prog 38 #[.int .i64 next,.int .i64 (a.nb:Nat)] W λe w'=>e= .returned (.bool true)/\W=w' from λW=>by have:=cQ next (a.nb:Nat) W;rwa [decide_eq_true h1]at this);have gU:=ae (show∀W,Calls prog 38 #[.int .i64 els,.int .i64 (a.nb:Nat)] W λe w'=>e= .returned (.bool true)/\W=w' from λW=>by have:=cQ els (a.nb:Nat) W;rwa [decide_eq_true h2]at this);clear h1 GW h2 IM;clear Cn;go_enter func60,ntmps60;refine ak λQ HQ=>?_;go_wp2_with fail;refine(dG _).mono ?_;rintro e w' ⟨rfl,rfl⟩;go_wp2_with fail
    refine(gU _).mono ?_;rintro e w' ⟨rfl,rfl⟩;go_wp2_with fail;refine(HT _ (aj _ _)).mono ?_;rintro e w3 ⟨rfl,hr3,hw3⟩;have x9:=ae hr3;have lZ:=ae ((Wr.of_below (F:=λk=>k=ab) (aj w _)).trans hw3 (λ_ h=>aH h));clear hr3 hw3;go_wp2_with fail;refine HQ _ _ _ ?_;exact aR (v:= .bool (bS g.ay g.az.length p.ax.length n cond).1) (by simp[results,results60,go_sem]) rfl ⟨rfl,x9.out,lZ.out⟩
   ·have IM:¬(0<=els/\els<(g.blocks.length:Int)):=by omega
    rw[show dI p g n ⟨steps,2,cond,next,els⟩=(false,n)from by unfold dI;rw[if_neg (show¬(2:Int)=1 by decide),if_pos rfl,if_neg (λh=>IM h.2)]];have dG:=ae (show∀W,Calls prog 38 #[.int .i64 next,.int .i64 (a.nb:Nat)] W λe w'=>e= .returned (.bool true)/\W=w' from λW=>by have:=cQ next (a.nb:Nat) W;rwa [decide_eq_true h1]at this);have gU:=ae (show∀W,Calls prog 38 #[.int .i64 els,.int .i64 (a.nb:Nat)] W λe w'=>e= .returned (.bool false)/\W=w' from λW=>by have:=cQ els (a.nb:Nat) W;rwa [decide_eq_false h2]at this);clear h1 GW h2 IM;clear Cn;go_enter func60,ntmps60;refine ak λQ HQ=>?_;go_wp2_with fail;refine(dG _).mono ?_;rintro e w' ⟨rfl,rfl⟩;go_wp2_with fail;refine(gU _).mono ?_;rintro e w' ⟨rfl,rfl⟩
    go_wp2_with fail;refine HQ _ _ _ ?_;exact aR (v:= .bool false) (by simp[results,results60,go_sem]) rfl ⟨rfl,HR.below (aj _ _),Wr.of_below (aj _ _)⟩
  ·have GW:¬(0<=next/\next<(g.blocks.length:Int)):=by omega
   rw[show dI p g n ⟨steps,2,cond,next,els⟩=(false,n)from by unfold dI;rw[if_neg (show¬(2:Int)=1 by decide),if_pos rfl,if_neg (λh=>GW h.1)]];have dG:=ae (show∀W,Calls prog 38 #[.int .i64 next,.int .i64 (a.nb:Nat)] W λe w'=>e= .returned (.bool false)/\W=w' from λW=>by have:=cQ next (a.nb:Nat) W;rwa [decide_eq_false h1]at this);clear h1 GW;clear Cn;go_enter func60,ntmps60;refine ak λQ HQ=>?_;go_wp2_with fail;refine(dG _).mono ?_;rintro e w' ⟨rfl,rfl⟩;go_wp2_with fail;refine HQ _ _ _ ?_;exact aR (v:= .bool false) (by simp[results,results60,go_sem]) rfl ⟨rfl,HR.below (aj _ _),Wr.of_below (aj _ _)⟩
 ·by_cases h1:next=0
  ·subst h1;by_cases h2:els=0
   ·subst h2;rw[show dI p g n ⟨steps,3,cond,0,0⟩=bS g.ay g.az.length p.ax.length n cond from by unfold dI;rw[if_neg (show¬(3:Int)=1 by decide),if_neg (show¬(3:Int)=2 by decide),if_pos rfl,if_pos ⟨rfl,rfl⟩]];clear Cn;go_enter func60,ntmps60;refine ak λQ HQ=>?_;go_wp2_with fail;refine(HT _ (aj _ _)).mono ?_;rintro e w3 ⟨rfl,hr3,hw3⟩;have x9:=ae hr3;have lZ:=ae ((Wr.of_below (F:=λk=>k=ab) (aj w _)).trans hw3 (λ_ h=>aH h));clear hr3 hw3;go_wp2_with fail;refine HQ _ _ _ ?_;exact aR (v:= .bool (bS g.ay g.az.length p.ax.length n cond).1) (by simp[results,results60,go_sem]) rfl ⟨rfl,x9.out,lZ.out⟩
   ·have e2:(els==0)=false:=by simpa using h2
    rw[show dI p g n ⟨steps,3,cond,0,els⟩=(false,n)from by unfold dI;rw[if_neg (show¬(3:Int)=1 by decide),if_neg (show¬(3:Int)=2 by decide),if_pos rfl,if_neg (λh=>h2 h.2)]];clear h2;clear Cn;go_enter func60,ntmps60;refine ak λQ HQ=>?_;go_wp2_with fail;refine HQ _ _ _ ?_;exact aR (v:= .bool false) (by simp[results,results60,go_sem]) rfl ⟨rfl,HR.below (aj _ _),Wr.of_below (aj _ _)⟩
  ·have e1:(next==0)=false:=by simpa using h1
   rw[show dI p g n ⟨steps,3,cond,next,els⟩=(false,n)from by unfold dI;rw[if_neg (show¬(3:Int)=1 by decide),if_neg (show¬(3:Int)=2 by decide),if_pos rfl,if_neg (λh=>h1 h.1)]];clear h1;clear Cn;go_enter func60,ntmps60;refine ak λQ HQ=>?_;go_wp2_with fail;refine HQ _ _ _ ?_;exact aR (v:= .bool false) (by simp[results,results60,go_sem]) rfl ⟨rfl,HR.below (aj _ _),Wr.of_below (aj _ _)⟩
 ·have e1:(fin==1)=false:=by simpa using f1
  have e2:(fin==2)=false:=by simpa using f2
  have e3:(fin==3)=false:=by simpa using f3
  rw[show dI p g n ⟨steps,fin,cond,next,els⟩=(false,n)from by unfold dI;rw[if_neg f1,if_neg f2,if_neg f3]];clear f1 f2 f3;clear Cn;go_enter func60,ntmps60;refine ak λQ HQ=>?_;go_wp2_with fail;refine HQ _ _ _ ?_;exact aR (v:= .bool false) (by simp[results,results60,go_sem]) rfl ⟨rfl,HR.below (aj _ _),Wr.of_below (aj _ _)⟩
def JV(o:jR):Bool:=nG o.size && iI o.count 1 64 && !decide ((o.init.length:Int)>o.count)
def qx:List jR->Bool
 |[]=>true
 |o::l=>JV o && qx l
def eV(l:List jR)(most:Int):Bool:=qx l && decide ((l.length:Int)<=most)
theorem CZ(l:List jR)(A:Option Addr)(n aA:Nat)(most:Int)(B:Nat)(w:World)(hB:B<=w.heap.size)(hl:aL w B 3 (rf w B) l (.slice A n aA)):
  Calls prog 37 #[.slice A n aA,.int .i64 most] w λe w'=>e= .returned (.bool (eV l most))/\Below w.heap.size w w':=by
 obtain⟨xg,hn⟩:=hl.len;have HL:=ae hl;have Dd:=ae xg;clear hl xg;go_enter func37,ntmps37;refine ak λQ HQ=>?_;go_wp2_with fail;go_loopw [9] (λi wr=>∃k:Nat,k<=n/\i= .int .i64 k/\qx (l.drop k)=qx l/\Below w.heap.size w wr) (λi _=>n-(intOf i).toNat)
 case atStart=>exact⟨0,by omega,rfl,rfl,bI _ _⟩
 case round=>
  obtain⟨k,hk,rfl,hcs,aG⟩:=hrel;have gV:=ae hcs;have cV:=ae aG;clear hcs;have fV:=aG.size;by_cases hlt:k<n
  ·obtain⟨b,off,o,rfl,hb,bA,c0,c1,⟨v,c2,hv⟩,_,_⟩:=(HL.below (aG.mono hB) (aN _) (λ_ _ h=>h.below (aG.mono hB) (aN _))).get hlt;simp only[Nat.add_zero]at c0 c1 c2;obtain⟨IA,icap,Qb⟩:∃IA icap,v= .slice IA o.init.length icap:=(by obtain⟨A',c',h,_⟩:=hv;exact⟨_,_,h⟩)
   subst Qb;have x7:=hv.len.2;have HD:=ae (show qx (l.drop k)=(JV o && qx (l.drop (k+1)))from by rw[b8 bA];rfl);have eY:(k:Int)<(n:Int):=by omega
   have hbl:b<wr.heap.size:=by omega
   have HS:=ae (λW=>CY o.size W);clear bA hv aG;have xY:=ae (show JV o=false->qx l=false from λh=>by rw[<-gV.out,HD.out,h];rfl);have xV:=ae (show JV o=true->qx (l.drop (k+1))=qx l from λh=>by rw[<-gV.out,HD.out,h];rfl);cases jZ:nG o.size with
   |false=>
    rw[jZ]at HS;have HE:=ae (show eV l most=false by unfold eV;rw[xY (by unfold JV;rw[jZ];rfl)];rfl);clear jZ;go_wp2_with fail;refine(HS _).mono ?_;rintro e w' ⟨rfl,rfl⟩;go_wp2_with fail;refine HQ _ _ _ ?_;exact aR (v:= .bool false) (by simp[results,results37,go_sem]) rfl ⟨by rw[HE.out],cV.trans ((aj wr (.cells #[.int .i64 o.size,.int .i64 o.count,.slice IA o.init.length icap] 85)).mono fV)⟩
   |true=>
    rw[jZ]at HS;by_cases h1:o.count<1
    ·have d1:decide (o.count<1)=true:=by simpa using h1
     have HE:=ae (show eV l most=false by unfold eV;rw[xY (by unfold JV iI;rw[jZ];simp;omega)];rfl);clear jZ h1;go_wp2_with fail;refine(HS _).mono ?_;rintro e w' ⟨rfl,rfl⟩;go_wp2_with fail;refine HQ _ _ _ ?_;exact aR (v:= .bool false) (by simp[results,results37,go_sem]) rfl ⟨by rw[HE.out],cV.trans ((aj wr (.cells #[.int .i64 o.size,.int .i64 o.count,.slice IA o.init.length icap] 85)).mono fV)⟩
    ·have d1:decide (o.count<1)=false:=by simpa using h1
     by_cases h2:o.count>64
     ·have d2:decide (64<o.count)=true:=by simpa using h2
      have HE:=ae (show eV l most=false by unfold eV;rw[xY (by unfold JV iI;rw[jZ];simp;omega)];rfl);clear jZ h1 h2;go_wp2_with fail;refine(HS _).mono ?_;rintro e w' ⟨rfl,rfl⟩;go_wp2_with fail;refine HQ _ _ _ ?_;exact aR (v:= .bool false) (by simp[results,results37,go_sem]) rfl ⟨by rw[HE.out],cV.trans ((aj wr (.cells #[.int .i64 o.size,.int .i64 o.count,.slice IA o.init.length icap] 85)).mono fV)⟩
     ·have d2:decide (64<o.count)=false:=by simpa using h2
      by_cases h3:(o.init.length:Int)>o.count
      ·have d3:decide (o.count<(o.init.length:Int))=true:=by simpa using h3
       have HE:=ae (show eV l most=false by unfold eV;rw[xY (by unfold JV iI;rw[jZ];simp;omega)];rfl);clear jZ h1 h2 h3;go_wp2_with fail;refine(HS _).mono ?_;rintro e w' ⟨rfl,rfl⟩;go_wp2_with fail;refine HQ _ _ _ ?_;exact aR (v:= .bool false) (by simp[results,results37,go_sem]) rfl ⟨by rw[HE.out],cV.trans ((aj wr (.cells #[.int .i64 o.size,.int .i64 o.count,.slice IA o.init.length icap] 85)).mono fV)⟩
      ·have d3:decide (o.count<(o.init.length:Int))=false:=by simpa using h3
       have HE:=ae (xV (by unfold JV iI;rw[jZ];simp;omega));clear jZ h1 h2 h3;go_wp2_with fail;refine(HS _).mono ?_;rintro e w' ⟨rfl,rfl⟩;go_wp2_with fail;go_roundw
       case rel=>exact⟨k+1,by omega,by go_num,HE.out,cV.trans ((aj wr (.cells #[.int .i64 o.size,.int .i64 o.count,.slice IA o.init.length icap] 85)).mono fV)⟩
       case measure=>simp[intOf];omega
  ·obtain rfl:k=n:=by omega
   have he:qx l=true:=by rw[<-gV.out,bD (by rw[Dd.out];exact aN _)];rfl
   have hl2:eV l most=decide ((k:Int)<=most):=by unfold eV;rw[he,Dd.out];rfl
   have HE:=ae hl2;clear he hl2;go_wp2_with fail;refine HQ _ _ _ ?_;exact aR (v:= .bool (decide ((k:Int)<=most))) (by simp[results,results37,go_sem]) rfl ⟨by rw[HE.out],cV.out⟩
def wS(n:Nat)(listed:Array Bool):Nat:=((List.range n).filter λj=>!listed.getD j true).length
theorem xH{α:Type}{p q:α->Bool}:∀(l:List α),(∀x,q x=true->p x=true)->(l.filter q).length<=(l.filter p).length
 |[],_=>by simp
 |x::l,h=>by
  have ih:=xH l h;cases hq:q x
  ·rw[List.filter_cons_of_neg (by simp[hq])];cases hp:p x
   ·rw[List.filter_cons_of_neg (by simp[hp])];exact ih
   ·rw[List.filter_cons_of_pos hp];simp;omega
  ·rw[List.filter_cons_of_pos hq,List.filter_cons_of_pos (h x hq)];simpa using ih
theorem xG{α:Type}{p q:α->Bool}:∀(l:List α)(y:α),(∀x,q x=true->p x=true)->y∈l->p y=true->q y=false->(l.filter q).length<(l.filter p).length
 |[],y,_,hy,_,_=>by simp at hy
 |x::l,y,h,hy,hp,hq=>by
  by_cases hxy:x=y
  ·subst hxy;rw[List.filter_cons_of_pos hp,List.filter_cons_of_neg (by simp[hq])];have:=xH l h;simp;omega
  ·have hy':y∈l:=by rcases List.mem_cons.1 hy with h|h;exact absurd h.symm hxy;exact h
   have ih:=xG l y h hy' hp hq;cases hq':q x
   ·rw[List.filter_cons_of_neg (by simp[hq'])];cases MT:p x
    ·rw[List.filter_cons_of_neg (by simp[MT])];exact ih
    ·rw[List.filter_cons_of_pos MT];simp;omega
   ·rw[List.filter_cons_of_pos hq',List.filter_cons_of_pos (h x hq')];simpa using ih
theorem wR{n i:Nat}{listed:Array Bool}(hi:i<n)(h:listed.getD i true=false):wS n (listed.setIfInBounds i true)<wS n listed:=by
 refine xG _ i (λx hx=>?_) (List.mem_range.2 hi) (by simp[h]) ?_
 ·by_cases Tm:i=x
  ·subst Tm;simp[h]
  ·rw[getD_set_ne true Tm]at hx;exact hx
 ·have hlt:i<listed.size:=by
   rcases Nat.lt_or_ge i listed.size with h'|h'
   ·exact h'
   ·simp[Array.getD,Nat.not_lt.2 h']at h
  simp[Array.getD,hlt]
theorem CN{P:Program}{md:Region.Mode}{ops:Array Oper}{Q:Exit->Act->World->Prop}(Inv:Array Bool->Act->World->Prop)
  (hstep:∀listed a w i,i∈Region.ready md ops listed->Inv listed a w->wpOp P ops Q i (λa' w'=>Inv (listed.setIfInBounds i true) a' w') a w)
  (hend:∀listed a w,Region.ready md ops listed=[]->Inv listed a w->Q .normal a w):
  ∀(ah:Nat)(listed:Array Bool)(a:Act)(w:World),wS ops.size listed<=ah->Inv listed a w->wpAny P md ops Q ah listed a w
 |0,listed,a,w,hf,h=>by
  have hr:Region.ready md ops listed=[]:=by
   cases hr:Region.ready md ops listed with
   |nil=>rfl
   |cons i l=>
    have hm:i∈Region.ready md ops listed:=by rw[hr];simp
    obtain⟨h1,o,ho,_⟩:=mem_ready.1 hm;have hlt:i<ops.size:=by
     rcases Nat.lt_or_ge i ops.size with h'|h'
     ·exact h'
     ·rw[Array.getElem?_eq_none h']at ho;cases ho
    have:=wR hlt h1;omega
  exact⟨hr,hend listed a w hr h⟩
 |ah+1,listed,a,w,hf,h=>by
  refine⟨λhr=>hend listed a w hr h,λi hi=>?_⟩;obtain⟨h1,o,ho,_⟩:=mem_ready.1 hi;have hlt:i<ops.size:=by
   rcases Nat.lt_or_ge i ops.size with h'|h'
   ·exact h'
   ·rw[Array.getElem?_eq_none h']at ho;cases ho
  have hu:=wR hlt h1;exact wpOp_mono (λa' w' h'=>CN Inv hstep hend ah _ a' w' (by omega) h') (hstep listed a w i hi h)
theorem lT{P:Program}{id:Nat}{Q:Exit->Act->World->Prop}{a:Act}{w:World}{l:List Oper}(hm:P.follows .mixedOrders=true)(Inv:Array Bool->Act->World->Prop)
  (h0:Inv (Array.replicate l.toArray.size false) a w.drew)
  (hstep:∀listed a w i,i∈Region.ready .any l.toArray listed->Inv listed a w->wpOp P l.toArray Q i (λa' w'=>Inv (listed.setIfInBounds i true) a' w') a w)
  (hend:∀listed a w,Region.ready .any l.toArray listed=[]->Inv listed a w->Q .normal a w):(Code.region id l.toArray true).wp P Q a w:=
 wp_region_any hm (CN Inv hstep hend _ _ _ _ (by unfold wS;exact Nat.le_trans (List.length_filter_le _ _) (by simp)) h0)
theorem RH{md:Region.Mode}{ops:Array Oper}{L:Array Bool}{j:Nat}{o:Oper}(hj:j<L.size)(hr:Region.ready md ops L=[])(ho:ops[j]? =some o)(hd:∀e∈o.after,L.getD e.on false=true):L.getD j false=true:=by
 cases h:L.getD j true with
 |false=>
  have:j∈Region.ready md ops L:=mem_ready.2 ⟨h,o,ho,λe he _=>hd e he⟩;rw[hr]at this;cases this
 |true=>simp[Array.getD,hj]at h ⊢;exact h
theorem aQ{P:Program}{ops:Array Oper}{Q:Exit->Act->World->Prop}{i:Nat}{o:Oper}{a:Act}{w:World}{K:Act->World->Prop}(ho:ops[i]? =some o)(hg:o.guard=none)
  (h:∀K':Act->World->Prop,(∀a w,K a w->K' a w)->o.wp P a w K' Q):wpOp P ops Q i K a w:=by
 unfold wpOp;rw[ho];simp only;rw[if_pos (by simp[Region.wanted,hg])];exact aH (h K (λ_ _ h=>h))
def upd(Y:Nat->Value)(i:Nat)(v:Value):Nat->Value:=λj=>if j=i then v else Y j
theorem mi(Y:Nat->Value)(i:Nat)(v:Value):upd Y i v i=v:=by simp[upd]
theorem upd_ne(Y:Nat->Value){i j:Nat}(v:Value)(h:j≠i):upd Y i v j=Y j:=by simp[upd,h]
theorem dM{L:Array Bool}{i j:Nat}(h:(L.setIfInBounds i true).getD j false=true):j=i\/L.getD j false=true:=by
 by_cases Yc:i=j
 ·exact aH Yc.symm
 ·rw[getD_set_ne false Yc]at h;exact aT h
theorem KM{P:Program}{id:Nat}{Q:Exit->Act->World->Prop}{a:Act}{w:World}{l:List Oper}(hm:P.follows .mixedOrders=true)(Cl:World->Nat->Value->Prop)(mk:(Nat->Value)->Act)(Y0:Nat->Value)(ha:a=mk Y0)
  (hback:l.zipIdx.all (λx=>x.1.after.all λe=>decide (e.on<x.2))=true)
  (A7:∀W W' i v,Below W.heap.size W W'->Cl W i v->Cl W' i v)
  (hstep:∀i o Y W,l[i]? =some o->Below w.heap.size w W->(∀e∈o.after,Region.binds .any e=true->Cl W e.on (Y e.on))->∀K:Act->World->Prop,(∀v W',Below W.heap.size W W'->Cl W' i v->K (mk (upd Y i v)) W')->wpOp P l.toArray Q i K (mk Y) W)
  (hend:∀Y W,Below w.heap.size w W->(∀i,i<l.length->Cl W i (Y i))->Q .normal (mk Y) W):(Code.region id l.toArray true).wp P Q a w:=by
 refine lT hm (λL act W=>L.size=l.length/\∃Y,act=mk Y/\Below w.heap.size w W/\∀i,L.getD i false=true->Cl W i (Y i)) ?_ ?_ ?_
 ·refine⟨by simp,Y0,ha,(bI _ _).drew,λj h=>?_⟩;rcases Nat.lt_or_ge j l.length with hj|hj
  ·simp[Array.getD,hj]at h
  ·simp[Array.getD,Nat.not_lt.2 hj]at h
 ·rintro L act W i hi ⟨hsz,Y,rfl,hb,hc⟩;obtain⟨hn,o,ho,hall⟩:=mem_ready.1 hi;refine hstep i o Y W (by simpa using ho) hb (λe he dO=>hc _ (hall e he dO)) _ (λv W' hb' hv=>⟨by simp[hsz],upd Y i v,rfl,hb.trans (hb'.mono hb.size),λj hj=>?_⟩);by_cases GP:j=i
  ·subst GP;rw[mi];exact hv
  ·rw[upd_ne Y v GP];exact A7 _ _ _ _ hb' (hc j ((dM hj).resolve_left GP))
 ·rintro L act W hr ⟨hsz,Y,rfl,hb,hc⟩;refine hend Y W hb ?_;have key:∀n i,i<n->i<l.length->L.getD i false=true:=by
   intro n
   induction n with
   |zero=>intro i h;omega
   |succ n ih=>
    intro i gZ x7;refine RH (j:=i) (by omega) hr (by simp[x7];rfl) (λe he=>?_);have hlt:e.on<i:=by
     have hx:=List.all_eq_true.1 hback (l[i],i) (List.mem_iff_getElem?.2 ⟨i,by simp[x7]⟩);exact of_decide_eq_true ((Array.all_eq_true_iff_forall_mem.1 hx) e he)
    exact ih e.on (by omega) (by omega)
  exact λi hi=>hc i (key (i+1) i (by omega) hi)
end Go.Proofs.YtikbdplllopjlaaGreat
namespace Go.Proofs.YtikbdplllopjlaaGreat
open Go.RowKit
structure XBox (w:World) (ia is ix sz:Nat) (ty:TypeId) (boxed:Value->Array Value) (Cl:World->Nat->Value->Prop) (Off:Nat->Value->Nat->Prop) (L:Array Bool) (Y:Nat->Value) (W:World):Prop where
 below:Below w.heap.size w W
 cl:∀i,i≠ia->i≠is->L.getD i false=true->Cl W i (Y i)/\(L.getD ia false=true->∀p,Y ia= .pointer (some ⟨p,0,none⟩)->Off i (Y i) p)
 box:L.getD ia false=true->∃p cs,Y ia= .pointer (some ⟨p,0,none⟩)/\w.heap.size<=p/\Row W p cs ty/\cs.size=sz/\(L.getD is false=true->L.getD ix false=true/\cs=boxed (Y ix))
 dep:L.getD is false=true->L.getD ia false=true
theorem AO{L:Array Bool}{i:Nat}(hn:L.getD i true=false)(h:L.getD i false=true):False:=by
 rcases Nat.lt_or_ge i L.size with hj|hj
 ·simp[Array.getD,hj]at h hn;rw[hn]at h;cases h
 ·simp[Array.getD,Nat.not_lt.2 hj]at h
theorem lU{L:Array Bool}{i j:Nat}(h:L.getD j false=true):(L.setIfInBounds i true).getD j false=true:=by
 by_cases Yc:i=j
 ·subst Yc;rcases Nat.lt_or_ge i L.size with hj|hj
  ·simp[Array.getD,hj]
  ·simp[Array.getD,Nat.not_lt.2 hj]at h
 ·rw[getD_set_ne false Yc];exact h
theorem zG{md:Region.Mode}{ops:Array Oper}{L:Array Bool}{j:Nat}{o:Oper}(hj:j<L.size)(hr:Region.ready md ops L=[])(ho:ops[j]? =some o)(hd:∀e∈o.after,Region.binds md e=true->L.getD e.on false=true):L.getD j false=true:=by
 cases h:L.getD j true with
 |false=>
  have:j∈Region.ready md ops L:=mem_ready.2 ⟨h,o,ho,hd⟩;rw[hr]at this;cases this
 |true=>simp[Array.getD,hj]at h ⊢;exact h
theorem Hh{P:Program}{id:Nat}{Q:Exit->Act->World->Prop}{a:Act}{w:World}{l:List Oper}(hm:P.follows .mixedOrders=true)(ia is ix sz:Nat)(ty:TypeId)(boxed:Value->Array Value)
  (Cl:World->Nat->Value->Prop)(Off:Nat->Value->Nat->Prop)(mk:(Nat->Value)->Act)(Y0:Nat->Value)(ha:a=mk Y0)
  (hback:l.zipIdx.all (λx=>x.1.after.all λe=>!Region.binds .any e||decide (e.on<x.2))=true)
  (Yd:ia<l.length)(Yb:is<l.length)(hne:ia≠is)(QU:ix≠ia)(nV:ix≠is)
  (hst:∀o,l[is]? =some o->(∃e∈o.after,e.on=ia/\Region.binds .any e=true)/\(∃e∈o.after,e.on=ix/\Region.binds .any e=true))
  (A7:∀W W' i v,Below W.heap.size W W'->Cl W i v->Cl W' i v)
  (Ik:∀W W' i v p,w.heap.size<=p->Wr (λk=>k=p) W W'->Off i v p->Cl W i v->Cl W' i v)
  (UU:∀W i v,Below w.heap.size w W->Cl W i v->Off i v W.heap.size)
  (hstep:∀i o Y W,i≠ia->i≠is->l[i]? =some o->Below w.heap.size w W->(∀e∈o.after,Region.binds .any e=true->e.on≠ia->e.on≠is->Cl W e.on (Y e.on))->
   ∀K:Act->World->Prop,(∀v W',Below W.heap.size W W'->Cl W' i v->(∀p,w.heap.size<=p->p<W.heap.size->(∀e∈o.after,Region.binds .any e=true->e.on≠ia->e.on≠is->Off e.on (Y e.on) p)->Off i v p)->K (mk (upd Y i v)) W')->wpOp P l.toArray Q i K (mk Y) W)
  (IJ:∀o Y W,l[ia]? =some o->Below w.heap.size w W->∀K:Act->World->Prop,(∀cs:Array Value,cs.size=sz->K (mk (upd Y ia (.pointer (some ⟨W.heap.size,0,none⟩)))) (W.alloc (.cells cs ty)))->wpOp P l.toArray Q ia K (mk Y) W)
  (AW:∀o Y W p cs,l[is]? =some o->Y ia= .pointer (some ⟨p,0,none⟩)->Row W p cs ty->cs.size=sz->Cl W ix (Y ix)->∀K:Act->World->Prop,(∀W' v,Wr (λk=>k=p) W W'->Row W' p (boxed (Y ix)) ty->(boxed (Y ix)).size=sz->K (mk (upd Y is v)) W')->wpOp P l.toArray Q is K (mk Y) W)
  (hend:∀Y W p,Below w.heap.size w W->w.heap.size<=p->Y ia= .pointer (some ⟨p,0,none⟩)->Row W p (boxed (Y ix)) ty->(∀i,i<l.length->i≠ia->i≠is->Cl W i (Y i)/\Off i (Y i) p)->Q .normal (mk Y) W):(Code.region id l.toArray true).wp P Q a w:=by
 refine lT hm (λL act W=>L.size=l.length/\∃Y,act=mk Y/\XBox w ia is ix sz ty boxed Cl Off L Y W) ?_ ?_ ?_
 ·have hf:∀j,(Array.replicate l.toArray.size false).getD j false=true->False:=λj h=>by
   rcases Nat.lt_or_ge j l.length with hj|hj
   ·simp[Array.getD,hj]at h
   ·simp[Array.getD,Nat.not_lt.2 hj]at h
  exact⟨by simp,Y0,ha,(bI _ _).drew,λi _ _ h=>(hf i h).elim,λh=>(hf _ h).elim,λh=>(hf _ h).elim⟩
 ·rintro L act W i hi ⟨hsz,Y,rfl,hJ⟩;obtain⟨hn,o,ho,hall⟩:=mem_ready.1 hi;have rL:l[i]? =some o:=by simpa using ho
  have hb:=hJ.below;by_cases h1:i=ia
  ·subst h1;refine IJ o Y W rL hb _ (λcs hcs=>⟨by simp[hsz],_,rfl,hb.alloc hb.size _,λj DB xk g=>?_,λg=>?_,λg=>?_⟩)
   ·have g':=(dM g).resolve_left DB;obtain⟨c1,c2⟩:=hJ.cl j DB xk g';rw[upd_ne Y _ DB];refine⟨A7 _ _ _ _ ((bI _ _).alloc (aN _) _) c1,λ_ p hp=>?_⟩;rw[mi]at hp;injection hp with hp;injection hp with hp;injection hp with hp;rw[<-hp];exact UU W j _ hb c1
   ·refine⟨W.heap.size,cs,mi _ _ _,hb.size,Row.new _ _ _,hcs,λg2=>?_⟩;exact(AO hn (hJ.dep ((dM g2).resolve_left (Ne.symm hne)))).elim
   ·exact(AO hn (hJ.dep ((dM g).resolve_left (Ne.symm hne)))).elim
  ·by_cases h2:i=is
   ·subst h2;obtain⟨⟨e1,Fx,UD,hb1⟩,⟨e2,Ot,N6,hb2⟩⟩:=hst o rL;have f1:=hall e1 Fx hb1;have f2:=hall e2 Ot hb2;rw[UD]at f1;rw[N6]at f2;obtain⟨p,cs,hp,Dy,hrow,hcs,_⟩:=hJ.box f1;refine AW o Y W p cs rL hp hrow hcs (hJ.cl ix QU nV f2).1 _ (λW' v hw' eu kE=>⟨by simp[hsz],_,rfl,hb.trans (hw'.below hb.size (λk hk=>by omega)),λj DB xk g=>?_,λg=>?_,λg=>lU f1⟩)
    ·have g':=(dM g).resolve_left xk;obtain⟨c1,c2⟩:=hJ.cl j DB xk g';rw[upd_ne Y _ xk,upd_ne Y _ hne];exact⟨Ik _ _ _ _ p Dy hw' (c2 f1 p hp) c1,λ_=>c2 f1⟩
    ·rw[upd_ne Y _ hne,upd_ne Y _ nV];exact⟨p,_,hp,Dy,eu,kE,λ_=>⟨lU f2,rfl⟩⟩
   ·refine hstep i o Y W h1 h2 rL hb (λe he dO n1 n2=>(hJ.cl e.on n1 n2 (hall e he dO)).1) _ (λv W' hb' hv A6=>⟨by simp[hsz],_,rfl,hb.trans (hb'.mono hb.size),λj DB xk g=>?_,λg=>?_,λg=>lU (hJ.dep ((dM g).resolve_left (Ne.symm h2)))⟩)
    ·by_cases GP:j=i
     ·subst GP;rw[mi,upd_ne Y _ (Ne.symm h1)];refine⟨hv,λg2 p hp=>?_⟩;have g3:=(dM g2).resolve_left (Ne.symm h1);obtain⟨p',cs,MT,Dy,hrow,_⟩:=hJ.box g3;have:p=p':=by rw[hp]at MT;simpa using MT
      subst this;exact A6 p Dy hrow.lt (λe he dO n1 n2=>(hJ.cl e.on n1 n2 (hall e he dO)).2 g3 p hp)
     ·have g':=(dM g).resolve_left GP;obtain⟨c1,c2⟩:=hJ.cl j DB xk g';rw[upd_ne Y _ GP,upd_ne Y _ (Ne.symm h1)];exact⟨A7 _ _ _ _ hb' c1,λg2=>c2 ((dM g2).resolve_left (Ne.symm h1))⟩
    ·obtain⟨p,cs,hp,Dy,hrow,hcs,hw⟩:=hJ.box ((dM g).resolve_left (Ne.symm h1));rw[upd_ne Y _ (Ne.symm h1)];refine⟨p,cs,hp,Dy,hrow.below hb' hrow.lt,hcs,λg2=>?_⟩;obtain⟨x1,x2⟩:=hw ((dM g2).resolve_left (Ne.symm h2));have Tm:ix≠i:=λe=>AO hn (e▸x1);rw[upd_ne Y _ Tm];exact⟨lU x1,x2⟩
 ·rintro L act W hr ⟨hsz,Y,rfl,hJ⟩;have key:∀n i,i<n->i<l.length->L.getD i false=true:=by
   intro n
   induction n with
   |zero=>intro i h;omega
   |succ n ih=>
    intro i gZ x7;refine zG (j:=i) (by omega) hr (show l.toArray[i]? =some l[i] by simp[x7]) (λe he dO=>?_);have hlt:e.on<i:=by
     have hx:=List.all_eq_true.1 hback (l[i],i) (List.mem_iff_getElem?.2 ⟨i,by simp[x7]⟩);have hy:=(Array.all_eq_true_iff_forall_mem.1 hx) e he;rw[dO]at hy;simpa using hy
    exact ih e.on (by omega) (by omega)
  have fl:∀i,i<l.length->L.getD i false=true:=λi hi=>key (i+1) i (by omega) hi;obtain⟨p,cs,hp,Dy,hrow,_,hw⟩:=hJ.box (fl ia Yd);obtain⟨_,rfl⟩:=hw (fl is Yb);exact hend Y W p hJ.below Dy hp hrow (λi hi n1 n2=>⟨(hJ.cl i n1 n2 (fl i hi)).1,(hJ.cl i n1 n2 (fl i hi)).2 (fl ia Yd) p hp⟩)
abbrev nU(o:sX)(v:Value):Value:= .agg #[.int .i64 o.kind,.int .i64 o.code,v,.int .i64 o.steps,.int .i64 o.deep]
abbrev outT(o:sX)(er:Int)(v:Value):Value:= .tuple #[nU o v,.int .i64 er]
def Pq:Value->Array Value
 | .agg cs=>cs
 |_=>#[]
structure fW (ty:TypeId) (ai ic:Nat) (cst:Nat->Value) (o:sX) (er:Int) (W:World) (i:Nat) (v:Value):Prop where
 c:i<ic->v=cst i
 t:i=ic\/i=ic+1->∃u,v=outT o er u/\W.ownsRow ai ty 1 u o.out.length (o.out.map (Value.int .i64))
 a:i=ic+2->∃u,v=nU o u/\W.ownsRow ai ty 1 u o.out.length (o.out.map (Value.int .i64))
 e:i=ic+3\/i=ic+6->v= .int .i64 er
def fT(ic:Nat)(o:sX)(er:Int)(i:Nat)(v:Value)(p:Nat):Prop:=
 (i=ic\/i=ic+1->∀u,v=outT o er u->u.ownBlock≠some p)/\(i=ic+2->∀u,v=nU o u->u.ownBlock≠some p)
section
variable {ty:TypeId} {ai ic:Nat} {cst:Nat->Value} {o:sX} {er:Int} {W W':World} {i:Nat} {v:Value}
theorem fW.wr{F:Nat->Prop}(h:fW ty ai ic cst o er W i v)(hw:Wr F W W')(hF:∀g,F g->∀u,(i=ic\/i=ic+1->v=outT o er u->u.ownBlock≠some g)/\(i=ic+2->v=nU o u->u.ownBlock≠some g)):fW ty ai ic cst o er W' i v:=by
 refine⟨h.c,λhi=>?_,λhi=>?_,h.e⟩
 ·obtain⟨u,e,hu⟩:=h.t hi;exact⟨u,e,aB hu hw (λg hg hf=>(hF g hf u).1 hi e hg)⟩
 ·obtain⟨u,e,hu⟩:=h.a hi;exact⟨u,e,aB hu hw (λg hg hf=>(hF g hf u).2 hi e hg)⟩
theorem fW.below(h:fW ty ai ic cst o er W i v)(hb:Below W.heap.size W W'):fW ty ai ic cst o er W' i v:=h.wr (F:=λ_=>False) (Wr.of_below hb) (λ_ h=>h.elim)
theorem EX{u u':Value}(h:outT o er u=outT o er u'):u=u':=by simpa [outT,nU]using h
theorem EY{u u':Value}(h:nU o u=nU o u'):u=u':=by simpa [nU]using h
theorem fW.fresh(h:fW ty ai ic cst o er W i v):fT ic o er i v W.heap.size:=by
 refine⟨λhi u hu hb=>?_,λhi u hu hb=>?_⟩
 ·obtain⟨u',e,ho⟩:=h.t hi;obtain rfl:=EX (hu.symm.trans e);have:=(ho.lt _ hb).2;omega
 ·obtain⟨u',e,ho⟩:=h.a hi;obtain rfl:=EY (hu.symm.trans e);have:=(ho.lt _ hb).2;omega
theorem fW.const(h:i<ic):fW ty ai ic cst o er W i (cst i):=⟨λ_=>rfl,λh'=>by omega,λh'=>by omega,λh'=>by omega⟩
theorem fT.const(h:i<ic)(p:Nat):fT ic o er i v p:=⟨λh'=>by omega,λh'=>by omega⟩
theorem fW.err(h:i=ic+3\/i=ic+6):fW ty ai ic cst o er W i (.int .i64 er):=⟨λh'=>by omega,λh'=>by omega,λh'=>by omega,λ_=>rfl⟩
theorem fT.err(h:i=ic+3\/i=ic+6)(p:Nat):fT ic o er i v p:=⟨λh'=>by omega,λh'=>by omega⟩
theorem fW.call{u:Value}(h:i=ic\/i=ic+1)(hu:W.ownsRow ai ty 1 u o.out.length (o.out.map (Value.int .i64))):fW ty ai ic cst o er W i (outT o er u):=⟨λh'=>by omega,λ_=>⟨u,rfl,hu⟩,λh'=>by omega,λh'=>by omega⟩
theorem fT.call{u:Value}(h:i=ic\/i=ic+1){p:Nat}(hp:u.ownBlock≠some p):fT ic o er i (outT o er u) p:=⟨λ_ u' e=>by rw[<-EX e];exact hp,λh'=>by omega⟩
theorem fW.part{u:Value}(h:i=ic+2)(hu:W.ownsRow ai ty 1 u o.out.length (o.out.map (Value.int .i64))):fW ty ai ic cst o er W i (nU o u):=⟨λh'=>by omega,λh'=>by omega,λ_=>⟨u,rfl,hu⟩,λh'=>by omega⟩
theorem fT.part{u:Value}(h:i=ic+2){p:Nat}(hp:u.ownBlock≠some p):fT ic o er i (nU o u) p:=⟨λh'=>by omega,λ_ u' e=>by rw[<-EY e];exact hp⟩
end
def mM:Code->List Code
 | .region i l b=>[.region i l b]
 | .loop c=>mM c
 | .seq a b=>mM a++mM b
 | .block _ c=>mM c
 | .scope c=>mM c
 | .cond _ a b=>mM a++mM b
 |_=>[]
theorem Tg{cs:Array Value}(h:cs.size=5):∃a b c d e,cs=#[a,b,c,d,e]:=by
 obtain⟨l⟩:=cs
 match l,h with
 |[a,b,c,d,e],_=>exact⟨a,b,c,d,e,rfl⟩
end Go.Proofs.YtikbdplllopjlaaGreat
namespace Go.Proofs.YtikbdplllopjlaaGreat
open Go.RowKit
structure YV (w:World) (ia is ix sz:Nat) (ty:TypeId) (boxed:Value->Array Value) (Cl:World->Nat->Value->(Nat->Prop)->Prop) (L:Array Bool) (Y:Nat->Value) (Z:Nat->Nat->Prop) (W:World):Prop where
 below:Below w.heap.size w W
 cl:∀i,i≠ia->i≠is->L.getD i false=true->Cl W i (Y i) (Z i)/\(∀k,Z i k->k<W.heap.size)/\(L.getD ia false=true->∀p,Y ia= .pointer (some ⟨p,0,none⟩)->¬Z i p)
 box:L.getD ia false=true->∃p cs,Y ia= .pointer (some ⟨p,0,none⟩)/\w.heap.size<=p/\Row W p cs ty/\cs.size=sz/\(L.getD is false=true->L.getD ix false=true/\cs=boxed (Y ix))
 dep:L.getD is false=true->L.getD ia false=true
def M5(Z:Nat->Nat->Prop)(i:Nat)(S:Nat->Prop):Nat->Nat->Prop:=λj=>if j=i then S else Z j
theorem Ku(Z:Nat->Nat->Prop)(i:Nat)(S:Nat->Prop):M5 Z i S i=S:=by simp[M5]
theorem Qs(Z:Nat->Nat->Prop){i j:Nat}(S:Nat->Prop)(h:j≠i):M5 Z i S j=Z j:=by simp[M5,h]
theorem C5{l:List Oper}{L:Array Bool}(hback:l.zipIdx.all (λx=>x.1.after.all λe=>!Region.binds .any e||decide (e.on<x.2))=true)(hr:Region.ready .any l.toArray L=[])(hsz:L.size=l.length):∀i,i<l.length->L.getD i false=true:=by
 have key:∀n i,i<n->i<l.length->L.getD i false=true:=by
  intro n
  induction n with
  |zero=>intro i h;omega
  |succ n ih=>
   intro i gZ x7;refine zG (j:=i) (by omega) hr (show l.toArray[i]? =some l[i] by simp[x7]) (λe he dO=>?_);have hlt:e.on<i:=by
    have hx:=List.all_eq_true.1 hback (l[i],i) (List.mem_iff_getElem?.2 ⟨i,by simp[x7]⟩);have hy:=(Array.all_eq_true_iff_forall_mem.1 hx) e he;rw[dO]at hy;simpa using hy
   exact ih e.on (by omega) (by omega)
 exact λi hi=>key (i+1) i (by omega) hi
theorem EP{P:Program}{id:Nat}{Q:Exit->Act->World->Prop}{a:Act}{w:World}{l:List Oper}(hm:P.follows .mixedOrders=true)(ia is ix sz:Nat)(ty:TypeId)(boxed:Value->Array Value)
  (Cl:World->Nat->Value->(Nat->Prop)->Prop)(mk:(Nat->Value)->Act)(Y0:Nat->Value)(ha:a=mk Y0)
  (hback:l.zipIdx.all (λx=>x.1.after.all λe=>!Region.binds .any e||decide (e.on<x.2))=true)
  (Yd:ia<l.length)(Yb:is<l.length)(hne:ia≠is)(QU:ix≠ia)(nV:ix≠is)
  (hst:∀o,l[is]? =some o->(∃e∈o.after,e.on=ia/\Region.binds .any e=true)/\(∃e∈o.after,e.on=ix/\Region.binds .any e=true))
  (hwr:∀F W W' i v S,Wr F W W'->(∀k,S k->¬F k)->Cl W i v S->Cl W' i v S)
  (hstep:∀i o Y(Z:Nat->Nat->Prop)W,i≠ia->i≠is->l[i]? =some o->Below w.heap.size w W->(∀e∈o.after,Region.binds .any e=true->e.on≠ia->e.on≠is->Cl W e.on (Y e.on) (Z e.on))->
   ∀K:Act->World->Prop,(∀v S W',Below W.heap.size W W'->Cl W' i v S->(∀k,S k->(W.heap.size<=k/\k<W'.heap.size)\/∃e∈o.after,Region.binds .any e=true/\e.on≠ia/\e.on≠is/\Z e.on k)->K (mk (upd Y i v)) W')->wpOp P l.toArray Q i K (mk Y) W)
  (IJ:∀o Y W,l[ia]? =some o->Below w.heap.size w W->∀K:Act->World->Prop,(∀cs:Array Value,cs.size=sz->K (mk (upd Y ia (.pointer (some ⟨W.heap.size,0,none⟩)))) (W.alloc (.cells cs ty)))->wpOp P l.toArray Q ia K (mk Y) W)
  (AW:∀o Y S W p cs,l[is]? =some o->Y ia= .pointer (some ⟨p,0,none⟩)->Row W p cs ty->cs.size=sz->Cl W ix (Y ix) S->∀K:Act->World->Prop,(∀W' v,Wr (λk=>k=p) W W'->Row W' p (boxed (Y ix)) ty->(boxed (Y ix)).size=sz->K (mk (upd Y is v)) W')->wpOp P l.toArray Q is K (mk Y) W)
  (hend:∀Y(Z:Nat->Nat->Prop)W p,Below w.heap.size w W->w.heap.size<=p->Y ia= .pointer (some ⟨p,0,none⟩)->Row W p (boxed (Y ix)) ty->(∀i,i<l.length->i≠ia->i≠is->Cl W i (Y i) (Z i)/\¬Z i p)->Q .normal (mk Y) W):(Code.region id l.toArray true).wp P Q a w:=by
 refine lT hm (λL act W=>L.size=l.length/\∃Y Z,act=mk Y/\YV w ia is ix sz ty boxed Cl L Y Z W) ?_ ?_ ?_
 ·have hf:∀j,(Array.replicate l.toArray.size false).getD j false=true->False:=λj h=>by
   rcases Nat.lt_or_ge j l.length with hj|hj
   ·simp[Array.getD,hj]at h
   ·simp[Array.getD,Nat.not_lt.2 hj]at h
  exact⟨by simp,Y0,λ_ _=>False,ha,(bI _ _).drew,λi _ _ h=>(hf i h).elim,λh=>(hf _ h).elim,λh=>(hf _ h).elim⟩
 ·rintro L act W i hi ⟨hsz,Y,Z,rfl,hJ⟩;obtain⟨hn,o,ho,hall⟩:=mem_ready.1 hi;have rL:l[i]? =some o:=by simpa using ho
  have hb:=hJ.below;by_cases h1:i=ia
  ·subst h1;refine IJ o Y W rL hb _ (λcs hcs=>⟨by simp[hsz],_,Z,rfl,hb.alloc hb.size _,λj DB xk g=>?_,λg=>?_,λg=>?_⟩)
   ·have g':=(dM g).resolve_left DB;obtain⟨c1,c2,c3⟩:=hJ.cl j DB xk g';rw[upd_ne Y _ DB];refine⟨hwr (λ_=>False) _ _ _ _ _ (Wr.of_below (aj W _)) (λ_ _ h=>h) c1,λk hk=>by have:=c2 k hk;simp;omega,λ_ p hp hz=>?_⟩;rw[mi]at hp;injection hp with hp;injection hp with hp;injection hp with hp;have:=c2 p hz;omega
   ·refine⟨W.heap.size,cs,mi _ _ _,hb.size,Row.new _ _ _,hcs,λg2=>?_⟩;exact(AO hn (hJ.dep ((dM g2).resolve_left (Ne.symm hne)))).elim
   ·exact(AO hn (hJ.dep ((dM g).resolve_left (Ne.symm hne)))).elim
  ·by_cases h2:i=is
   ·subst h2;obtain⟨⟨e1,Fx,UD,hb1⟩,⟨e2,Ot,N6,hb2⟩⟩:=hst o rL;have f1:=hall e1 Fx hb1;have f2:=hall e2 Ot hb2;rw[UD]at f1;rw[N6]at f2;obtain⟨p,cs,hp,Dy,hrow,hcs,_⟩:=hJ.box f1;refine AW o Y (Z ix) W p cs rL hp hrow hcs (hJ.cl ix QU nV f2).1 _ (λW' v hw' eu kE=>⟨by simp[hsz],_,Z,rfl,hb.trans (hw'.below hb.size (λk hk=>by omega)),λj DB xk g=>?_,λg=>?_,λg=>lU f1⟩)
    ·have g':=(dM g).resolve_left xk;obtain⟨c1,c2,c3⟩:=hJ.cl j DB xk g';rw[upd_ne Y _ xk,upd_ne Y _ hne];exact⟨hwr _ _ _ _ _ _ hw' (λk hk e=>c3 f1 p hp (by have e:k=p:=e;rw[<-e];exact hk)) c1,λk hk=>kL (c2 k hk) hw'.size,λ_=>c3 f1⟩
    ·rw[upd_ne Y _ hne,upd_ne Y _ nV];exact⟨p,_,hp,Dy,eu,kE,λ_=>⟨lU f2,rfl⟩⟩
   ·refine hstep i o Y Z W h1 h2 rL hb (λe he dO n1 n2=>(hJ.cl e.on n1 n2 (hall e he dO)).1) _ (λv S W' hb' hv A6=>⟨by simp[hsz],_,M5 Z i S,rfl,hb.trans (hb'.mono hb.size),λj DB xk g=>?_,λg=>?_,λg=>lU (hJ.dep ((dM g).resolve_left (Ne.symm h2)))⟩)
    ·by_cases GP:j=i
     ·subst GP;rw[mi,upd_ne Y _ (Ne.symm h1),Ku];refine⟨hv,λk hk=>?_,λg2 p hp hz=>?_⟩
      ·rcases A6 k hk with h|⟨e,he,dO,n1,n2,hz⟩
       ·exact h.2
       ·exact kL ((hJ.cl e.on n1 n2 (hall e he dO)).2.1 k hz) hb'.size
      ·have g3:=(dM g2).resolve_left (Ne.symm h1);obtain⟨p',cs,MT,Dy,hrow,_⟩:=hJ.box g3;have:p=p':=by rw[hp]at MT;simpa using MT
       subst this;rcases A6 p hz with h|⟨e,he,dO,n1,n2,hz'⟩
       ·have:=hrow.lt;omega
       ·exact(hJ.cl e.on n1 n2 (hall e he dO)).2.2 g3 p hp hz'
     ·have g':=(dM g).resolve_left GP;obtain⟨c1,c2,c3⟩:=hJ.cl j DB xk g';rw[upd_ne Y _ GP,upd_ne Y _ (Ne.symm h1),Qs Z _ GP];exact⟨hwr (λ_=>False) _ _ _ _ _ (Wr.of_below hb') (λ_ _ h=>h) c1,λk hk=>kL (c2 k hk) hb'.size,λg2=>c3 ((dM g2).resolve_left (Ne.symm h1))⟩
    ·obtain⟨p,cs,hp,Dy,hrow,hcs,hw⟩:=hJ.box ((dM g).resolve_left (Ne.symm h1));rw[upd_ne Y _ (Ne.symm h1)];refine⟨p,cs,hp,Dy,hrow.below hb' hrow.lt,hcs,λg2=>?_⟩;obtain⟨x1,x2⟩:=hw ((dM g2).resolve_left (Ne.symm h2));have Tm:ix≠i:=λe=>AO hn (e▸x1);rw[upd_ne Y _ Tm];exact⟨lU x1,x2⟩
 ·rintro L act W hr ⟨hsz,Y,Z,rfl,hJ⟩;have fl:=C5 hback hr hsz;obtain⟨p,cs,hp,Dy,hrow,_,hw⟩:=hJ.box (fl ia Yd);obtain⟨_,rfl⟩:=hw (fl is Yb);exact hend Y Z W p hJ.below Dy hp hrow (λi hi n1 n2=>⟨(hJ.cl i n1 n2 (fl i hi)).1,(hJ.cl i n1 n2 (fl i hi)).2.2 (fl ia Yd) p hp⟩)
structure XPut (w:World) (is ix p sz:Nat) (ty:TypeId) (boxed:Value->Array Value) (Cl:World->Nat->Value->Prop) (L:Array Bool) (Y:Nat->Value) (W:World):Prop where
 wr:Wr (λk=>k=p) w W
 cl:∀i,i≠is->L.getD i false=true->Cl W i (Y i)
 box:∃cs,Row W p cs ty/\cs.size=sz/\(L.getD is false=true->L.getD ix false=true/\cs=boxed (Y ix))
theorem Hg{P:Program}{id:Nat}{Q:Exit->Act->World->Prop}{a:Act}{w:World}{l:List Oper}(hm:P.follows .mixedOrders=true)(is ix p sz:Nat)(ty:TypeId)(boxed:Value->Array Value)
  (Cl:World->Nat->Value->Prop)(mk:(Nat->Value)->Act)(Y0:Nat->Value)(ha:a=mk Y0)
  (hback:l.zipIdx.all (λx=>x.1.after.all λe=>!Region.binds .any e||decide (e.on<x.2))=true)
  (Yb:is<l.length)(nV:ix≠is)(zy:∃cs,Row w p cs ty/\cs.size=sz)
  (hst:∀o,l[is]? =some o->(∃e∈o.after,e.on=ix/\Region.binds .any e=true))
  (A7:∀W W' i v,Below W.heap.size W W'->Cl W i v->Cl W' i v)
  (Ik:∀W W' i v,Wr (λk=>k=p) W W'->Cl W i v->Cl W' i v)
  (hstep:∀i o Y W,i≠is->l[i]? =some o->Wr (λk=>k=p) w W->(∀e∈o.after,Region.binds .any e=true->e.on≠is->Cl W e.on (Y e.on))->
   ∀K:Act->World->Prop,(∀v W',Below W.heap.size W W'->Cl W' i v->K (mk (upd Y i v)) W')->wpOp P l.toArray Q i K (mk Y) W)
  (AW:∀o Y W cs,l[is]? =some o->Row W p cs ty->cs.size=sz->Cl W ix (Y ix)->∀K:Act->World->Prop,(∀W' v,Wr (λk=>k=p) W W'->Row W' p (boxed (Y ix)) ty->(boxed (Y ix)).size=sz->K (mk (upd Y is v)) W')->wpOp P l.toArray Q is K (mk Y) W)
  (hend:∀Y W,Wr (λk=>k=p) w W->Row W p (boxed (Y ix)) ty->(∀i,i<l.length->i≠is->Cl W i (Y i))->Q .normal (mk Y) W):(Code.region id l.toArray true).wp P Q a w:=by
 refine lT hm (λL act W=>L.size=l.length/\∃Y,act=mk Y/\XPut w is ix p sz ty boxed Cl L Y W) ?_ ?_ ?_
 ·have hf:∀j,(Array.replicate l.toArray.size false).getD j false=true->False:=λj h=>by
   rcases Nat.lt_or_ge j l.length with hj|hj
   ·simp[Array.getD,hj]at h
   ·simp[Array.getD,Nat.not_lt.2 hj]at h
  obtain⟨cs,hc1,hc2⟩:=zy;exact⟨by simp,Y0,ha,Wr.of_below (bI _ _).drew,λi _ h=>(hf i h).elim,⟨cs,hc1.below (bI w.heap.size w).drew hc1.lt,hc2,λh=>(hf _ h).elim⟩⟩
 ·rintro L act W i hi ⟨hsz,Y,rfl,hJ⟩;obtain⟨hn,o,ho,hall⟩:=mem_ready.1 hi;have rL:l[i]? =some o:=by simpa using ho
  have hb:=hJ.wr;by_cases h2:i=is
  ·subst h2;obtain⟨e2,Ot,N6,hb2⟩:=hst o rL;have f2:=hall e2 Ot hb2;rw[N6]at f2;obtain⟨cs,hrow,hcs,_⟩:=hJ.box;refine AW o Y W cs rL hrow hcs (hJ.cl ix nV f2) _ (λW' v hw' eu kE=>⟨by simp[hsz],_,rfl,hb.trans hw' (λ_ h=>aH h),λj xk g=>?_,?_⟩)
   ·have g':=(dM g).resolve_left xk;rw[upd_ne Y _ xk];exact Ik _ _ _ _ hw' (hJ.cl j xk g')
   ·rw[upd_ne Y _ nV];exact⟨_,eu,kE,λ_=>⟨lU f2,rfl⟩⟩
  ·refine hstep i o Y W h2 rL hb (λe he dO n2=>hJ.cl e.on n2 (hall e he dO)) _ (λv W' hb' hv=>⟨by simp[hsz],_,rfl,hb.trans (di hb') (λ_ h=>h.elim),λj xk g=>?_,?_⟩)
   ·by_cases GP:j=i
    ·subst GP;rw[mi];exact hv
    ·have g':=(dM g).resolve_left GP;rw[upd_ne Y _ GP];exact A7 _ _ _ _ hb' (hJ.cl j xk g')
   ·obtain⟨cs,hrow,hcs,hw⟩:=hJ.box;refine⟨cs,hrow.below hb' hrow.lt,hcs,λg2=>?_⟩;obtain⟨x1,x2⟩:=hw ((dM g2).resolve_left (Ne.symm h2));have Tm:ix≠i:=λe=>AO hn (e▸x1);rw[upd_ne Y _ Tm];exact⟨lU x1,x2⟩
 ·rintro L act W hr ⟨hsz,Y,rfl,hJ⟩;have fl:=C5 hback hr hsz;obtain⟨cs,hrow,_,hw⟩:=hJ.box;obtain⟨_,rfl⟩:=hw (fl is Yb);exact hend Y W hJ.wr hrow (λi hi n2=>hJ.cl i n2 (fl i hi))
mutual
def ja(w:World):(Nat->Prop)->T->Value->Value->Value->Prop
 |S,.node op x ks,v0,v1,v2=>v0= .int .i64 op/\v1= .int .i64 x/\bz op/\bz x/\∃xs S',w.ownsRow 0 90 3 v2 ks.length xs/\(∀g,v2.ownBlock=some g->S g/\¬S' g)/\(∀i,S' i->S i)/\gL w S' ks xs
def gL(w:World):(Nat->Prop)->List T->List Value->Prop
 |_,[],xs=>xs=[]
 |S,k::ks,xs=>∃u0 u1 u2 us S1 S2,xs=u0::u1::u2::us/\(∀i,S1 i->S i/\¬S2 i)/\(∀i,S2 i->S i)/\ja w S1 k u0 u1 u2/\gL w S2 ks us
end
mutual
theorem ja.mono{w:World}:∀(t:T){S S':Nat->Prop}{v0 v1 v2:Value},ja w S t v0 v1 v2->(∀i,S i->S' i)->ja w S' t v0 v1 v2
 | .node op x ks,S,S',v0,v1,v2,h,hS=>by
  simp only[ja]at h ⊢;obtain⟨h0,h1,h2,h3,xs,S1,h4,h5,h6,h7⟩:=h;exact⟨h0,h1,h2,h3,xs,S1,h4,λg hg=>⟨hS g (h5 g hg).1,(h5 g hg).2⟩,λi hi=>hS i (h6 i hi),h7⟩
end
theorem Dn{w w':World}{ai:Nat}{e:TypeId}{size:Nat}{v:Value}{n:Nat}{xs:List Value}(h:w.ownsRow ai e size v n xs)(hk:∀g,v.ownBlock=some g->w'.heap[g]? =w.heap[g]?):w'.ownsRow ai e size v n xs:=by
 obtain⟨h1,h2⟩:=h;refine⟨h1,?_⟩;rcases h2 with h2|⟨g,aA,cur,hv,hg,hh,r⟩
 ·exact aH h2
 ·subst hv;exact aT ⟨g,aA,cur,rfl,hg,(hk g rfl).trans hh,r⟩
mutual
theorem ja.keep{w w':World}:∀(t:T){S:Nat->Prop}{v0 v1 v2:Value},ja w S t v0 v1 v2->(∀i,S i->w'.heap[i]? =w.heap[i]?)->ja w' S t v0 v1 v2
 | .node op x ks,S,v0,v1,v2,h,hS=>by
  simp only[ja]at h ⊢;obtain⟨h0,h1,h2,h3,xs,S1,h4,h5,h6,h7⟩:=h;exact⟨h0,h1,h2,h3,xs,S1,Dn h4 (λg hg=>hS g (h5 g hg).1),h5,h6,gL.keep ks h7 (λi hi=>hS i (h6 i hi))⟩
theorem gL.keep{w w':World}:∀(ks:List T){S:Nat->Prop}{xs:List Value},gL w S ks xs->(∀i,S i->w'.heap[i]? =w.heap[i]?)->gL w' S ks xs
 |[],S,xs,h,hS=>by simpa only[gL]using h
 |k::ks,S,xs,h,hS=>by
  simp only[gL]at h ⊢;obtain⟨u0,u1,u2,us,S1,S2,h0,h1,h2,h3,h4⟩:=h;exact⟨u0,u1,u2,us,S1,S2,h0,h1,h2,ja.keep k h3 (λi hi=>hS i (h1 i hi).1),gL.keep ks h4 (λi hi=>hS i (h2 i hi))⟩
end
theorem gL.length{w:World}:∀(ks:List T){S:Nat->Prop}{xs:List Value},gL w S ks xs->xs.length=ks.length*3
 |[],S,xs,h=>by simp only[gL]at h;subst h;rfl
 |k::ks,S,xs,h=>by
  simp only[gL]at h;obtain⟨u0,u1,u2,us,S1,S2,h0,h1,h2,h3,h4⟩:=h;subst h0;have:=gL.length ks h4;simp[this];omega
theorem gL.snoc{w:World}:∀(ks:List T){S S':Nat->Prop}{xs:List Value}{k:T}{u0 u1 u2:Value},gL w S ks xs->ja w S' k u0 u1 u2->(∀i,S i->¬S' i)->gL w (λi=>S i\/S' i) (ks++[k]) (xs++[u0,u1,u2])
 |[],S,S',xs,k,u0,u1,u2,h,hk,hd=>by
  simp only[gL]at h;subst h;simp only[List.nil_append,gL];exact⟨u0,u1,u2,[],S',λ_=>False,rfl,λi hi=>⟨aT hi,λh=>h⟩,λi hi=>hi.elim,hk,rfl⟩
 |a::ks,S,S',xs,k,u0,u1,u2,h,hk,hd=>by
  simp only[gL]at h;obtain⟨a0,a1,a2,us,S1,S2,h0,h1,h2,h3,h4⟩:=h;subst h0;have:=gL.snoc ks h4 hk (λi hi=>hd i (h2 i hi));simp only[List.cons_append,gL];refine⟨a0,a1,a2,us++[u0,u1,u2],S1,λi=>S2 i\/S' i,rfl,λi hi=>⟨aH (h1 i hi).1,λh=>?_⟩,λi hi=>?_,h3,this⟩
  ·rcases h with h|h
   ·exact(h1 i hi).2 h
   ·exact hd i (h1 i hi).1 h
  ·rcases hi with hi|hi
   ·exact aH (h2 i hi)
   ·exact aT hi
theorem gL.get{w:World}:∀(ks:List T){S:Nat->Prop}{xs:List Value}{i:Nat}{k:T},gL w S ks xs->ks[i]? =some k->∃u0 u1 u2,xs[i*3]? =some u0/\xs[i*3+1]? =some u1/\xs[i*3+2]? =some u2/\ja w S k u0 u1 u2
 |[],S,xs,i,k,h,hi=>by simp at hi
 |a::ks,S,xs,i,k,h,hi=>by
  simp only[gL]at h;obtain⟨u0,u1,u2,us,S1,S2,h0,h1,h2,h3,h4⟩:=h;subst h0;cases i with
  |zero=>
   simp at hi;subst hi;exact⟨u0,u1,u2,rfl,rfl,rfl,h3.mono _ (λi hi=>(h1 i hi).1)⟩
  |succ i=>
   simp at hi;obtain⟨a0,a1,a2,e0,e1,e2,e3⟩:=gL.get ks h4 hi;refine⟨a0,a1,a2,?_,?_,?_,e3.mono _ h2⟩
   ·rw[show(i+1)*3=i*3+1+1+1 by omega];simpa using e0
   ·rw[show(i+1)*3+1=i*3+1+1+1+1 by omega];simpa using e1
   ·rw[show(i+1)*3+2=i*3+2+1+1+1 by omega];simpa using e2
mutual
theorem ja.tree{w:World}{B:Nat}:∀(t:T){S:Nat->Prop}{v0 v1 v2:Value},ja w S t v0 v1 v2->(∀i,S i->i<B)->aX w (dP B) t v0 v1 v2
 | .node op x ks,S,v0,v1,v2,h,hS=>by
  simp only[ja]at h;simp only[aX];obtain⟨h0,h1,h2,h3,xs,S1,h4,h5,h6,h7⟩:=h;have hk:=gL.kids ks h7 (λi hi=>hS i (h6 i hi));have xg:=gL.length ks h7;obtain⟨hl,hr⟩:=id h4;rcases hr with⟨hv,hn⟩|⟨g,aA,cur,hv,hg,hh,hc1,hc2,hc3,Yt⟩
  ·have hnil:ks=[]:=List.length_eq_zero_iff.1 hn;subst hnil;exact⟨h0,h1,h2,h3,by simp,none,0,hv,λhp=>by simp at hp⟩
  ·refine⟨h0,h1,h2,h3,by unfold maxLen at hc2;omega,some ⟨g,0,none⟩,aA,hv,λhp=>⟨g,0,rfl,hS g (h5 g (by rw[hv];rfl)).1,?_⟩⟩;refine cU.of (λi k hi=>?_);obtain⟨u0,u1,u2,e0,e1,e2,e3⟩:=hk i k hi;have hcell:∀j u,xs[j]? =some u->w.cell? ⟨g,j,none⟩=some u:=λj u hj=>by
    rw[<-Yt]at hj;have hlt:j<ks.length*3:=by
     rcases Nat.lt_or_ge j (ks.length*3)with h|h
     ·exact h
     ·rw[List.getElem?_take,if_neg (by omega)]at hj;cases hj
    rw[List.getElem?_take,if_pos hlt,Array.getElem?_toList]at hj;exact(Row.cell (cs:=cur) (t:=90) hh hj)
   rw[show(0:Nat)+i*3=i*3 by omega];exact⟨u0,u1,u2,hcell _ _ e0,hcell _ _ e1,hcell _ _ e2,e3⟩
theorem gL.kids{w:World}{B:Nat}:∀(ks:List T){S:Nat->Prop}{xs:List Value},gL w S ks xs->(∀i,S i->i<B)->∀i k,ks[i]? =some k->∃u0 u1 u2,xs[i*3]? =some u0/\xs[i*3+1]? =some u1/\xs[i*3+2]? =some u2/\aX w (dP B) k u0 u1 u2
 |[],S,xs,h,hS,i,k,hi=>by simp at hi
 |a::ks,S,xs,h,hS,i,k,hi=>by
  simp only[gL]at h;obtain⟨u0,u1,u2,us,S1,S2,h0,h1,h2,h3,h4⟩:=h;subst h0;cases i with
  |zero=>
   simp at hi;subst hi;exact⟨u0,u1,u2,rfl,rfl,rfl,ja.tree a h3 (λi hi=>hS i (h1 i hi).1)⟩
  |succ i=>
   simp at hi;obtain⟨a0,a1,a2,e0,e1,e2,e3⟩:=gL.kids ks h4 (λi hi=>hS i (h2 i hi)) i k hi;refine⟨a0,a1,a2,?_,?_,?_,e3⟩
   ·rw[show(i+1)*3=i*3+1+1+1 by omega];simpa using e0
   ·rw[show(i+1)*3+1=i*3+1+1+1+1 by omega];simpa using e1
   ·rw[show(i+1)*3+2=i*3+2+1+1+1 by omega];simpa using e2
end
theorem ja.shape{w:World}{S:Nat->Prop}{t:T}{v0 v1 v2:Value}(h:ja w S t v0 v1 v2):∃A n c,v0= .int .i64 t.op/\v1= .int .i64 t.n/\v2= .slice A n c/\bz t.op/\bz t.n:=by
 obtain⟨op,x,ks⟩:=t;simp only[ja]at h;obtain⟨h0,h1,h2,h3,xs,S1,⟨_,hr⟩,_⟩:=h;rcases hr with⟨hv,_⟩|⟨g,aA,cur,hv,_⟩
 ·exact⟨_,_,_,h0,h1,hv,h2,h3⟩
 ·exact⟨_,_,_,h0,h1,hv,h2,h3⟩
theorem ja.node{w:World}{S:Nat->Prop}{op x:Int}{ks:List T}{xs:List Value}{v:Value}{ai:Nat}(ho:bz op)(hx:bz x)(hr:w.ownsRow ai 90 3 v ks.length xs)(hl:gL w S ks xs)(hv:∀g,v.ownBlock=some g->¬S g):
  ja w (λi=>S i\/v.ownBlock=some i) (.node op x ks) (.int .i64 op) (.int .i64 x) v:=by
 rw[ja];refine⟨rfl,rfl,ho,hx,xs,S,?_,λg hg=>⟨aT hg,hv g hg⟩,λi hi=>aH hi,hl⟩;obtain⟨h1,h2⟩:=hr;refine⟨h1,?_⟩;rcases h2 with h2|⟨g,aA,cur,hv,hg,r⟩
 ·exact aH h2
 ·exact aT ⟨g,aA,cur,hv,Nat.zero_le _,r⟩
theorem KE:(prog.info? 90).map (λi=>(i.zero,i.size,i.bytes))=some (some (.agg #[.int .i64 0,.int .i64 0,.slice none 0 0]),3,40):=by kernel_rfl
structure jo (ai:Nat) (w:World) (lv:Value) (k:Nat) (ts:List T) (xs:List Value) (S:Nat->Prop):Prop where
 own:w.ownsRow ai 90 3 lv k xs
 trees:gL w S ts xs
 sb:∀i,S i->ai<=i/\i<w.heap.size/\¬lv.ownBlock=some i
theorem jo.lt{ai:Nat}{w:World}{lv:Value}{k:Nat}{ts:List T}{xs:List Value}{S:Nat->Prop}(h:jo ai w lv k ts xs S){g:Nat}(hg:lv.ownBlock=some g):ai<=g/\g<w.heap.size:=by
 obtain⟨h1,cs,h2⟩:=aC h.own hg;exact⟨h1,h2.lt⟩
theorem jo.wr{ai:Nat}{w w':World}{lv:Value}{k:Nat}{ts:List T}{xs:List Value}{S X:Nat->Prop}(h:jo ai w lv k ts xs S)(hw:Wr X w w')(hX:∀i,X i->¬S i/\¬lv.ownBlock=some i):jo ai w' lv k ts xs S:=
 ⟨aB h.own hw (λg hg hx=>(hX g hx).2 hg),gL.keep ts h.trees (λi hi=>hw.block i (h.sb i hi).2.1 (λhx=>(hX i hx).1 hi)),λi hi=>⟨(h.sb i hi).1,by have:=(h.sb i hi).2.1;have:=hw.size;omega,(h.sb i hi).2.2⟩⟩
theorem jo.next{ai k g aA:Nat}{wr w1 W2 w3 W4:World}{lv:Value}{ts:List T}{xs:List Value}{S S1 X:Nat->Prop}{t:T}{u0 u1 u2:Value}
  (h:jo ai wr lv k ts xs S)(hbase:ai<=wr.heap.size)(h1:Wr X wr w1)(hO:ja w1 S1 t u0 u1 u2)(hS1:∀i,S1 i->wr.heap.size<=i/\i<w1.heap.size)(h2:Wr X w1 W2)
  (hown:w3.ownsRow ai 90 3 (.slice (some ⟨g,0,none⟩) (k+1) aA) (k+1) (xs++[u0,u1,u2]))(hgrow:W2.grownBy w3 lv.ownBlock)(hat:lv.ownBlock=some g\/g=W2.heap.size)(h4:Wr X w3 W4)
  (hX:∀i,X i->¬S i/\¬S1 i/\¬lv.ownBlock=some i/\¬i=g):
  jo ai W4 (.slice (some ⟨g,0,none⟩) (k+1) aA) (k+1) (ts++[t]) (xs++[u0,u1,u2]) (λi=>S i\/S1 i):=by
 have z1:=h1.size;have z2:=h2.size;have z3:=hgrow.size;have z4:=h4.size;have hgo:∀i,(Value.slice (some ⟨g,0,none⟩) (k+1) aA).ownBlock=some i->i=g:=λi hi=>by simp only[Value.ownBlock,Option.some.injEq]at hi;exact hi.symm
 have kS:∀i,S i->W4.heap[i]? =wr.heap[i]? :=λi hi=>by
  have hb:=h.sb i hi;have hx:¬X i:=λhx=>(hX i hx).1 hi;exact(((h4.block i (by omega) hx).trans (hgrow.block i (by omega) (λe=>hb.2.2 e.symm))).trans (h2.block i (by omega) hx)).trans (h1.block i hb.2.1 hx)
 have kS1:∀i,S1 i->W4.heap[i]? =w1.heap[i]? :=λi hi=>by
  have hb:=hS1 i hi;have hx:¬X i:=λhx=>(hX i hx).2.1 hi;exact((h4.block i (by omega) hx).trans (hgrow.block i (by omega) (λe=>by have:=(h.lt e.symm).2;omega))).trans (h2.block i hb.2 hx)
 refine⟨aB hown h4 (λi hi hx=>(hX i hx).2.2.2 (hgo i hi)),gL.snoc ts (gL.keep ts h.trees kS) (ja.keep t hO kS1) (λi hi Ye=>by have:=(h.sb i hi).2.1;have:=(hS1 i Ye).1;omega),λi hi=>?_⟩;rcases hi with hi|hi
 ·have hb:=h.sb i hi;refine⟨hb.1,by omega,λe=>?_⟩;have e':=hgo i e;subst e';rcases hat with hat|hat
  ·exact hb.2.2 hat
  ·omega
 ·have hb:=hS1 i hi;refine⟨by omega,by omega,λe=>?_⟩;have e':=hgo i e;subst e';rcases hat with hat|hat
  ·have:=(h.lt hat).2;omega
  ·omega
theorem jo.kids{ai:Nat}{w:World}{lv:Value}{k:Nat}{ts:List T}{xs:List Value}{S:Nat->Prop}(h:jo ai w lv k ts xs S)(hk:ts.length=k){B:Nat}(hB:w.heap.size<=B):∃A n aA,lv= .slice A n aA/\bC w B ts A n:=by
 have ht:=gL.kids ts h.trees (B:=B) (λi hi=>by have:=(h.sb i hi).2.1;omega);obtain⟨hl,hr⟩:=h.own;rcases hr with⟨hv,hn⟩|⟨g,aA,cur,hv,hg,hh,hc1,hc2,hc3,Yt⟩
 ·exact⟨none,0,0,hv,by omega,by omega,λhp=>by omega⟩
 ·have Fv:g<w.heap.size:=Row.lt (t:=90) hh;refine⟨some ⟨g,0,none⟩,k,aA,hv,hk,by unfold maxLen at hc2;omega,λhp=>⟨g,0,rfl,by omega,cU.of (λi t hi=>?_)⟩⟩;obtain⟨u0,u1,u2,e0,e1,e2,e3⟩:=ht i t hi;have hcell:∀j u,xs[j]? =some u->w.cell? ⟨g,j,none⟩=some u:=λj u hj=>by
   rw[<-Yt]at hj;have hlt:j<k*3:=by
    rcases Nat.lt_or_ge j (k*3)with h|h
    ·exact h
    ·rw[List.getElem?_take,if_neg (by omega)]at hj;cases hj
   rw[List.getElem?_take,if_pos hlt,Array.getElem?_toList]at hj;exact(Row.cell (cs:=cur) (t:=90) hh hj)
  rw[show(0:Nat)+i*3=i*3 by omega];exact⟨u0,u1,u2,hcell _ _ e0,hcell _ _ e1,hcell _ _ e2,e3⟩
theorem jo.nil(ai:Nat)(w:World):jo ai w (.slice none 0 0) 0 [] [] (λ_=>False):=
 ⟨World.ownsRow_nil _ _ _ _,by rw[gL],λi hi=>hi.elim⟩
theorem jo.node{ai:Nat}{w:World}{lv:Value}{k:Nat}{ts:List T}{xs:List Value}{S:Nat->Prop}(h:jo ai w lv k ts xs S)(hk:ts.length=k){op x:Int}(ho:bz op)(hx:bz x):
  ja w (λi=>S i\/lv.ownBlock=some i) (.node op x ts) (.int .i64 op) (.int .i64 x) lv:=
 ja.node ho hx (by rw[hk];exact h.own) h.trees (λg hg hs=>(h.sb g hs).2.2 hg)
mutual
def T.few:T->Prop
 | .node _ _ ks=>ks.length*40<=140737488351232/\T.xJ ks
def T.xJ:List T->Prop
 |[]=>True
 |k::ks=>T.few k/\T.xJ ks
end
theorem T.FQ:∀{ks:List T}{i:Nat}{k:T},T.xJ ks->ks[i]? =some k->T.few k
 |[],i,k,_,h=>by simp at h
 |a::r,0,k,hf,h=>by simp at h;subst h;rw[T.xJ]at hf;exact hf.1
 |a::r,i+1,k,hf,h=>by rw[T.xJ]at hf;exact T.FQ hf.2 (by simpa using h)
theorem T.J7:∀{ks:List T},(∀(i:Nat)(k:T),ks[i]? =some k->T.few k)->T.xJ ks
 |[],_=>by rw[T.xJ];trivial
 |a::r,h=>by rw[T.xJ];exact⟨h 0 a rfl,T.J7 (λi k hk=>h (i+1) k (by simpa using hk))⟩
def Ee(x:jR):Prop:=x.init.length*8<=140737488351232
def C9(x:cM):Prop:=x.args.length*40<=140737488351232/\T.xJ x.args
def zg(x:bW):Prop:=x.steps.length*56<=140737488351232/\(∀y,y∈x.steps->C9 y)/\T.few x.cond
def zf(x:aP):Prop:=x.az.length*40<=140737488351232/\(∀y,y∈x.az->Ee y)/\x.blocks.length*88<=140737488351232/\(∀y,y∈x.blocks->zg y)
def xQ(x:aM):Prop:=x.ax.length*40<=140737488351232/\(∀y,y∈x.ax->Ee y)/\x.funcs.length*64<=140737488351232/\(∀y,y∈x.funcs->zf y)
theorem He(pb po:Nat)(s:Nat)(a x:V)(pp:Value)(okb:Bool)(w:World)
  (hat:∀W,Below w.heap.size w W->Calls prog 86 #[.pointer (some ⟨pb,po,none⟩),.agg #[.int .i64 a.obj,.int .i64 a.n],.int .i64 s] W λe w'=>e= .returned (.tuple #[pp,.bool okb])/\Below W.heap.size W w')
  (hno:okb=false\/(0<x.obj/\s≠8)):
  Calls prog 67 #[.pointer (some ⟨pb,po,none⟩),.int .i64 s,.agg #[.int .i64 a.obj,.int .i64 a.n],.agg #[.int .i64 x.obj,.int .i64 x.n]] w λe w'=>e= .returned (.bool false)/\Below w.heap.size w w':=by
 have s7:=ae hat;have ed:=ae (Row.new' (w:=w.alloc (.cells #[.int .i64 a.obj,.int .i64 a.n] 72)) (g:=w.heap.size+1) #[.int .i64 x.obj,.int .i64 x.n] 72 (by simp));clear hat;cases okb with
 |false=>
  clear hno;go_enter func67,ntmps67;refine ak λQ HQ=>?_;go_wp2_with fail;refine(s7 _ (aJ w _ _)).mono ?_;rintro e w1 ⟨rfl,hb1⟩;have bn:=ae ((aJ w _ _).trans (hb1.mono (aJ w _ _).size));clear hb1;go_wp2_with fail;refine HQ _ _ _ ?_;exact aR (v:= .bool false) (by simp[results,results67,go_sem]) rfl ⟨rfl,bn.out⟩
 |true=>
  have hx:0<x.obj/\s≠8:=by rcases hno with h|h;cases h;exact h
  have d1:decide (0<x.obj)=true:=by simpa using hx.1
  have d1':decide ((0:Int)<(x.obj:Int))=true:=by simpa using hx.1
  have d2:((s:Int) !=8)=true:=by simp;omega
  clear hno hx;go_enter func67,ntmps67;refine ak λQ HQ=>?_;go_wp2_with fail;refine(s7 _ (aJ w _ _)).mono ?_;rintro e w1 ⟨rfl,hb1⟩;have bn:=ae ((aJ w _ _).trans (hb1.mono (aJ w _ _).size));have gY:=ed.below hb1 ed.lt;have x0:=gY.cell (j:=0) rfl;have xl:=gY.lt;clear hb1 gY;go_wp2_with fail;refine HQ _ _ _ ?_;exact aR (v:= .bool false) (by simp[results,results67,go_sem]) rfl ⟨rfl,bn.out⟩
def qQ(s:Nat)(x:V):V:=if x.obj=0 then⟨0,eC s x.n⟩else x
theorem Hd(pb po ob j:Nat)(s:Nat)(a x:V)(cs:Array Value)(w:World)(hs:s=1\/s=2\/s=4\/s=8)
  (hat:∀W,Below w.heap.size w W->Calls prog 86 #[.pointer (some ⟨pb,po,none⟩),.agg #[.int .i64 a.obj,.int .i64 a.n],.int .i64 s] W λe w'=>e= .returned (.tuple #[.pointer (some ⟨ob,j*2,none⟩),.bool true])/\Below W.heap.size W w')
  (Ds:¬(0<x.obj/\s≠8))(hr:Row w ob cs 72)(hj:j*2+1<cs.size):
  Calls prog 67 #[.pointer (some ⟨pb,po,none⟩),.int .i64 s,.agg #[.int .i64 a.obj,.int .i64 a.n],.agg #[.int .i64 x.obj,.int .i64 x.n]] w λe w'=>e= .returned (.bool true)/\Wr (λk=>k=ob) w w'/\Row w' ob ((cs.setIfInBounds (j*2) (.int .i64 (qQ s x).obj)).setIfInBounds (j*2+1) (.int .i64 (qQ s x).n)) 72:=by
 have s7:=ae hat;have HS:=ae (λW=>uP s x.n W hs);have ed:=ae (Row.new' (w:=w.alloc (.cells #[.int .i64 a.obj,.int .i64 a.n] 72)) (g:=w.heap.size+1) #[.int .i64 x.obj,.int .i64 x.n] 72 (by simp));have HR:=ae hr;have N2:=hr.lt;have HJ:=ae hj;clear hat hr hj;obtain⟨xo,xn⟩:=x;simp only at Ds HS ed ⊢;have key:∀(w1:World)(hb1:Below (w.heap.size+2) ((w.alloc (.cells #[.int .i64 a.obj,.int .i64 a.n] 72)).alloc (.cells #[.int .i64 xo,.int .i64 xn] 72)) w1),Row w1 ob cs 72/\Row w1 (w.heap.size+1) #[.int .i64 xo,.int .i64 xn] 72/\Below w.heap.size w w1:=λw1 hb1=>
  ⟨((HR.alloc _).alloc _).below hb1 (by omega),ed.below hb1 (by omega),(aJ w _ _).trans (hb1.mono (by omega))⟩
 have KEY:=ae key;clear key;by_cases h0:xo=0
 ·subst h0;clear Ds;go_enter func67,ntmps67;refine ak λQ HQ=>?_;go_wp2_with fail;refine(s7 _ (aJ w _ _)).mono ?_;rintro e w1 ⟨rfl,hb1⟩;obtain⟨hr1,gY,aG⟩:=KEY.out w1 (hb1.mono (by simp));have iK:=ae hr1;have m8:=ae gY;have cV:=ae aG;have x0:=gY.cell (j:=0) rfl;have x1:=gY.cell (j:=1) rfl;have xf:=gY.free 1;have xl:=gY.lt;obtain⟨u0,y0⟩:∃u,w1.cell? ⟨ob,j*2,none⟩=some u:=⟨_,hr1.cell (Array.getElem?_eq_getElem (by have:=HJ.out;omega))⟩
  obtain⟨u1,y1⟩:∃u,w1.cell? ⟨ob,j*2+1,none⟩=some u:=⟨_,hr1.cell (Array.getElem?_eq_getElem HJ.out)⟩
  have yf0:=hr1.free (j*2);have yf1:=hr1.free (j*2+1);have yl:=hr1.lt;have hne:¬ob=w.heap.size+1:=by omega
  have Cg:¬w.heap.size+1=ob:=by omega
  clear hb1 hr1 gY aG;go_wp2_with(go_at_call 49;refine(HS _).mono ?_;rintro e w' ⟨rfl,rfl⟩);refine HQ _ _ _ ?_;refine aR (v:= .bool true) (by simp[results,results67,go_sem]) rfl ⟨rfl,?_,?_⟩
  ·exact(((Wr.of_below cV.out).trans (Wr.cell1 w1 (w.heap.size+1) 1 (.int .i64 (eC s xn))) (λi hi=>aT (by omega))).trans (Wr.cell1 _ ob (j*2) _) (λi hi=>aH hi)).trans (Wr.cell1 _ ob (j*2+1) _) (λi hi=>aH hi)
  ·have e:qQ s ⟨0,xn⟩=⟨0,eC s xn⟩:=by unfold qQ;rw[if_pos rfl]
   rw[e];exact((iK.wr (Wr.cell1 w1 (w.heap.size+1) 1 (.int .i64 (eC s xn))) hne).set (j*2) _).set (j*2+1) _
 ·have hp:0<xo:=by omega
  obtain rfl:s=8:=by
   rcases Nat.decEq s 8 with h|h
   ·exact absurd ⟨hp,h⟩ Ds
   ·exact h
  have d1:decide (0<xo)=true:=by simpa using hp
  have d1':decide ((0:Int)<(xo:Int))=true:=by simpa using hp
  have d3:((xo:Int)==0)=false:=by simp;omega
  clear Ds;go_enter func67,ntmps67;refine ak λQ HQ=>?_;go_wp2_with fail;refine(s7 _ (aJ w _ _)).mono ?_;rintro e w1 ⟨rfl,hb1⟩;obtain⟨hr1,gY,aG⟩:=KEY.out w1 (hb1.mono (by simp));have iK:=ae hr1;have m8:=ae gY;have cV:=ae aG;have x0:=gY.cell (j:=0) rfl;have x1:=gY.cell (j:=1) rfl;have xl:=gY.lt;obtain⟨u0,y0⟩:∃u,w1.cell? ⟨ob,j*2,none⟩=some u:=⟨_,hr1.cell (Array.getElem?_eq_getElem (by have:=HJ.out;omega))⟩
  obtain⟨u1,y1⟩:∃u,w1.cell? ⟨ob,j*2+1,none⟩=some u:=⟨_,hr1.cell (Array.getElem?_eq_getElem HJ.out)⟩
  have yf0:=hr1.free (j*2);have yf1:=hr1.free (j*2+1);have yl:=hr1.lt;clear hb1 hr1 gY aG;go_wp2_with fail;refine HQ _ _ _ ?_;refine aR (v:= .bool true) (by simp[results,results67,go_sem]) rfl ⟨rfl,?_,?_⟩
  ·exact((Wr.of_below cV.out).trans (Wr.cell1 w1 ob (j*2) _) (λi hi=>aH hi)).trans (Wr.cell1 _ ob (j*2+1) _) (λi hi=>aH hi)
  ·have e:qQ 8 ⟨xo,xn⟩=⟨xo,xn⟩:=by unfold qQ;rw[if_neg h0]
   rw[e];exact(iK.set (j*2) _).set (j*2+1) _
noncomputable def yes(p:Prop):Bool:=@decide p (Classical.propDecidable p)
theorem fZ{p:Prop}(h:p):yes p=true:=by unfold yes;exact @decide_eq_true _ (Classical.propDecidable p) h
theorem eG{p:Prop}(h:¬p):yes p=false:=by unfold yes;exact @decide_eq_false _ (Classical.propDecidable p) h
def Kq(m:Nat):Prop:=∀(t t':T)(B:Nat)(w:World)(v0 v1 v2 u0 u1 u2:Value),t.size<=m->B<=w.heap.size->aX w (dP B) t v0 v1 v2->aX w (dP B) t' u0 u1 u2->
  Calls prog 57 #[.agg #[v0,v1,v2],.agg #[u0,u1,u2]] w λe w'=>e= .returned (.bool (yes (t=t')))/\Below w.heap.size w w'
theorem Bt(m:Nat)(ih:Kq m)(ks ks':List T)(A A':Option Addr)(n n' aA cap' B:Nat)(w:World)(hm:T.sizes ks<=m)(hB:B<=w.heap.size)(hv:bC w B ks A n)(hu:bC w B ks' A' n'):
  Calls prog 72 #[.slice A n aA,.slice A' n' cap'] w λe w'=>e= .returned (.bool (yes (ks=ks')))/\Below w.heap.size w w':=by
 have hn:=hv.2.1;by_cases hlen:n=n'
 ·subst hlen;have hb0:((n:Int) !=(n:Int))=false:=by simp
  have HV:=ae hv;have HU:=ae hu;have IH:=ae ih;clear hv hu ih;go_enter func72,ntmps72;go_wp2;go_loopw [5] (λi wr=>∃k:Nat,k<=n/\i= .int .i64 k/\(∀j,j<k->ks[j]? =ks'[j]?)/\Below w.heap.size w wr) (λi _=>n-(intOf i).toNat)
  case atStart=>exact⟨0,by omega,rfl,λj hj=>absurd hj (by omega),bI _ _⟩
  case round=>
   obtain⟨k,hk,rfl,Ts,bR⟩:=hrel;have HS:=ae Ts;clear Ts;by_cases hlt:k<n
   ·obtain⟨b,off,t,v0,v1,v2,rfl,hb,bA,c0,c1,c2,ht⟩:=(HV.below (bR.mono hB) (aN _)).get hlt;obtain⟨b',off',t',u0,u1,u2,rfl,hb',pV,d0,d1,d2,hu⟩:=(HU.below (bR.mono hB) (aN _)).get hlt;have hsz:t.size<=m:=Nat.le_trans (T.dC bA) hm;have dF:=λW(hb:Below w.heap.size w W)=>IH.out t t' B W v0 v1 v2 u0 u1 u2 hsz (Nat.le_trans hB hb.size);have HC:=ae dF;have HK:=ae bA;have HK':=ae pV;have HT:=ae ht;have HU':=ae hu;have eY:(k:Int)<(n:Int):=by omega
    clear dF bA pV ht hu;by_cases heq:t=t'
    ·have Ds:=fZ heq;have HE:=ae heq;clear heq;go_wp2;go_still_tail 8,(by kernel_rfl)
     go_wp2_with fail;refine(HC _ (show Below w.heap.size w wr.drew from bR.drew) (HT.below (bI B wr).drew (aN _)) (HU'.below (bI B wr).drew (aN _))).mono ?_;rintro e w1 ⟨rfl,hb1⟩;go_wp2_with fail;go_roundw
     case rel=>
      refine⟨k+1,by omega,by go_num,λj hj=>?_,bR.drew.trans (hb1.mono (show w.heap.size<=wr.drew.heap.size from bR.size))⟩;by_cases hjk:j<k
      ·exact HS.out j hjk
      ·obtain rfl:j=k:=by omega
       rw[HK.out,HK'.out,HE.out]
     case measure=>simp[intOf];omega
    ·have Ds:=eG heq;have HE:=ae heq;clear heq;go_wp2;go_still_tail 8,(by kernel_rfl)
     go_wp2_with fail;refine(HC _ (show Below w.heap.size w wr.drew from bR.drew) (HT.below (bI B wr).drew (aN _)) (HU'.below (bI B wr).drew (aN _))).mono ?_;rintro e w1 ⟨rfl,hb1⟩;go_wp2_with fail;go_ret;refine⟨eO (eG λGN=>HE.out ?_).symm,bR.drew.trans (hb1.mono (show w.heap.size<=wr.drew.heap.size from bR.size))⟩;have h1:=HK.out;have h2:=HK'.out;rw[GN,h2]at h1;injection h1 with h1;exact h1.symm
   ·obtain rfl:k=n:=by omega
    go_wp2;go_ret;exact⟨eO (fZ (B7 (HV.1.trans HU.1.symm) (λj hj=>HS.out j (by rw[HV.1]at hj;exact hj)))).symm,bR⟩
 ·have hb0:((n:Int) !=(n':Int))=true:=by simp;omega
  have HE:=ae (show yes (ks=ks')=false from eG (λh=>hlen (by rw[<-hv.1,<-hu.1,h])));clear hv hu ih;go_enter func72,ntmps72;go_wp2;go_ret;exact⟨eO HE.symm,bI _ _⟩
theorem Bu(op n op' n':Int)(ks ks':List T):(T.node op n ks=T.node op' n' ks')↔(op=op'/\n=n'/\ks=ks'):=by
 constructor
 ·intro h;injection h with h1 h2 h3;exact⟨h1,h2,h3⟩
 ·rintro⟨rfl,rfl,rfl⟩;rfl
theorem lO(m:Nat):Kq m:=by
 induction m with
 |zero=>intro t _ _ _ _ _ _ _ _ _ hm;have:=t.size_pos;omega
 |succ m ih=>
  rintro⟨op,x,ks⟩ ⟨op',x',ks'⟩ B w v0 v1 v2 u0 u1 u2 hm hB hv hu;obtain⟨A,aA,n,rfl,rfl,_,_,rfl,hk⟩:=bC.gI hv;obtain⟨A',cap',n',rfl,rfl,_,_,rfl,iT⟩:=bC.gI hu;simp only[T.size]at hm;have HC:=ae (λW(hb:Below w.heap.size w W)=>Bt m ih ks ks' A A' n n' aA cap' B W (by omega) (Nat.le_trans hB hb.size) (hk.below (hb.mono hB) (aN _)) (iT.below (hb.mono hB) (aN _)));clear hv hu hk iT ih hm;by_cases h1:op=op'
  ·by_cases h2:x=x'
   ·have HE:=ae (Bu op x op' x' ks ks');have e1:(op==op')=true:=by simpa using h1
    have e2:(x==x')=true:=by simpa using h2
    have HF:=ae (And.intro h1 h2);clear h1 h2;go_enter func57,ntmps57;go_wp2_with fail;refine(HC _ ?_).mono ?_
    ·exact((bI _ _).alloc (aN _) _).alloc (by simp) _
    rintro e w1 ⟨rfl,hb1⟩;go_wp2_with fail;go_ret;refine⟨eO (?_:yes (ks=ks')=yes (T.node op x ks=T.node op' x' ks')),?_⟩
    ·have e:(T.node op x ks=T.node op' x' ks')=(ks=ks'):=propext (HE.trans ⟨λh=>h.2.2,λh=>⟨HF.1,HF.2,h⟩⟩);rw[e]
    ·exact(aJ _ _ _).trans (hb1.mono (by simp;omega))
   ·have HE:=ae (show yes (T.node op x ks=T.node op' x' ks')=false from eG (λh=>h2 ((Bu ..).1 h).2.1));have e1:(op==op')=true:=by simpa using h1
    have e2:(x==x')=false:=by simpa using h2
    clear h1 h2;go_enter func57,ntmps57;go_wp2_with fail;go_ret;exact⟨eO HE.symm,aJ _ _ _⟩
  ·have HE:=ae (show yes (T.node op x ks=T.node op' x' ks')=false from eG (λh=>h1 ((Bu ..).1 h).1));have e1:(op==op')=false:=by simpa using h1
   clear h1;go_enter func57,ntmps57;go_wp2_with fail;go_ret;exact⟨eO HE.symm,aJ _ _ _⟩
mutual
def eI(a b c:Int):T->Bool
 | .node op x ks=>!decide (op=2/\x≥a\/op=3/\x≥b\/op=4/\x≥c)&& b7 a b c ks
def b7(a b c:Int):List T->Bool
 |[]=>true
 |k::ks=>eI a b c k && b7 a b c ks
end
def ME(na nb nc:Int)(m:Nat):Prop:=∀(t:T)(B:Nat)(w:World)(v0 v1 v2:Value),t.size<=m->B<=w.heap.size->aX w (dP B) t v0 v1 v2->
  Calls prog 71 #[.agg #[v0,v1,v2],.int .i64 na,.int .i64 nb,.int .i64 nc] w λe w'=>e= .returned (.bool (eI na nb nc t))/\Below w.heap.size w w'
theorem K0(na nb nc:Int)(m:Nat):ME na nb nc m:=by
 induction m with
 |zero=>intro t _ _ _ _ _ hm;have:=t.size_pos;omega
 |succ m ih=>
  rintro⟨op,x,ks⟩ B w v0 v1 v2 hm hB hv;obtain⟨A,aA,len,rfl,rfl,_,_,rfl,hk⟩:=bC.gI hv;simp only[T.size]at hm;have hlen:=hk.1;have Lm:=hk.2.1;by_cases h2:op=2
  ·subst h2;by_cases hx:x≥na
   ·have hr:eI na nb nc (.node 2 x ks)=false:=by simp[eI,hx]
    rw[hr];have hd:decide (na<=x)=true:=by simpa using hx
    clear hv hk ih hm hr hx;go_enter func71,ntmps71;go_wp2_with fail;go_ret;exact⟨rfl,aj _ _⟩
   ·have hr:eI na nb nc (.node 2 x ks)=b7 na nb nc ks:=by simp[eI,hx]
    rw[hr];have hd:decide (na<=x)=false:=by simpa using hx
    have HK:=ae hk;have IH:=ae ih;clear hv hk ih hr hx;go_enter func71,ntmps71;go_wp2_with fail;go_loopw [9] (λi wr=>∃k:Nat,k<=len/\i= .int .i64 k/\b7 na nb nc (ks.drop k)=b7 na nb nc ks/\Below w.heap.size w wr/\wr.cell? ⟨w.heap.size,2,none⟩=some (.slice A len aA)/\w.heap.size<wr.heap.size) (λi _=>len-(intOf i).toNat)
    case atStart=>exact⟨0,by omega,rfl,rfl,aj _ _,by simp[go_sem],by simp[go_sem]⟩
    case round=>
     obtain⟨k,hk2,rfl,hcs,aG,hc2,hzl⟩:=hrel;have gV:=ae hcs;clear hcs;have fV:=aG.size;by_cases hlt:k<len
     ·obtain⟨b,off,t,v0,v1,v2,rfl,hb,bA,c0,c1,c2,ht⟩:=(HK.below (aG.mono hB) (aN _)).get hlt;have hsz:t.size<=m:=Nat.le_trans (T.dC bA) (by omega);have HC:=ae (IH.out t B wr v0 v1 v2 hsz (by omega) ht);have HD:=ae (show b7 na nb nc (ks.drop k)=(eI na nb nc t && b7 na nb nc (ks.drop (k+1)))from by rw[b8 bA];rfl);have eY:(k:Int)<(len:Int):=by omega
      have hbl:b<wr.heap.size:=by omega
      obtain⟨q,hq⟩:∃q,q=eI na nb nc t:=⟨_,rfl⟩
      rw[<-hq]at HC HD;clear bA ht hq hsz;cases q with
      |false=>
       go_wp2_with fail;refine HC.mono ?_;rintro e w1 ⟨rfl,hb1⟩;go_wp2_with fail;go_ret;have he:b7 na nb nc ks=false:=by rw[<-gV.out,HD.out];simp
       exact⟨by rw[he];rfl,aG.trans (hb1.mono fV)⟩
      |true=>
       go_wp2_with fail;refine HC.mono ?_;rintro e w1 ⟨rfl,hb1⟩;have vg:w1.cell? ⟨w.heap.size,2,none⟩=some (.slice (some ⟨b,off,none⟩) len aA):=ag hc2 hb1 (by omega);go_wp2_with fail;go_roundw
       case rel=>
        refine⟨k+1,by omega,by go_num,?_,aG.trans (hb1.mono fV),vg,by have:=hb1.size;omega⟩;rw[<-gV.out,HD.out];simp
       case measure=>simp[intOf];omega
     ·obtain rfl:k=len:=by omega
      go_wp2_with fail;go_ret;have he:b7 na nb nc ks=true:=by rw[<-gV.out,bD (by omega)];rfl
      exact⟨by rw[he];rfl,aG⟩
  by_cases h3:op=3
  ·subst h3;by_cases hx:x≥nb
   ·have hr:eI na nb nc (.node 3 x ks)=false:=by simp[eI,hx]
    rw[hr];have hd:decide (nb<=x)=true:=by simpa using hx
    clear hv hk ih hm hr hx;go_enter func71,ntmps71;go_wp2_with fail;go_ret;exact⟨rfl,aj _ _⟩
   ·have hr:eI na nb nc (.node 3 x ks)=b7 na nb nc ks:=by simp[eI,hx]
    rw[hr];have hd:decide (nb<=x)=false:=by simpa using hx
    have HK:=ae hk;have IH:=ae ih;clear hv hk ih hr hx;go_enter func71,ntmps71;go_wp2_with fail;go_loopw [9] (λi wr=>∃k:Nat,k<=len/\i= .int .i64 k/\b7 na nb nc (ks.drop k)=b7 na nb nc ks/\Below w.heap.size w wr/\wr.cell? ⟨w.heap.size,2,none⟩=some (.slice A len aA)/\w.heap.size<wr.heap.size) (λi _=>len-(intOf i).toNat)
    case atStart=>exact⟨0,by omega,rfl,rfl,aj _ _,by simp[go_sem],by simp[go_sem]⟩
    case round=>
     obtain⟨k,hk2,rfl,hcs,aG,hc2,hzl⟩:=hrel;have gV:=ae hcs;clear hcs;have fV:=aG.size;by_cases hlt:k<len
     ·obtain⟨b,off,t,v0,v1,v2,rfl,hb,bA,c0,c1,c2,ht⟩:=(HK.below (aG.mono hB) (aN _)).get hlt;have hsz:t.size<=m:=Nat.le_trans (T.dC bA) (by omega);have HC:=ae (IH.out t B wr v0 v1 v2 hsz (by omega) ht);have HD:=ae (show b7 na nb nc (ks.drop k)=(eI na nb nc t && b7 na nb nc (ks.drop (k+1)))from by rw[b8 bA];rfl);have eY:(k:Int)<(len:Int):=by omega
      have hbl:b<wr.heap.size:=by omega
      obtain⟨q,hq⟩:∃q,q=eI na nb nc t:=⟨_,rfl⟩
      rw[<-hq]at HC HD;clear bA ht hq hsz;cases q with
      |false=>
       go_wp2_with fail;refine HC.mono ?_;rintro e w1 ⟨rfl,hb1⟩;go_wp2_with fail;go_ret;have he:b7 na nb nc ks=false:=by rw[<-gV.out,HD.out];simp
       exact⟨by rw[he];rfl,aG.trans (hb1.mono fV)⟩
      |true=>
       go_wp2_with fail;refine HC.mono ?_;rintro e w1 ⟨rfl,hb1⟩;have vg:w1.cell? ⟨w.heap.size,2,none⟩=some (.slice (some ⟨b,off,none⟩) len aA):=ag hc2 hb1 (by omega);go_wp2_with fail;go_roundw
       case rel=>
        refine⟨k+1,by omega,by go_num,?_,aG.trans (hb1.mono fV),vg,by have:=hb1.size;omega⟩;rw[<-gV.out,HD.out];simp
       case measure=>simp[intOf];omega
     ·obtain rfl:k=len:=by omega
      go_wp2_with fail;go_ret;have he:b7 na nb nc ks=true:=by rw[<-gV.out,bD (by omega)];rfl
      exact⟨by rw[he];rfl,aG⟩
  by_cases h4:op=4
  ·subst h4;by_cases hx:x≥nc
   ·have hr:eI na nb nc (.node 4 x ks)=false:=by simp[eI,hx]
    rw[hr];have hd:decide (nc<=x)=true:=by simpa using hx
    clear hv hk ih hm hr hx;go_enter func71,ntmps71;go_wp2_with fail;go_ret;exact⟨rfl,aj _ _⟩
   ·have hr:eI na nb nc (.node 4 x ks)=b7 na nb nc ks:=by simp[eI,hx]
    rw[hr];have hd:decide (nc<=x)=false:=by simpa using hx
    have HK:=ae hk;have IH:=ae ih;clear hv hk ih hr hx;go_enter func71,ntmps71;go_wp2_with fail;go_loopw [9] (λi wr=>∃k:Nat,k<=len/\i= .int .i64 k/\b7 na nb nc (ks.drop k)=b7 na nb nc ks/\Below w.heap.size w wr/\wr.cell? ⟨w.heap.size,2,none⟩=some (.slice A len aA)/\w.heap.size<wr.heap.size) (λi _=>len-(intOf i).toNat)
    case atStart=>exact⟨0,by omega,rfl,rfl,aj _ _,by simp[go_sem],by simp[go_sem]⟩
    case round=>
     obtain⟨k,hk2,rfl,hcs,aG,hc2,hzl⟩:=hrel;have gV:=ae hcs;clear hcs;have fV:=aG.size;by_cases hlt:k<len
     ·obtain⟨b,off,t,v0,v1,v2,rfl,hb,bA,c0,c1,c2,ht⟩:=(HK.below (aG.mono hB) (aN _)).get hlt;have hsz:t.size<=m:=Nat.le_trans (T.dC bA) (by omega);have HC:=ae (IH.out t B wr v0 v1 v2 hsz (by omega) ht);have HD:=ae (show b7 na nb nc (ks.drop k)=(eI na nb nc t && b7 na nb nc (ks.drop (k+1)))from by rw[b8 bA];rfl);have eY:(k:Int)<(len:Int):=by omega
      have hbl:b<wr.heap.size:=by omega
      obtain⟨q,hq⟩:∃q,q=eI na nb nc t:=⟨_,rfl⟩
      rw[<-hq]at HC HD;clear bA ht hq hsz;cases q with
      |false=>
       go_wp2_with fail;refine HC.mono ?_;rintro e w1 ⟨rfl,hb1⟩;go_wp2_with fail;go_ret;have he:b7 na nb nc ks=false:=by rw[<-gV.out,HD.out];simp
       exact⟨by rw[he];rfl,aG.trans (hb1.mono fV)⟩
      |true=>
       go_wp2_with fail;refine HC.mono ?_;rintro e w1 ⟨rfl,hb1⟩;have vg:w1.cell? ⟨w.heap.size,2,none⟩=some (.slice (some ⟨b,off,none⟩) len aA):=ag hc2 hb1 (by omega);go_wp2_with fail;go_roundw
       case rel=>
        refine⟨k+1,by omega,by go_num,?_,aG.trans (hb1.mono fV),vg,by have:=hb1.size;omega⟩;rw[<-gV.out,HD.out];simp
       case measure=>simp[intOf];omega
     ·obtain rfl:k=len:=by omega
      go_wp2_with fail;go_ret;have he:b7 na nb nc ks=true:=by rw[<-gV.out,bD (by omega)];rfl
      exact⟨by rw[he];rfl,aG⟩
  have e2:(op==2)=false:=by simpa using h2
  have e3:(op==3)=false:=by simpa using h3
  have e4:(op==4)=false:=by simpa using h4
  have hr:eI na nb nc (.node op x ks)=b7 na nb nc ks:=by simp[eI,h2,h3,h4]
  rw[hr];have HK:=ae hk;have IH:=ae ih;clear hv hk ih hr h2 h3 h4;go_enter func71,ntmps71;go_wp2_with fail;go_loopw [9] (λi wr=>∃k:Nat,k<=len/\i= .int .i64 k/\b7 na nb nc (ks.drop k)=b7 na nb nc ks/\Below w.heap.size w wr/\wr.cell? ⟨w.heap.size,2,none⟩=some (.slice A len aA)/\w.heap.size<wr.heap.size) (λi _=>len-(intOf i).toNat)
  case atStart=>exact⟨0,by omega,rfl,rfl,aj _ _,by simp[go_sem],by simp[go_sem]⟩
  case round=>
   obtain⟨k,hk2,rfl,hcs,aG,hc2,hzl⟩:=hrel;have gV:=ae hcs;clear hcs;have fV:=aG.size;by_cases hlt:k<len
   ·obtain⟨b,off,t,v0,v1,v2,rfl,hb,bA,c0,c1,c2,ht⟩:=(HK.below (aG.mono hB) (aN _)).get hlt;have hsz:t.size<=m:=Nat.le_trans (T.dC bA) (by omega);have HC:=ae (IH.out t B wr v0 v1 v2 hsz (by omega) ht);have HD:=ae (show b7 na nb nc (ks.drop k)=(eI na nb nc t && b7 na nb nc (ks.drop (k+1)))from by rw[b8 bA];rfl);have eY:(k:Int)<(len:Int):=by omega
    have hbl:b<wr.heap.size:=by omega
    obtain⟨q,hq⟩:∃q,q=eI na nb nc t:=⟨_,rfl⟩
    rw[<-hq]at HC HD;clear bA ht hq hsz;cases q with
    |false=>
     go_wp2_with fail;refine HC.mono ?_;rintro e w1 ⟨rfl,hb1⟩;go_wp2_with fail;go_ret;have he:b7 na nb nc ks=false:=by rw[<-gV.out,HD.out];simp
     exact⟨by rw[he];rfl,aG.trans (hb1.mono fV)⟩
    |true=>
     go_wp2_with fail;refine HC.mono ?_;rintro e w1 ⟨rfl,hb1⟩;have vg:w1.cell? ⟨w.heap.size,2,none⟩=some (.slice (some ⟨b,off,none⟩) len aA):=ag hc2 hb1 (by omega);go_wp2_with fail;go_roundw
     case rel=>
      refine⟨k+1,by omega,by go_num,?_,aG.trans (hb1.mono fV),vg,by have:=hb1.size;omega⟩;rw[<-gV.out,HD.out];simp
     case measure=>simp[intOf];omega
   ·obtain rfl:k=len:=by omega
    go_wp2_with fail;go_ret;have he:b7 na nb nc ks=true:=by rw[<-gV.out,bD (by omega)];rfl
    exact⟨by rw[he];rfl,aG⟩
def fK(na nb nc:Int)(t:T):Int×Bool:=((wU t).1,(wU t).2 && eI na nb nc t)
theorem nD(na nb nc:Int)(t:T)(B:Nat)(w:World)(v0 v1 v2:Value)(hB:B<=w.heap.size)(hv:aX w (dP B) t v0 v1 v2):
  Calls prog 56 #[.agg #[v0,v1,v2],.int .i64 na,.int .i64 nb,.int .i64 nc] w λe w'=>e= .returned (.tuple #[.int .i64 (fK na nb nc t).1,.bool (fK na nb nc t).2])/\Below w.heap.size w w':=by
 obtain⟨a,b,A,n,c,rfl,rfl,rfl⟩:=hv.eH;have HT:=ae (Nf t B (w.alloc (.cells #[.int .i64 a,.int .i64 b,.slice A n c] 90)) _ _ _ (by simp;omega) (hv.below (aj w _|>.mono hB) (aN _)));have HV:=ae hv;unfold fK;obtain⟨⟨q,ok⟩,hq⟩:∃q,q=wU t:=⟨_,rfl⟩
 rw[<-hq]at HT ⊢;clear hv hq;cases ok with
 |false=>
  go_enter func56,ntmps56;go_wp2_with fail;refine HT.mono ?_;rintro e w1 ⟨rfl,hb1⟩;go_wp2_with fail;go_ret2;exact⟨rfl,(aj _ _).trans (hb1.mono (by simp))⟩
 |true=>
  go_enter func56,ntmps56;go_wp2_with fail;refine HT.mono ?_;rintro e w1 ⟨rfl,hb1⟩;have r0:w1.cell? ⟨w.heap.size,0,none⟩=some (.int .i64 a):=ag (by simp[go_sem]) hb1 (by simp);have r1:w1.cell? ⟨w.heap.size,1,none⟩=some (.int .i64 b):=ag (by simp[go_sem]) hb1 (by simp);have r2:w1.cell? ⟨w.heap.size,2,none⟩=some (.slice A n c):=ag (by simp[go_sem]) hb1 (by simp);have Cq:=(aj w _).trans (hb1.mono (by simp));have HN:=ae (K0 na nb nc t.size t B w1 _ _ _ (aN _) (by have:=Cq.size;omega) (HV.below (Cq.mono hB) (aN _)));go_wp2_with fail;refine HN.mono ?_;rintro e w2 ⟨rfl,hb2⟩;go_wp2_with fail;go_ret2;exact⟨rfl,Cq.trans (hb2.mono Cq.size)⟩
end Go.Proofs.YtikbdplllopjlaaGreat
namespace Go.Proofs.YtikbdplllopjlaaGreat
open Go.RowKit
def eR(na nb nc:Int):List T->Int->Int×Bool
 |[],n=>(n,true)
 |t::l,n=>if(fK na nb nc t).2=false then(0,false)else eR na nb nc l (n+(fK na nb nc t).1)
def lB(p:aM)(x:cM):Int:=
 if x.op=1 then 1 else if x.op=2 then 2 else if x.op=3 then(if fN x.fn ((p.funcs.length:Int)-1)=true then(p.funcs.getD x.fn.toNat jv).params else-1)else if x.op=4\/x.op=6 then 1 else if x.op=5 then 0 else-1
def bK(p:aM)(g:aP)(x:cM):Prop:=
 (x.op=2/\nG x.size=false)\/(x.args.length:Int)≠lB p x\/(¬(x.op=1\/x.op=3\/x.op=5)/\x.to≠ -1)\/(x.op≠2/\x.size≠0)\/(x.op≠3/\x.fn≠0)\/((x.op=1\/x.op=3\/x.op=5)/\x.to≥g.ay)\/(¬(x.op=1\/x.op=3\/x.op=5)/\-1≥g.ay)\/(x.to<0/\(x.op=1\/x.op=5\/x.to< -1))
open Classical in
noncomputable def a8(p:aM)(g:aP)(x:cM):Int×Bool:=if bK p g x then(0,false)else eR g.ay g.az.length p.ax.length x.args 0
structure sB (w:World) (B:Nat) (g:aP) (LV BV:Value):Prop where
 az:aL w B 3 (rf w B) g.az LV
 blocks:aL w B 7 (dX w B) g.blocks BV
 p64:bz g.params
 t64:bz g.ay
theorem sB.below{w w':World}{B B':Nat}{g:aP}{LV BV:Value}(h:sB w B g LV BV)(hb:Below B w w')(hB:B<=B'):sB w' B' g LV BV:=
 ⟨h.az.below hb hB λ_ _ h=>h.below hb hB,h.blocks.below hb hB λ_ _ h=>h.below hb hB,h.p64,h.t64⟩
def uK(w:World)(B:Nat)(P:Value×Value×Value)(p:aM):Prop:=
 aL w B 3 (rf w B) p.ax P.1/\aL w B 4 (dV w B) p.funcs P.2.1/\P.2.2= .int .i64 p.main/\bz p.main
theorem uK.below{w w':World}{B B':Nat}{P:Value×Value×Value}{p:aM}(h:uK w B P p)(hb:Below B w w')(hB:B<=B'):uK w' B' P p:=
 ⟨h.1.below hb hB λ_ _ h=>h.below hb hB,h.2.1.below hb hB λ_ _ h=>h.below hb hB,h.2.2⟩
def kI(p:aM)(g:aP)(x:cM):Prop:=∀(P:Value×Value×Value)(LV BV:Value)(A:Option Addr)(n aA B:Nat)(w:World),B<=w.heap.size->uK w B P p->sB w B g LV BV->bC w B x.args A n->
  Calls prog 35 #[.agg #[P.1,P.2.1,P.2.2],.agg #[.int .i64 g.params,.int .i64 g.ay,LV,BV],.agg #[.int .i64 x.op,.int .i64 x.to,.int .i64 x.size,.int .i64 x.fn,.slice A n aA]] w λe w'=>e= .returned (.tuple #[.int .i64 (a8 p g x).1,.bool (a8 p g x).2])/\Below w.heap.size w w'
theorem uK.shape{w:World}{B:Nat}{P:Value×Value×Value}{p:aM}(h:uK w B P p):∃GA gc FA fc,P=(.slice GA p.ax.length gc,.slice FA p.funcs.length fc,.int .i64 p.main):=by
 obtain⟨P0,P1,P2⟩:=P;obtain⟨⟨A,c,h0,_⟩,⟨A',c',h1,_⟩,h2,_⟩:=h;simp only at h0 h1 h2;exact⟨_,_,_,_,by rw[h0,h1,h2]⟩
theorem sB.shape{w:World}{B:Nat}{g:aP}{LV BV:Value}(h:sB w B g LV BV):∃LA lc BA bc,LV= .slice LA g.az.length lc/\BV= .slice BA g.blocks.length bc:=by
 obtain⟨⟨A,c,h0,_⟩,⟨A',c',h1,_⟩,_⟩:=h;exact⟨_,_,_,_,h0,h1⟩
end Go.Proofs.YtikbdplllopjlaaGreat
namespace Go.Proofs.YtikbdplllopjlaaGreat
open Go.RowKit
theorem E2(l:List jR)(A:Option Addr)(n aA:Nat)(most:Int)(B:Nat)(w:World)(hB:B<=w.heap.size)(hl:aL w B 3 (rf w B) l (.slice A n aA)):
  Calls prog 19 #[.slice A n aA,.int .i64 most] w λe w'=>e= .returned (.bool (eV l most))/\Below w.heap.size w w':=by
 obtain⟨xg,hn⟩:=hl.len;have HL:=ae hl;have Dd:=ae xg;clear hl xg;go_enter func19,ntmps19;go_wp2_with fail;go_loopw [5] (λi wr=>∃k:Nat,k<=n/\i= .int .i64 k/\qx (l.drop k)=qx l/\Below w.heap.size w wr) (λi _=>n-(intOf i).toNat)
 case atStart=>exact⟨0,by omega,rfl,rfl,bI _ _⟩
 case round=>
  obtain⟨k,hk,rfl,hcs,aG⟩:=hrel;have gV:=ae hcs;clear hcs;have fV:=aG.size;by_cases hlt:k<n
  ·obtain⟨b,off,o,rfl,hb,bA,c0,c1,⟨v,c2,hv⟩,_,_⟩:=(HL.below (aG.mono hB) (aN _) (λ_ _ h=>h.below (aG.mono hB) (aN _))).get hlt;simp only[Nat.add_zero]at c0 c1 c2;obtain⟨IA,icap,Qb⟩:∃IA icap,v= .slice IA o.init.length icap:=(by obtain⟨A',c',h,_⟩:=hv;exact⟨_,_,h⟩)
   subst Qb;have x7:=hv.len.2;have HD:=ae (show qx (l.drop k)=(JV o && qx (l.drop (k+1)))from by rw[b8 bA];rfl);have eY:(k:Int)<(n:Int):=by omega
   have hbl:b<wr.heap.size:=by omega
   have HS:=ae (λW=>EO o.size W);have HT:=ae (λW=>rZ o.count 1 64 W);obtain⟨q1,jZ⟩:∃q,q=nG o.size:=⟨_,rfl⟩
   obtain⟨q2,Dx⟩:∃q,q=iI o.count 1 64:=⟨_,rfl⟩
   rw[<-jZ]at HS;rw[<-Dx]at HT;have HO:=ae (show JV o=(q1 && q2 && !decide ((o.init.length:Int)>o.count))from by rw[jZ,Dx];rfl);clear bA hv jZ Dx;have Bh:JV o=false->qx l=false:=λh=>by rw[<-gV.out,HD.out,h];rfl
   have rS:JV o=true->qx (l.drop (k+1))=qx l:=λh=>by rw[<-gV.out,HD.out,h];rfl
   have xY:=ae Bh;have xV:=ae rS;clear Bh rS;cases q1 with
   |false=>
    go_wp2_with fail;go_quiet ((go_at_call 34;exact Calls.quiet_of_same ((HS _).mono λ_ _ h=>⟨h.1,h.2.symm⟩)));go_wp2_with fail;go_ret;have he:eV l most=false:=by unfold eV;rw[xY (by rw[HO.out];rfl)];rfl
    exact⟨by rw[he];rfl,below_drewN aG _⟩
   |true=>
    cases q2 with
    |false=>
     go_wp2_with fail;go_quiet ((first|(go_at_call 34;exact Calls.quiet_of_same ((HS _).mono λ_ _ h=>⟨h.1,h.2.symm⟩))|(go_at_call 20;exact Calls.quiet_of_same ((HT _).mono λ_ _ h=>⟨h.1,h.2.symm⟩))));go_wp2_with fail;go_ret;have he:eV l most=false:=by unfold eV;rw[xY (by rw[HO.out];rfl)];rfl
     exact⟨by rw[he];rfl,below_drewN aG _⟩
    |true=>
     by_cases hx:(o.init.length:Int)>o.count
     ·have hd:decide (o.count<(o.init.length:Int))=true:=by simpa using hx
      have he:eV l most=false:=by unfold eV;rw[xY (by rw[HO.out];simpa using hx)];rfl
      have HE:=ae he;clear hx he;go_wp2_with fail;go_quiet ((first|(go_at_call 34;exact Calls.quiet_of_same ((HS _).mono λ_ _ h=>⟨h.1,h.2.symm⟩))|(go_at_call 20;exact Calls.quiet_of_same ((HT _).mono λ_ _ h=>⟨h.1,h.2.symm⟩))));go_wp2_with fail;go_ret;exact⟨by rw[HE.out];rfl,below_drewN aG _⟩
     ·have hd:decide (o.count<(o.init.length:Int))=false:=by simpa using hx
      have HE:=ae (xV (by rw[HO.out];simpa using hx));clear hx;go_wp2_with fail;go_quiet ((first|(go_at_call 34;exact Calls.quiet_of_same ((HS _).mono λ_ _ h=>⟨h.1,h.2.symm⟩))|(go_at_call 20;exact Calls.quiet_of_same ((HT _).mono λ_ _ h=>⟨h.1,h.2.symm⟩))));go_wp2_with fail;go_roundw
      case rel=>exact⟨k+1,by omega,by go_num,HE.out,below_drewN aG _⟩
      case measure=>simp[intOf];omega
  ·obtain rfl:k=n:=by omega
   have he:qx l=true:=by rw[<-gV.out,bD (by rw[Dd.out];exact aN _)];rfl
   have hl2:eV l most=decide ((k:Int)<=most):=by unfold eV;rw[he,Dd.out];rfl
   have HE:=ae hl2;clear he hl2;go_wp2_with fail;go_ret;exact⟨by rw[HE.out];rfl,aG⟩
mutual
def Kt:T->Int->Int
 | .node _ _ ks,d=>if d=0 then 1048576 else yg ks d 1
def yg:List T->Int->Int->Int
 |[],_,n=>n
 |k::ks,d,n=>if n<1048576 then yg ks d (n+Kt k (d-1))else n
end
mutual
theorem Dj:∀(t:T)(d:Int),0<=d->1<=Kt t d/\Kt t d<=1048576*(d+1)
 | .node op x ks,d,h=>by
  rw[Kt];split
  ·omega
  ·exact JL ks d 1 (by omega) (by omega) (by omega)
theorem JL:∀(ks:List T)(d n:Int),1<=d->1<=n->n<=1048576*(d+1)->1<=yg ks d n/\yg ks d n<=1048576*(d+1)
 |[],d,n,h,h0,h1=>by rw[yg];exact⟨h0,h1⟩
 |k::ks,d,n,h,h0,h1=>by
  rw[yg];have hk:=Dj k (d-1) (by omega);split
  ·exact JL ks d _ h (by omega) (by omega)
  ·exact⟨h0,h1⟩
end
def SK(m:Nat):Prop:=∀(t:T)(d:Int)(B:Nat)(w:World)(v0 v1 v2:Value),t.size<=m->B<=w.heap.size->aX w (dP B) t v0 v1 v2->0<=d->d<=1000->
  Calls prog 33 #[.agg #[v0,v1,v2],.int .i64 d] w λe w'=>e= .returned (.int .i64 (Kt t d))/\Below w.heap.size w w'
theorem JM(m:Nat):SK m:=by
 induction m with
 |zero=>intro t _ _ _ _ _ _ hm;have:=t.size_pos;omega
 |succ m ih=>
  rintro⟨op,x,ks⟩ d B w v0 v1 v2 hm hB hv hd0 Qc;obtain⟨A,aA,len,rfl,rfl,_,_,rfl,hk⟩:=bC.gI hv;simp only[T.size]at hm;have hlen:=hk.1;have Lm:=hk.2.1;by_cases h0:d=0
  ·subst h0;have hr:Kt (.node op x ks) 0=1048576:=by rw[Kt,if_pos rfl]
   rw[hr];clear hv hk ih hm hr;go_enter func33,ntmps33;go_wp2_with fail;go_ret;exact⟨rfl,aj _ _⟩
  ·have e0:(d==0)=false:=by simpa using h0
   have hr:Kt (.node op x ks) d=yg ks d 1:=by rw[Kt,if_neg h0]
   rw[hr];have zQ:1<=d:=by omega
   have HK:=ae hk;have IH:=ae ih;clear hv hk ih hr h0;go_enter func33,ntmps33;refine ak λQ HQ=>?_;go_wp2_with fail;go_loopw [5,6] (λa i wr=>∃(k:Nat)(n:Int),k<=len/\i= .int .i64 k/\a= .int .i64 n/\1<=n/\n<=1048576*(d+1)/\yg (ks.drop k) d n=yg ks d 1/\Below w.heap.size w wr/\wr.cell? ⟨w.heap.size,2,none⟩=some (.slice A len aA)/\w.heap.size<wr.heap.size) (λ_ i _=>len-(intOf i).toNat)
   case atStart=>exact⟨0,1,by omega,rfl,rfl,by omega,by omega,rfl,aj _ _,by simp[go_sem],by simp[go_sem]⟩
   case round=>
    obtain⟨k,n,hk2,rfl,rfl,mX,mr,hcs,aG,hc2,hzl⟩:=hrel;have gV:=ae hcs;clear hcs;have fV:=aG.size;by_cases hlt:k<len
    ·obtain⟨b,off,t,v0,v1,v2,rfl,hb,bA,c0,c1,c2,ht⟩:=(HK.below (aG.mono hB) (aN _)).get hlt;have eY:(k:Int)<(len:Int):=by omega
     have GR:decide ((k:Int)<(len:Int))=true:=by simpa using hlt
     have HD:=ae (show yg (ks.drop k) d n=if n<1048576 then yg (ks.drop (k+1)) d (n+Kt t (d-1))else n from by rw[b8 bA];rfl);have hbl:b<wr.heap.size:=by omega
     by_cases hn:n<1048576
     ·have hsz:t.size<=m:=Nat.le_trans (T.dC bA) (by omega);have dO:=Dj t (d-1) (by omega);have HC:=ae (IH.out t (d-1) B wr v0 v1 v2 hsz (by omega) ht (by omega) (by omega));obtain⟨q,hq⟩:∃q,q=Kt t (d-1):=⟨_,rfl⟩
      rw[<-hq]at HC HD dO;obtain⟨OC,OB⟩:=dO;have PH:=ae (HD.trans (if_pos hn));have TE:decide (n<1048576)=true:=by simpa using hn
      clear bA ht hq hsz HD;go_wp2_with fail;refine HC.mono ?_;rintro e w1 ⟨rfl,hb1⟩;have vg:w1.cell? ⟨w.heap.size,2,none⟩=some (.slice (some ⟨b,off,none⟩) len aA):=ag hc2 hb1 (by omega);go_wp2_with fail;go_roundw
      case rel=>
       exact⟨k+1,n+q,by omega,by go_num,rfl,by omega,by omega,by rw[<-gV.out,PH.out],aG.trans (hb1.mono fV),vg,by have:=hb1.size;omega⟩
      case measure=>simp[intOf];omega
     ·have HE:=ae (show yg ks d 1=n by rw[<-gV.out,HD.out,if_neg hn]);have TE:decide (n<1048576)=false:=by simpa using hn
      clear bA ht HD hn;go_wp2_with fail;refine HQ _ _ _ ?_;exact aR (v:= .int .i64 n) (by simp[results,results33,go_sem]) rfl ⟨by rw[HE.out],aG⟩
    ·obtain rfl:k=len:=by omega
     have GR:decide ((k:Int)<(k:Int))=false:=by simp
     have HE:=ae (show yg ks d 1=n by rw[<-gV.out,bD (by omega)];rfl);go_wp2_with fail;refine HQ _ _ _ ?_;exact aR (v:= .int .i64 n) (by simp[results,results33,go_sem]) rfl ⟨by rw[HE.out],aG⟩
end Go.Proofs.YtikbdplllopjlaaGreat
namespace Go.Proofs.YtikbdplllopjlaaGreat
open Go.RowKit Go.Deep
theorem JY{α:Type}(n:Nat)(p:Nat->α->Prop)(h:∀i,i<n->∃x,p i x):∃l:List α,l.length=n/\∀i x,l[i]? =some x->p i x:=by
 induction n with
 |zero=>exact⟨[],rfl,λi x h=>by simp at h⟩
 |succ n ih=>
  obtain⟨l,hl,hp⟩:=ih (λi hi=>h i (by omega));obtain⟨x,hx⟩:=h n (by omega);refine⟨l++[x],by simp[hl],λi y hy=>?_⟩;rcases Nat.lt_or_ge i l.length with hlt|hge
  ·rw[List.getElem?_append_left hlt]at hy;exact hp i y hy
  ·rw[List.getElem?_append_right hge]at hy;have:i-l.length=0:=by
    rcases Nat.eq_zero_or_pos (i-l.length)with h0|h0
    ·exact h0
    ·rw[List.getElem?_eq_none (by simp;omega)]at hy;cases hy
   rw[this]at hy;simp at hy;subst hy;rw[show i=n by omega];exact hx
theorem cs3{cs:List Value}{v0 v1 v2:Value}(hl:cs.length=3)(h0:(cs.drop 0).take 1=[v0])(h1:(cs.drop 1).take 1=[v1])(h2:(cs.drop 2).take 1=[v2]):cs=[v0,v1,v2]:=by
 match cs,hl with
 |[a,b,c],_=>simp at h0 h1 h2;rw[h0,h1,h2]
section
variable {H:Type} {enc:TypeId×Value->H} {w:World} {ai:Nat} {spare:Nat->Bool} {held:Bool}
end
theorem mL{H:Type}{P:Program}{e:TypeId}{d:DataW H}{n:Nat}:∀{l:List (DataW H)},d∈l->n∈d.weights P e->n∈DataW.weightsAll P e l
 |[],h,_=>by simp at h
 |x::l,h,hn=>by
  simp only[DataW.weightsAll,List.mem_append];rcases List.mem_cons.1 h with rfl|h
  ·exact aH hn
  ·exact aT (mL h hn)
end Go.Proofs.YtikbdplllopjlaaGreat
