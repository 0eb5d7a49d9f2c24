/- The graph's heap: an op of two. Conditions: as stated. A tree's value in the graph's machine: how the machine is read; leaves. Conditions: as stated. A tree's value in the graph's machine: nodes. Conditions: as stated. A tree's value in the graph's machine: nodes of two kids. Conditions: as stated. A tree's value in the graph's machine is the page's. Conditions: as stated. The graph's heap: objects are made, one by one. Conditions: as stated. The graph's heap: objects are no more. Conditions: as stated. The graph's machine: how a run and a frame lie; trees' values, gathered. Conditions: as stated. Virtual code that may be, may be run (plain). Conditions: as stated. virt's frame and run: how they lie. No program in sight but its name. No condition. virt: Labels; the region in which a run keeps a function's labels. Conditions: as stated. What an instruction reckons (plain). No program in sight. No condition. -/
import Derived.Test.YtinmgbodgecoeaaGreatGBinZz
set_option linter.unusedSimpArgs false
set_option linter.unusedVariables false
set_option maxHeartbeats 8000000
set_option maxRecDepth 100000
open Go.Proofs.Tryz
namespace Go.Proofs.YtinmgbodgecoeaaGreat
open Go.RowKit
theorem Bl(hb n aA B:Nat)(op:Int)(a b:V)(A:Option Addr)(M:List MO)(w:World)(hB:B<=w.heap.size)(hpb:hb<w.heap.size)(hc:w.cell? ⟨hb,0,none⟩=some (.slice A n aA))(hM:bU w B A n M)(hka:a.obj≠0->a.obj<M.length/\0<=a.n/\a.n<=512)(hkb:b.obj≠0->b.obj<M.length/\0<=b.n/\b.n<=512)(hib:In64 b.n)(h0:12<=op)(h1:op<=30):
  Calls prog 100 #[.pointer (some ⟨hb,0,none⟩),.int .i64 op,.agg #[.int .i64 a.obj,.int .i64 a.n],.agg #[.int .i64 b.obj,.int .i64 b.n]] w λe w'=>cN (dm bF M op a b) e/\Below w.heap.size w w':=by
 have no:∀{x:Int}{w':World}{e:Ending},e= .returned (.tuple #[.agg #[.int .i64 0,.int .i64 x],.bool false])/\Below w.heap.size w w'->cN none e/\Below w.heap.size w w':=λh=>⟨⟨_,_,h.1⟩,h.2⟩
 have yes:∀{x:Int}{w':World}{e:Ending},e= .returned (.tuple #[.agg #[.int .i64 0,.int .i64 x],.bool true])/\Below w.heap.size w w'->cN (some ⟨0,x⟩) e/\Below w.heap.size w w':=λh=>⟨by show _=_;rw[h.1];simp[aO],h.2⟩
 by_cases ha:a.obj=0
 ·by_cases hz:b.obj=0
  ·have e:dm bF M op a b=some ⟨0,bF op a.n b.n⟩:=by unfold dm;rw[if_pos ⟨ha,hz⟩]
   rw[e];exact(Oj hb n aA B op a b A M w hB hpb hc hM hka hkb h0 h1 ha hz).mono λ_ _=>yes
  ·have hab:a≠b:=λh=>hz (h▸ha);by_cases h2:op=12
   ·have e:dm bF M op a b=cT M b a.n:=by unfold dm;rw[if_neg (λh=>hz h.2),if_pos ⟨h2,ha⟩]
    rw[e];exact L8 hb n aA B op a b A M w hB hpb hc hM hka hkb h0 h1 ha hz h2
   ·by_cases h3:op=25\/op=26
    ·by_cases hn:a.n=0
     ·have e:dm bF M op a b=some ⟨0,op-25⟩:=by
       unfold dm;rw[if_neg (λh=>hz h.2),if_neg (λh=>h2 h.1),if_neg (λh=>h2 h.1),if_neg (λh=>hz h.2),if_pos h3,if_neg (λh=>by rcases h with h|h;exact h.2 hn;exact hz h.1),if_neg (λh=>by omega),if_neg hab];rcases h3 with rfl|rfl
       ·rw[eq_25];rfl
       ·rw[Gf];rfl
      rw[e];have hn':(a.n==0)=true:=by simpa using hn
      rcases h3 with h3|h3
      ·subst h3;exact(Ai hb n aA B 25 a b A M w hB hpb hc hM hka hkb h0 h1 ha hz rfl hn').mono λ_ _=>yes
      ·subst h3;exact(Ah hb n aA B 26 a b A M w hB hpb hc hM hka hkb h0 h1 ha hz rfl hn').mono λ_ _=>yes
     ·have e:dm bF M op a b=none:=by
       unfold dm;rw[if_neg (λh=>hz h.2),if_neg (λh=>h2 h.1),if_neg (λh=>h2 h.1),if_neg (λh=>hz h.2),if_pos h3,if_pos (aK ⟨ha,hn⟩)]
      rw[e];have hn':(a.n==0)=false:=by simpa using hn
      rcases h3 with h3|h3
      ·subst h3;exact(CP hb n aA B 25 a b A M w hB hpb hc hM hka hkb h0 h1 ha hz rfl hn').mono λ_ _=>no
      ·subst h3;exact(CO hb n aA B 26 a b A M w hB hpb hc hM hka hkb h0 h1 ha hz rfl hn').mono λ_ _=>no
    ·have e:dm bF M op a b=none:=by
      unfold dm;rw[if_neg (λh=>hz h.2),if_neg (λh=>h2 h.1),if_neg (λh=>h2 h.1),if_neg (λh=>hz h.2),if_neg h3,if_pos (aK (by omega))]
     rw[e];by_cases h4:op=13
     ·exact(Jj hb n aA B op a b A M w hB hpb hc hM hka hkb h0 h1 ha hz h4).mono λ_ _=>no
     ·exact(Ol hb n aA B op a b A M w hB hpb hc hM hka hkb h0 h1 ha hz (by omega) h4).mono λ_ _=>no
 ·by_cases hz:b.obj=0
  ·have hab:a≠b:=λh=>ha (h▸hz);by_cases h2:op=12
   ·have e:dm bF M op a b=cT M a b.n:=by unfold dm;rw[if_neg (λh=>ha h.1),if_neg (λh=>ha h.2),if_pos ⟨h2,hz⟩]
    rw[e];exact L9 hb n aA B op a b A M w hB hpb hc hM hka hkb h0 h1 ha hz h2
   ·by_cases h4:op=13
    ·have e:dm bF M op a b=if b.n= -9223372036854775808 then none else cT M a (-b.n):=by unfold dm;rw[if_neg (λh=>ha h.1),if_neg (λh=>ha h.2),if_neg (λh=>h2 h.1),if_pos ⟨h4,hz⟩]
     rw[e];by_cases hm:b.n= -9223372036854775808
     ·rw[if_pos hm];have hw:IntKind.i64.wrap (-b.n)=b.n:=by rw[hm];rfl
      exact(FE hb n aA B op a b A M w hB hpb hc hM hka hkb h0 h1 ha hz h4 (by rw[hm];rfl) hw).mono λ_ _=>no
     ·rw[if_neg hm];have hw:IntKind.i64.wrap (-b.n)= -b.n:=IntWalk.i64_in _ (by unfold In64 at hib;omega);by_cases hn:b.n=0
      ·exact Oi hb n aA B op a b A M w hB hpb hc hM hka hkb h0 h1 ha hz h4 (by simp[hn]) hw (by simp[hn])
      ·exact Ro hb n aA B op a b A M w hB hpb hc hM hka hkb h0 h1 ha hz h4 hn hw (by simp;omega)
    ·by_cases h3:op=25\/op=26
     ·by_cases hn:b.n=0
      ·have e:dm bF M op a b=some ⟨0,op-25⟩:=by
        unfold dm;rw[if_neg (λh=>ha h.1),if_neg (λh=>ha h.2),if_neg (λh=>h2 h.1),if_neg (λh=>h4 h.1),if_pos h3,if_neg (λh=>by rcases h with h|h;exact ha h.1;exact h.2 hn),if_neg (λh=>by omega),if_neg hab];rcases h3 with rfl|rfl
        ·rw[eq_25];rfl
        ·rw[Gf];rfl
       rw[e];have hn':(b.n==0)=true:=by simpa using hn
       rcases h3 with h3|h3
       ·subst h3;exact(Ak hb n aA B 25 a b A M w hB hpb hc hM hka hkb h0 h1 ha hz rfl hn').mono λ_ _=>yes
       ·subst h3;exact(Aj hb n aA B 26 a b A M w hB hpb hc hM hka hkb h0 h1 ha hz rfl hn').mono λ_ _=>yes
      ·have e:dm bF M op a b=none:=by
        unfold dm;rw[if_neg (λh=>ha h.1),if_neg (λh=>ha h.2),if_neg (λh=>h2 h.1),if_neg (λh=>h4 h.1),if_pos h3,if_pos (bu ⟨hz,hn⟩)]
       rw[e];have hn':(b.n==0)=false:=by simpa using hn
       rcases h3 with h3|h3
       ·subst h3;exact(CR hb n aA B 25 a b A M w hB hpb hc hM hka hkb h0 h1 ha hz rfl hn').mono λ_ _=>no
       ·subst h3;exact(CQ hb n aA B 26 a b A M w hB hpb hc hM hka hkb h0 h1 ha hz rfl hn').mono λ_ _=>no
     ·have e:dm bF M op a b=none:=by
       unfold dm;rw[if_neg (λh=>ha h.1),if_neg (λh=>ha h.2),if_neg (λh=>h2 h.1),if_neg (λh=>h4 h.1),if_neg h3,if_pos (aK (by omega))]
      rw[e];exact(Om hb n aA B op a b A M w hB hpb hc hM hka hkb h0 h1 ha hz (by omega) h4).mono λ_ _=>no
  ·exact Ji hb n aA B op a b A M w hB hpb hc hM hka hkb h0 h1 ha hz
def yK(ng:Nat):List V:=(List.range ng).map λi=>⟨i+1,0⟩
def ui(lo:List Nat):List V:=lo.map λx=>⟨x,0⟩
def x7(w:World)(B rb fb:Nat)(M:List MO)(tp:List V)(lo:List Nat)(ng:Nat):Prop:=
 ∃(hb n aA tc lc gc:Nat)(A TA LA GA:Option Addr),w.cell? ⟨rb,4,none⟩=some (.pointer (some ⟨hb,0,none⟩))/\w.cell? ⟨hb,0,none⟩=some (.slice A n aA)/\bU w B A n M/\
  w.cell? ⟨rb,5,none⟩=some (.slice GA ng gc)/\EW w B GA (yK ng)/\w.cell? ⟨fb,0,none⟩=some (.slice TA tp.length tc)/\EW w B TA tp/\w.cell? ⟨fb,1,none⟩=some (.slice LA lo.length lc)/\EW w B LA (ui lo)/\rb<B/\fb<B/\hb<B
theorem x7.below{w w':World}{B B' rb fb:Nat}{M:List MO}{tp:List V}{lo:List Nat}{ng:Nat}(h:x7 w B rb fb M tp lo ng)(hb:Below B w w')(hB:B<=B'):x7 w' B' rb fb M tp lo ng:=by
 obtain⟨hb',n,aA,tc,lc,gc,A,TA,LA,GA,h1,h2,h3,h4,h5,h6,h7,h8,h9,h10,h11,h12⟩:=h;exact⟨hb',n,aA,tc,lc,gc,A,TA,LA,GA,ag h1 hb h10,ag h2 hb h12,h3.below hb hB,ag h4 hb h10,h5.below hb hB,ag h6 hb h11,h7.below hb hB,ag h8 hb h11,h9.below hb hB,by omega,by omega,by omega⟩
theorem M9{ng k:Nat}(h:k<ng):(yK ng)[k]? =some ⟨k+1,0⟩:=by simp[yK,h]
theorem Gl{lo:List Nat}{k:Nat}(h:k<lo.length):(ui lo)[k]? =some ⟨lo.getD k 0,0⟩:=by simp[ui,h,List.getD]
end Go.Proofs.YtinmgbodgecoeaaGreat
namespace Go.Proofs.YtinmgbodgecoeaaGreat
open Go.RowKit
attribute [local go_sem ↓] Go.wp_at_zero Go.wp_at_succ
theorem Gh(M:List MO)(l:List kH):(au (bf M l)).length=(au M).length+l.length:=by
 rw[<-tA,qM,qK];split
 ·rename_i h;subst h;rfl
 ·rfl
theorem Nc(M:List MO)(k:Nat):cU (ui (cX M (k+1)))=cU (ui (cX M k))++[.int .i64 (((au M).length:Int)+(k:Int)),.int .i64 0]:=by
 rw[AP];unfold ui;rw[List.map_append,rV];simp[cU,gL]
theorem RT{ai:Nat}{own:Nat->Prop}{cb hb:Nat}{ah:Int}{s:St}{w:World}(o:kH)(v:Value)(h:iH w ai own cb hb ah s)(ho:rY o)(hl:aD w ai o.init v)(jk:(au s.mem).length+1<=1000000000):
  Calls prog 44 #[.pointer (some ⟨hb,0,none⟩),.agg #[.int .i64 o.size,.int .i64 o.count,v]] w λe w'=>e= .returned (.agg #[.int .i64 ((au s.mem).length:Nat),.int .i64 0])/\∃own':Nat->Prop,(∀k,own k->own' k)/\(∀k,own' k->own k\/w.heap.size<=k)/\iH w' ai own' cb hb ah {s with mem:=gP s.mem o}/\Wr own w w':=by
 obtain⟨inv,outv,aU,rb,h⟩:=h;refine(M8 hb ai own aU rb (au s.mem) o v w h.Vd h.own h.pos (cZ _) ho hl jk).mono ?_;rintro e w' ⟨he,own',iL,NV,h1,h2,h3,h4,h5⟩;refine⟨he,own',h1,h2,⟨inv,outv,iL,NV,HC.remem (M:=gP s.mem o) h h5 (λk hk=>?_) h1 h2 h3 ?_⟩,h5.mono (λk hk=>aK ?_)⟩
 ·rcases hk with⟨hk,cs,hr⟩|rfl
  ·exact⟨hk,cs,_,hr,bu (aK rfl)⟩
  ·exact⟨h.RM,_,_,h.heap,bu (bu rfl)⟩
 ·rw[tB,<-uM];exact h4
 ·rcases hk with⟨hk,_⟩|rfl
  ·exact hk
  ·exact h.RM
def Ti(ai:Nat)(own:Nat->Prop)(cb hb:Nat)(ah:Int)(s:St)(l:List kH)(w:World)(e:Ending)(w':World):Prop:=
 ∃(pv:Value)(own':Nat->Prop),e= .returned pv/\(∀k,own k->own' k)/\(∀k,own' k->own k\/w.heap.size<=k)/\iH w' ai own' cb hb ah {s with mem:=bf s.mem l}/\
  w'.ownsRow w.heap.size 75 2 pv l.length (cU (ui (cX s.mem l.length)))/\(∀g,pv.ownBlock=some g->¬own' g)/\Wr own w w'
theorem Qv{ai:Nat}{own:Nat->Prop}{cb hb:Nat}{ah:Int}{s:St}{w:World}(l:List kH)(A:Option Addr)(n aA:Nat)(h:iH w ai own cb hb ah s)(gU:∀o,o∈l->rY o)(hl:SliceAt w ai 3 (sG w ai) l (.slice A n aA))(hnl:l.length<=1000)(jk:(au s.mem).length<=900000000):
  Calls prog 26 #[.pointer (some ⟨hb,0,none⟩),.slice A n aA] w λe w'=>Ti ai own cb hb ah s l w e w':=by
 have hbk:=h.blocks;have hbs:ai<=w.heap.size:=by have:=hbk.2.2 cb hbk.1;omega
 have yF:=hl.len;obtain⟨i0,hi,hz0,hz1,hz2⟩:=info_parts vG;have H:=ae h;have uZ:=ae gU;have HL:=ae hl;have x9:=ae yF.1;have HOW:=ae hbk.2.2;have rT:n<=1000:=by omega
 have GH:=yF.2;have IL:=ae jk;clear h gU hl hbk yF jk;go_enter func26,ntmps26;refine aj λQ HQ=>?_;go_wp2_with fail;go_loopw [4,9] (λpv0 i wr=>∃(k:Nat)(Mw:Nat->Prop)(pv:Value),pv=pv0/\k<=n/\i= .int .i64 k/\(∀x,own x->Mw x)/\(∀x,Mw x->own x\/w.heap.size<=x)/\iH wr ai Mw cb hb ah {s with mem:=bf s.mem (l.take k)}/\wr.ownsRow w.heap.size 75 2 pv k (cU (ui (cX s.mem k)))/\(∀g,pv.ownBlock=some g->¬Mw g)/\Wr own w wr) (λ_ i _=>n-(intOf i).toNat)
 case atStart=>exact⟨0,own,_,rfl,by omega,rfl,λ_ h=>h,λ_ h=>aK h,H.out,World.ownsRow_nil _ _ _ _,λg h=>(by cases h),Wr.refl _ _⟩
 case round=>
  obtain⟨k,Mw,pv,rfl,hk,rfl,ho1,ho2,Q7,hrow,PB,hwr⟩:=hrel;have pS:=hwr.size;have hB':Below ai w wr:=hwr.below hbs (λk hk=>(HOW.out k hk).1);have LK:=ae ho1;have S7:=ae ho2;have HHK:=ae Q7;have dI:=ae hrow;have W6:=ae PB;have tN:=ae hwr;by_cases hlt:k<n
  ·obtain⟨b,off,o,rfl,hbB,hok,c0,c1,⟨v,c2,hv⟩,_,_⟩:=(HL.below hB' (aY _) (λ_ _ h=>h.below hB' (aY _))).get hlt;simp only[Nat.add_zero]at c0 c1 c2;obtain⟨IA,icap,Q0⟩:∃IA icap,v= .slice IA o.init.length icap:=(by obtain⟨A',c',h,_⟩:=hv;exact⟨_,_,h⟩)
   subst Q0;have IE:=ae hok;have hkl:(k:Int)<(n:Int):=by omega
   have hbl:b<wr.heap.size:=by omega
   have hsz:=Gh s.mem (l.take k);rw[List.length_take,Nat.min_eq_left (by have:=x9.out;omega)]at hsz;have hmk:=IL.out;have Fl:=ae hsz;have W9:=ae (RT (s:={s with mem:=bf s.mem (l.take k)}) (w:=wr.alloc (.cells #[.int .i64 o.size,.int .i64 o.count,.slice IA o.init.length icap] 90)) o _ (Q7.below (ax _ _)) (uZ.out o (List.mem_of_getElem? hok)) (hv.below ((ax wr _).mono (by omega)) (aY _)) (by show(au (bf s.mem (l.take k))).length+1<=1000000000;omega));simp only at W9;rw[hsz,Int.natCast_add]at W9;clear hok hv hwr hB' ho1 ho2 Q7 hrow PB hsz hmk;go_wp2_with fail;refine W9.mono ?_;rintro e w1 ⟨rfl,own',h1,h2,h3,h4⟩;have vT:=h4.size;simp only[World.size_alloc]at vT
   have hown1:=aF (aF dI (eW (ax wr (.cells #[.int .i64 o.size,.int .i64 o.count,.slice IA o.init.length icap] 90))) (λ_ _ h=>h)) h4 W6.out;have H1:=ae (And.intro h1 (And.intro h2 h3));have H4:=ae h4;have HOWN1:=ae hown1;clear h1 h2 h3 h4 hown1;go_wp2_with(at_builtin;refine wpList_append_lies _ rfl (.tmp 13) (.tmp 17) 67 rfl w.heap.size 75 i0 (.agg #[.int .i64 0,.int .i64 0]) 2 16 underlying67 hi hz0 hz1 hz2 rfl (by decide) _ _ _ rfl (aF HOWN1 (eW (ax w1 _)) (λ_ _ h=>h)) ⟨w1.heap.size,0,none⟩ 1 1 [.int .i64 (((au s.mem).length:Int)+(k:Int)),.int .i64 0] rfl rfl ?c1 ?c2 ?c3 ?c4 ?c5 ?c6 (w1.heap.size+1) (by simp) ?_)
   case c1=>exact pair_cells _ _ _ _ _ (by simp)
   case c2=>exact AB _ _
   case c3=>omega
   case c4=>unfold maxLen;omega
   case c5=>omega
   case c6=>simp;omega
   ·intro gg fJ w2 hown2 hgrow hat hlt2;have hpv:∀g,pv.ownBlock=some g->w.heap.size<=g/\g<wr.heap.size:=λg hg=>(by obtain⟨h,cs,hr⟩:=aC dI.out hg;exact⟨h,hr.lt⟩)
    have hno:∀g,pv.ownBlock=some g->¬own' g:=λg hg h=>(by
     rcases H1.2.1 g h with h'|h'
     ·exact W6.out g hg h'
     ·have:=(hpv g hg).2;simp only[World.size_alloc]at h';omega)
    have DD:Wr (λk=>pv.ownBlock=some k) (w1.alloc (.cells #[.int .i64 (((au s.mem).length:Int)+(k:Int)),.int .i64 0] 75)) w2:=Wr.grown hgrow (λk hk=>hk);have HF:=ae (show iH w2 ai own' cb hb ah {s with mem:=gP (bf s.mem (l.take k)) o}from(H1.2.2.below (ax _ _)).wr DD (λg hg=>⟨by have:=(hpv g hg).1;omega,hno g hg⟩));have DY:=ae (show¬own' gg from λh=>by
     rcases hat with h'|h'
     ·exact hno gg h' h
     ·have:=(H1.2.2.blocks.2.2 gg h).2;omega)
    have HWF:=ae (show Wr own w w2 from((((tN.trans (eW (ax wr (.cells #[.int .i64 o.size,.int .i64 o.count,.slice IA o.init.length icap] 90))) (λ_ h=>h.elim)).trans H4.out S7.out).trans (eW (ax w1 (.cells #[.int .i64 (((au s.mem).length:Int)+(k:Int)),.int .i64 0] 75))) (λ_ h=>h.elim)).trans DD (λg hg=>bu (hpv g hg).1)));have LI:=ae hown2;clear hown2 hgrow hat DD hpv hno;go_wp2_with fail;go_roundw
    case rel=>
     refine⟨k+1,own',_,rfl,by omega,by go_num,λx hx=>H1.1 x (LK.out x hx),λx hx=>?_,?_,?_,λg hg=>?_,HWF.out⟩
     ·rcases H1.2.1 x hx with h'|h'
      ·exact S7.out x h'
      ·simp only[World.size_alloc]at h';exact bu (by omega)
     ·rw[bW IE.out,qN];exact HF.out
     ·rw[Nc];exact LI.out
     ·simp only[Value.ownBlock,Option.some.injEq]at hg;exact hg▸DY.out
    case measure=>simp[intOf];omega
  ·obtain rfl:k=n:=by omega
   have e:l.take k=l:=by rw[<-x9.out];exact List.take_length
   rw[e]at HHK;clear hwr hB' ho1 ho2 Q7 hrow PB;go_wp2_with fail;refine HQ _ _ _ ?_;refine aS (v:=_) (by simp[results,results26,go_sem]) rfl ⟨_,Mw,rfl,LK.out,S7.out,HHK.out,?_,W6.out,tN.out⟩;rw[x9.out];exact dI.out
end Go.Proofs.YtinmgbodgecoeaaGreat
namespace Go.Proofs.YtinmgbodgecoeaaGreat
open Go.RowKit
theorem jq.kill{w:World}{ai:Nat}{own:Nat->Prop}{rb:Nat->Nat}{M:List MO}{g aA:Nat}(h:jq w ai own (.slice (some ⟨g,0,none⟩) M.tail.length aA) rb M)(y:Nat):
  jq ((w.setCell ⟨g,y*3+2,none⟩ (.bool true)).setCell ⟨g,y*3+1,none⟩ (.slice none 0 0)) ai own (.slice (some ⟨g,0,none⟩) M.tail.length aA) rb (M.modify (y+1) dead):=by
 have hw:=gI w g (y*3+2) (y*3+1) (.bool true) (.slice none 0 0);obtain⟨⟨xs,hx,qO⟩,hm,hi,hok,hn⟩:=h;have oM:(M.modify (y+1) dead).tail=M.tail.modify y dead:=by cases M<;>simp[List.modify_succ_cons]
 obtain⟨_,cs,hgr⟩:=aC hx (g:=g) rfl;have h1:=((hx.stored (y*3+2) (.bool true)).1.stored (y*3+1) (.slice none 0 0)).1;refine⟨⟨(xs.set (y*3+2) (.bool true)).set (y*3+1) (.slice none 0 0),by rw[oM,List.length_modify];exact h1,λk o ho=>?_⟩,λk o ho=>?_,λa b ha hb=>hi a b (by simpa [oM]using ha) (by simpa [oM]using hb),hok.kill (y+1),hn.Lr (y+1)⟩
 ·rw[oM]at ho;obtain⟨o0,h0,rfl⟩:=cR ho;obtain⟨p0,p1,p2⟩:=qO k o0 h0;have hkl:k<M.tail.length:=by
   rcases Nat.lt_or_ge k M.tail.length with h|h
   ·exact h
   ·rw[List.getElem?_eq_none h]at h0;cases h0
  have hxl:=hx.1;unfold vk;rw[List.getElem?_set_ne (by omega),List.getElem?_set_ne (by omega)];by_cases e:y=k
  ·subst e;rw[if_pos rfl,List.getElem?_set_self (by simp;omega),List.getElem?_set_ne (by omega),List.getElem?_set_self (by omega)];exact⟨p0,rfl,rfl⟩
  ·rw[if_neg e,List.getElem?_set_ne (by omega),List.getElem?_set_ne (by omega),List.getElem?_set_ne (by omega),List.getElem?_set_ne (by omega)];exact⟨p0,p1,p2⟩
 ·rw[oM]at ho;obtain⟨o0,h0,rfl⟩:=cR ho;obtain⟨q1,cv,q2,q3⟩:=hm k o0 h0;refine⟨q1,cv,q2.wr hw (λe=>q2.ne hgr (by decide) e),?_⟩;split
  ·exact q3
  ·exact q3
theorem HC.Lr{w:World}{ai:Nat}{own:Nat->Prop}{cb hb:Nat}{ah:Int}{s:St}{inv outv:Value}{rb:Nat->Nat}{g q aA:Nat}(h:HC w ai own cb hb ah s inv outv (.slice (some ⟨g,0,none⟩) q aA) rb)(hq:q=(au s.mem).tail.length)(y:Nat):
  HC ((w.setCell ⟨g,y*3+2,none⟩ (.bool true)).setCell ⟨g,y*3+1,none⟩ (.slice none 0 0)) ai own cb hb ah {s with mem:=s.mem.modify (y+1) dead} inv outv (.slice (some ⟨g,0,none⟩) q aA) rb/\Wr own w ((w.setCell ⟨g,y*3+2,none⟩ (.bool true)).setCell ⟨g,y*3+1,none⟩ (.slice none 0 0)):=by
 have hw:=gI w g (y*3+2) (y*3+1) (.bool true) (.slice none 0 0);have hgo:=h.memo g rfl;have hgr:∃cs,Row w g cs 128:=by
  obtain⟨⟨xs,hx,_⟩,_⟩:=h.mem;exact(aC hx (g:=g) rfl).2
 obtain⟨cs,hgr⟩:=hgr;subst hq;refine⟨HC.remem (own':=own) (M:=s.mem.modify (y+1) dead) h hw (λk hk=>?_) (λ_ h=>h) (λ_ h=>aK h) (λk hk=>?_) ⟨?_,?_,h.memo⟩,hw.mono (λi hi=>aK (hi▸hgo))⟩
 ·subst hk;exact⟨hgo,cs,_,hgr,bu (aK rfl)⟩
 ·have:=(h.own k hk).2;simpa using this
 ·exact h.heap.wr hw (λe=>h.heap.ne hgr (by decide) e)
 ·have e:au (s.mem.modify (y+1) dead)=(au s.mem).modify (y+1) dead:=(uP s.mem [y+1]).symm;rw[e];exact h.mem.kill y
theorem J1{M:List MO}{lo:List Nat}{k x:Nat}(h:lo[k]? =some x):dL M (lo.take (k+1))=(dL M (lo.take k)).modify x dead:=by
 rw[bW h,A9]
theorem RX{ai:Nat}{own:Nat->Prop}{cb hb:Nat}{ah:Int}{s:St}{w:World}(lo:List Nat)(A:Option Addr)(n aA:Nat)(h:iH w ai own cb hb ah s)(hlo:∀x,x∈lo->1<=x/\x<(au s.mem).length)(hn:lo.length=n)(hnb:n<=1000000)
  (hp:∀j v,(ui lo)[j]? =some v->∃b off,A=some ⟨b,off,none⟩/\b<w.heap.size/\¬own b/\bJ w b (off+j*2) v):
  Calls prog 48 #[.pointer (some ⟨hb,0,none⟩),.slice A n aA] w λe w'=>e= .returned (.tuple #[])/\iH w' ai own cb hb ah {s with mem:=dL s.mem lo}/\Wr own w w':=by
 have H:=ae h;have Rc:=ae hlo;have HN:=ae hn;have HP:=ae hp;clear h hlo hn hp;go_enter func48,ntmps48;refine aj λQ HQ=>?_;go_wp2_with fail;go_loopw [9] (λi wr=>∃k:Nat,k<=n/\i= .int .i64 k/\iH wr ai own cb hb ah {s with mem:=dL s.mem (lo.take k)}/\Wr own w wr) (λi _=>n-(intOf i).toNat)
 case atStart=>exact⟨0,by omega,rfl,H.out,Wr.refl _ _⟩
 case round=>
  obtain⟨k,hk,rfl,Q7,hwr⟩:=hrel;have pS:=hwr.size;have tN:=ae hwr;by_cases hlt:k<n
  ·have hkl:k<lo.length:=by have:=HN.out;omega
   obtain⟨b,off,rfl,hbl,ZQ,hv0,hv1⟩:=HP.out k _ (Gl hkl);have hx:=Rc (lo.getD k 0) (by rw[List.getD_eq_getElem?_getD,List.getElem?_eq_getElem hkl];exact List.getElem_mem _);have HGX:=ae (show lo[k]? =some (lo.getD k 0)from by rw[List.getD_eq_getElem?_getD,List.getElem?_eq_getElem hkl];rfl);obtain⟨y,hy⟩:∃y,lo.getD k 0=y+1:=⟨lo.getD k 0-1,by omega⟩
   rw[hy]at hv0 hv1 hx HGX;have hc0:wr.cell? ⟨b,off+k*2,none⟩=some (.int .i64 ((y:Int)+1)):=(World.cell?_of_block (a:=⟨b,_,none⟩) (hwr.block b hbl ZQ)).trans (by simpa using hv0);have hc1:wr.cell? ⟨b,off+k*2+1,none⟩=some (.int .i64 0):=(World.cell?_of_block (a:=⟨b,_,none⟩) (hwr.block b hbl ZQ)).trans hv1;obtain⟨inv,outv,aU,rb,hC⟩:=id Q7;have hkm:(au (dL s.mem (lo.take k))).length=(au s.mem).length:=by rw[<-uP,mH]
   obtain⟨MM,ZX⟩:∃MM,MM=au (dL s.mem (lo.take k)):=⟨_,rfl⟩
   have hmem:=hC.mem;have TE:=hC.memo;simp only at hmem;rw[<-ZX]at hmem hkm;obtain⟨q,hq⟩:∃q,q=MM.tail.length:=⟨_,rfl⟩
   have hyq:y<q:=by rw[hq,List.length_tail];omega
   have uQ:=hmem.ok.many;have hq2:q<=4294967296:=by rw[hq,List.length_tail];omega
   obtain⟨⟨xs,Sa,qO⟩,_⟩:=id hmem;rw[<-hq]at Sa;obtain⟨g,fK,hmv⟩:∃g fK,aU= .slice (some ⟨g,0,none⟩) q fK:=(by obtain⟨_,h|⟨g,c,cur,h,_⟩⟩:=id Sa;exact absurd h.2 (by omega);exact⟨_,_,h⟩)
   subst hmv;have p0:wr.cell? ⟨hb,0,none⟩=some (.slice (some ⟨g,0,none⟩) q fK):=hC.heap.cell rfl;obtain⟨_,cs,hgr⟩:=aC Sa (g:=g) rfl;have hgo:=TE g rfl;have hgl:=hgr.lt;have hbl2:=hC.heap.lt;obtain⟨oy,hoy⟩:∃oy,MM.tail[y]? =some oy:=⟨_,List.getElem?_eq_getElem (hq▸hyq)⟩
   obtain⟨o0,o1,o2⟩:=qO y oy hoy;have d1:=Sa.cells (g:=g) rfl (y*3+1) _ o1;have d2:=Sa.cells (g:=g) rfl (y*3+2) _ o2;rw[wY]at d1 d2;have e1:=hgr.free (y*3+1);have e2:=hgr.free (y*3+2);have hy0:(0:Int)<=(y:Int):=by omega
   have hy1:(y:Int)<(q:Int):=by omega
   have hw1:IntKind.i64.wrap (y:Int)=(y:Int):=IntWalk.i64_in _ (by omega);have hw2:IntKind.i64.wrap ((y:Int)+1-1)=(y:Int):=by rw[Int.add_sub_cancel];exact hw1
   have hk0:(0:Int)<=(k:Int):=by omega
   have qP:(k:Int)<(n:Int):=by omega
   have aJ:b<wr.heap.size:=by omega
   have Xk:=ae hC;have HMEM:=ae hmem;have HMM:=ae ZX;have WV:=ae hq;have HG:=ae (And.intro hgo hgr);clear Q7 hwr hC hmem TE ZX hq Sa qO hgr hgo hoy o0 o1 o2 hv0 hv1 hx hkm uQ hy ZQ;have hz1:hb<wr.heap.size+1:=by omega
   have hz2:g<wr.heap.size+1:=by omega
   have hz3:¬g=wr.heap.size:=by omega
   go_wp2_with fail;go_quiet (fail);go_wp2_with fail;go_roundw
   case rel=>
    obtain⟨a1,a2⟩:=(Xk.wr (F:=λ_=>False) (Wr.of_below (below_drewN (ax wr (.cells #[.int .i64 ((y:Int)+1),.int .i64 0] 75)) nq)) (λ_ h=>h.elim)).Lr (by rw[WV.out,HMM.out]) y;refine⟨k+1,by omega,by go_num,?_,(tN.trans (eW (below_drewN (ax wr (.cells #[.int .i64 ((y:Int)+1),.int .i64 0] 75)) nq)) (λ_ h=>h.elim)).trans a2 (λ_ h=>aK h)⟩;rw[J1 HGX.out];exact⟨_,_,_,_,a1⟩
   case measure=>simp[intOf];omega
  ·obtain rfl:k=n:=by omega
   have e:lo.take k=lo:=by rw[<-HN.out];exact List.take_length
   rw[e]at Q7;have HHK:=ae Q7;clear hwr Q7;go_wp2_with fail;refine HQ _ _ _ ?_
   go_end0
   exact⟨rfl,HHK.out,tN.out⟩
end Go.Proofs.YtinmgbodgecoeaaGreat
namespace Go.Proofs.YtinmgbodgecoeaaGreat
open Go.RowKit
attribute [local go_sem ↓] Go.wp_at_zero Go.wp_at_succ
theorem s9{w:World}{ai:Nat}{v:Value}{l:List V}{k:Nat}(h:w.ownsRow ai 75 2 v k (cU l))(hk:l.length=k):∃A aA,v= .slice A k aA/\EW w w.heap.size A l/\(∀j x,l[j]? =some x->∃b off,A=some ⟨b,off,none⟩/\b<w.heap.size/\v.ownBlock=some b/\bJ w b (off+j*2) x):=by
 rcases Nat.eq_zero_or_pos k with h0|hp
 ·have hl:l=[]:=List.eq_nil_of_length_eq_zero (by omega);subst hl;rcases h.2 with⟨e,e2⟩|⟨g,aA,cur,e,_⟩
  ·exact⟨none,0,by rw[e,h0],λj v hj=>by simp at hj,λj v hj=>by simp at hj⟩
  ·exact⟨_,aA,e,λj v hj=>by simp at hj,λj v hj=>by simp at hj⟩
 ·obtain⟨g,aA,e,h1,h2,h3⟩:=CU h hk hp;refine⟨some ⟨g,0,none⟩,aA,e,λj x hj=>⟨g,0,rfl,h2,by rw[Nat.zero_add];exact h3 j x hj⟩,λj x hj=>⟨g,0,rfl,h2,by rw[e];rfl,by rw[Nat.zero_add];exact h3 j x hj⟩⟩
theorem EG(n:Nat):(yK n).length=n:=by simp[yK]
theorem yC(lo:List Nat):(ui lo).length=lo.length:=by simp[ui]
end Go.Proofs.YtinmgbodgecoeaaGreat
namespace Go.Proofs.YtinmgbodgecoeaaGreat
open Go.RowKit
theorem tS{l:List bg}{n:Int}(h:dh l n=true):gG l n<l.length:=by
 unfold dh at h;unfold gG;rw[List.any_eq_true]at h;obtain⟨x,hx,hp⟩:=h;exact List.findIdx_lt_length_of_exists ⟨x,hx,hp⟩
theorem nG{nt nl ng:Nat}{r:Int}(h:0<=r/\r<nt):Dd nt nl ng (fX r):=by
 rw[fX,Dd,oJ];refine⟨by decide,by decide,rfl,λ_=>h,λh=>absurd h (by decide),λh=>absurd h (by decide),trivial⟩
theorem uU{nt nl ng:Nat}(n:Int):Dd nt nl ng (qc n):=by
 rw[qc,Dd,oJ];refine⟨by decide,by decide,rfl,λh=>absurd h (by decide),λh=>absurd h (by decide),λh=>absurd h (by decide),trivial⟩
theorem nH{r:Int}(h:In64 r):De (fX r):=by rw[fX,De,oK];exact⟨h,trivial⟩
theorem uV{n:Int}(h:In64 n):De (qc n):=by rw[qc,De,oK];exact⟨h,trivial⟩
theorem vE:In64 0:=by unfold In64;omega
theorem FH{nt nl ng:Nat}:∀{l:List Int},(∀r,r∈l->0<=r/\r<nt)->oJ nt nl ng (l.map fX)
 |[],_=>by simp[oJ]
 |r::l,h=>by
  rw[List.map_cons,oJ];exact⟨nG (h r (by simp)),FH λx hx=>h x (by simp[hx])⟩
theorem FI:∀{l:List Int},(∀r,r∈l->In64 r)->oK (l.map fX)
 |[],_=>by simp[oK]
 |r::l,h=>by
  rw[List.map_cons,oK];exact⟨nH (h r (by simp)),FI λx hx=>h x (by simp[hx])⟩
theorem RY{op:Int}(h:5<=op/\op<=11\/31<=op/\op<=36):Gt op=1:=by
 unfold Gt;rw[if_neg (by omega),if_neg (by omega)]
theorem O7{op:Int}(h:12<=op/\op<=30):Gt op=2:=by
 unfold Gt;rw[if_neg (by omega),if_pos h]
theorem Gc{nt nl ng:Nat}{op:Int}{t:T}(h:5<=op/\op<=11\/31<=op/\op<=36)(ht:Dd nt nl ng t):Dd nt nl ng (.node op 0 [t]):=by
 rw[Dd,oJ,oJ];exact⟨by omega,by omega,(RY h).symm,λ_=>by omega,λ_=>by omega,λ_=>by omega,ht,trivial⟩
theorem vM{nt nl ng:Nat}{op:Int}{t u:T}(h:12<=op/\op<=30)(ht:Dd nt nl ng t)(hu:Dd nt nl ng u):Dd nt nl ng (.node op 0 [t,u]):=by
 rw[Dd,oJ,oJ,oJ];exact⟨by omega,by omega,(O7 h).symm,λ_=>by omega,λ_=>by omega,λ_=>by omega,ht,hu,trivial⟩
theorem Gd{op:Int}{t:T}(ht:De t):De (.node op 0 [t]):=by
 rw[De,oK,oK];exact⟨vE,ht,trivial⟩
theorem vN{op:Int}{t u:T}(ht:De t)(hu:De u):De (.node op 0 [t,u]):=by
 rw[De,oK,oK,oK];exact⟨vE,ht,hu,trivial⟩
theorem pD{nt nl ng:Nat}{t:T}(h:Dd nt nl ng t):oJ nt nl ng [t]:=by rw[oJ,oJ];exact⟨h,trivial⟩
theorem pE{t:T}(h:De t):oK [t]:=by rw[oK,oK];exact⟨h,trivial⟩
theorem Us{nt nl ng:Nat}{t u:T}(h:Dd nt nl ng t)(k:Dd nt nl ng u):oJ nt nl ng [t,u]:=by rw[oJ,oJ,oJ];exact⟨h,k,trivial⟩
theorem Ut{t u:T}(h:De t)(k:De u):oK [t,u]:=by rw[oK,oK,oK];exact⟨h,k,trivial⟩
structure pP (c:aR) (ng nf:Nat) (par:Int->Int->Bool) (x:bg):Prop where
 ops:1<=x.op/\x.op<=17
 dst:(x.op=1\/x.op=2\/x.op=3\/x.op=4\/x.op=5\/x.op=6\/x.op=7\/x.op=8\/x.op=9\/x.op=12->0<=x.dst/\x.dst<c.regs)/\(x.op=10->x.dst= -1\/0<=x.dst/\x.dst<c.regs)
 a:x.op=2\/x.op=5\/x.op=6\/x.op=7\/x.op=8\/x.op=9\/x.op=11\/x.op=13\/x.op=16\/x.op=17->0<=x.a/\x.a<c.regs
 b:x.op=5->0<=x.b/\x.b<c.regs
 num:aH c ng nf par x=true
theorem R9{c:aR}{ng nf:Nat}{par:Int->Int->Bool}{x:bg}(h:sJ c ng nf par x=true):pP c ng nf par x:=by
 obtain⟨op,dst,a,b,n,arg⟩:=x;have hop:1<=op/\op<=17:=by
  unfold sJ aP at h;simp only at h;by_cases hh:1<=op/\op<=17
  ·exact hh
  ·rw[if_neg (by omega),if_neg (by omega),if_neg (by omega),if_neg (by omega),if_neg (by omega),if_neg (by omega),if_neg (by omega),if_neg (by omega),if_neg (by omega),if_neg (by omega)]at h;cases h
 have hs:op=1\/op=2\/op=3\/op=4\/op=5\/op=6\/op=7\/op=8\/op=9\/op=10\/op=11\/op=12\/op=13\/op=14\/op=15\/op=16\/op=17:=by omega
 have hn:aH c ng nf par ⟨op,dst,a,b,n,arg⟩=true:=by
  unfold sJ at h;split at h
  ·cases h
  ·simp only[Bool.and_eq_true]at h;exact h.2.2.2.2.2
 unfold sJ at h;rcases hs with rfl|rfl|rfl|rfl|rfl|rfl|rfl|rfl|rfl|rfl|rfl|rfl|rfl|rfl|rfl|rfl|rfl
 all_goals
  simp[aP,sH,eN]at h;refine⟨hop,⟨λq=>?_,λq=>?_⟩,λq=>?_,λq=>?_,hn⟩
  all_goals simp only at q ⊢
  all_goals first|omega|skip
 all_goals
  obtain⟨h1,_⟩:=h;split at h1<;>omega
section
variable {v:bB} {c:aR} {nt:Nat}
theorem Aq(hin:∀i,i∈c.ins->In64 i.op/\In64 i.dst/\In64 i.a/\In64 i.b/\In64 i.n/\∀x,x∈i.arg->In64 x)(hnt:c.regs=nt)(gH:∀g,g∈v.funcs->g.params<=4){x:bg}(hx:x∈c.ins)(hst:fF x)(h:pP c v.ay.length v.funcs.length (gN v) x):rX (eB v) nt c.az.length (aT x):=by
 obtain⟨i0,i1,i2,i3,i4,i5⟩:=hin x hx;obtain⟨hop,⟨hd,ZM⟩,ha,hb,hn⟩:=h;obtain⟨s15,s16,s17⟩:=hst;obtain⟨op,dst,a,b,n,arg⟩:=x;simp only at*;rw[hnt]at hd ZM ha hb;have hs:op=1\/op=2\/op=3\/op=4\/op=5\/op=6\/op=7\/op=8\/op=9\/op=10\/op=11\/op=12\/op=13\/op=14:=by omega
 unfold rX;rcases hs with rfl|rfl|rfl|rfl|rfl|rfl|rfl|rfl|rfl|rfl|rfl|rfl|rfl|rfl
 ·have d:=hd (by simp);exact⟨pD (uU _),pE (uV i4),by simp[aT],aK ⟨rfl,rfl,bu d⟩⟩
 ·have d:=hd (by simp);have d2:=ha (by simp);exact⟨pD (nG d2),pE (nH i2),by simp[aT],aK ⟨rfl,rfl,bu d⟩⟩
 ·have d:=hd (by simp);simp[aH]at hn;refine⟨pD ?_,pE ?_,by simp[aT],aK ⟨rfl,rfl,bu d⟩⟩
  ·rw[Dd,oJ];exact⟨by decide,by decide,rfl,λh=>absurd h (by decide),λ_=>hn,λh=>absurd h (by decide),trivial⟩
  ·rw[De,oK];exact⟨i4,trivial⟩
 ·have d:=hd (by simp);simp[aH]at hn;refine⟨pD ?_,pE ?_,by simp[aT],aK ⟨rfl,rfl,bu d⟩⟩
  ·rw[Dd,oJ];exact⟨by decide,by decide,rfl,λh=>absurd h (by decide),λh=>absurd h (by decide),λ_=>hn,trivial⟩
  ·rw[De,oK];exact⟨i4,trivial⟩
 ·have d:=hd (by simp);have d2:=ha (by simp);have d3:=hb rfl;simp[aH]at hn;exact⟨pD (vM hn (nG d2) (nG d3)),pE (vN (nH i2) (nH i3)),by simp[aT],aK ⟨rfl,rfl,bu d⟩⟩
 ·have d:=hd (by simp);have d2:=ha (by simp);simp[aH]at hn;have hg:In64 (arg.getD 0 0):=by
   match arg,hn.2.1 with
   |[q],_=>exact i5 q (by simp)
  exact⟨pD (vM hn.1 (nG d2) (uU _)),pE (vN (nH i2) (uV hg)),by simp[aT],aK ⟨rfl,rfl,bu d⟩⟩
 ·have d:=hd (by simp);have d2:=ha (by simp);simp[aH]at hn;exact⟨pD (Gc (bu hn) (nG d2)),pE (Gd (nH i2)),by simp[aT],aK ⟨rfl,rfl,bu d⟩⟩
 ·have d:=hd (by simp);have d2:=ha (by simp);simp[aH]at hn;exact⟨pD (Gc (aK hn.1) (vM (by decide) (nG d2) (uU _))),pE (Gd (vN (nH i2) (uV i3))),by simp[aT],aK ⟨rfl,rfl,bu d⟩⟩
 ·have d:=hd (by simp);have d2:=ha (by simp);simp[aH,j3]at hn;exact⟨Us (vM (by decide) (nG d2) (uU _)) (nG d),Ut (vN (nH i2) (uV i3)) (nH i1),by simp[aT],bu (aK ⟨rfl,rfl,rfl,hn.1⟩)⟩
 ·have d:=ZM rfl;simp[aH,mF,gN]at hn;obtain⟨⟨n1,n2⟩,n3,n4⟩:=hn;obtain⟨f,hf⟩:=Int.eq_ofNat_of_zero_le n1;subst hf;have hfl:f<v.funcs.length:=by omega
  have XI:v.funcs[f]? =some v.funcs[f]:=List.getElem?_eq_getElem hfl;have hgd:(v.funcs.getD ((f:Nat):Int).toNat uK)=v.funcs[f]:=by rw[Int.toNat_natCast,List.getD_eq_getElem?_getD,XI];rfl
  rw[<-List.getD_eq_getElem?_getD]at n4;have n4':v.funcs[f].params=(arg.length:Int):=by rw[<-n4];exact(congrArg aR.params hgd).symm▸rfl
  have h4:=gH _ (List.getElem_mem hfl);refine⟨FH (l:=arg) (λr hr=>by have:=n3 r hr;omega),FI (l:=arg) i5,by simp[aT];omega,bu (bu (aK ⟨rfl,⟨f,sA v.funcs[f],rfl,?_,?_⟩,d⟩))⟩
  ·simp[eB,XI]
  ·simp[aT,sA];omega
 ·have d2:=ha (by simp);exact⟨pD (nG d2),pE (nH i2),by simp[aT],bu (bu (bu (aK ⟨rfl,rfl,rfl⟩)))⟩
 ·have d:=hd (by simp);refine⟨by simp[aT,oJ],by simp[aT,oK],by simp[aT],bu (bu (bu (bu (aK ⟨rfl,rfl,d⟩))))⟩
 ·have d2:=ha (by simp);exact⟨pD (nG d2),pE (nH i2),by simp[aT],bu (bu (bu (bu (bu ⟨rfl,rfl,rfl⟩))))⟩
 ·exact⟨pD (uU _),pE (uV vE),by simp[aT],aK ⟨rfl,rfl,aK rfl⟩⟩
theorem DT(hin:∀i,i∈c.ins->In64 i.op/\In64 i.dst/\In64 i.a/\In64 i.b/\In64 i.n/\∀x,x∈i.arg->In64 x)(hnt:c.regs=nt)(gH:∀g,g∈v.funcs->g.params<=4)(hlen:0<c.ins.length)(hall:∀x,x∈c.ins->pP c v.ay.length v.funcs.length (gN v) x)(hlast:nZ c=true):
  ∀(r:List bg)(k:Nat),c.ins.drop k=r->(∀x,x∈(eu c.ins r k).steps->rX (eB v) nt c.az.length x)/\(eu c.ins r k).steps.length<=r.length/\((eu c.ins r k).fin=1\/(eu c.ins r k).fin=2\/(eu c.ins r k).fin=3)/\
   (0<=(eu c.ins r k).next/\(eu c.ins r k).next<c.ins.length)/\(0<=(eu c.ins r k).els/\(eu c.ins r k).els<c.ins.length)/\Dd nt c.az.length v.ay.length (eu c.ins r k).cond/\De (eu c.ins r k).cond
 |[],k,_=>by
  rw[eu];exact⟨λx hx=>by simp at hx,by simp,bu (bu rfl),⟨by simp,by simp;omega⟩,⟨by simp,by simp;omega⟩,uU _,uV vE⟩
 |x::r,k,hd=>by
  have hk:c.ins[k]? =some x:=by
   have:=congrArg (λl=>l[0]?) hd;simpa using this
  have hx:x∈c.ins:=List.mem_of_getElem? hk;have hok:=hall x hx;have hkl:k<c.ins.length:=(List.getElem?_eq_some_iff.1 hk).1;have hr:c.ins.drop (k+1)=r:=by
   have:=drop_cons hk;rw[hd]at this;injection this with _ h;exact h.symm
  obtain⟨i0,i1,i2,i3,i4,i5⟩:=hin x hx;rw[eu];by_cases iC:x.op=15
  ·rw[if_pos iC];have hn:=hok.num;unfold aH at hn;rw[if_neg (by omega),if_neg (by omega),if_neg (by omega),if_neg (by omega),if_neg (by omega),if_neg (by omega),if_neg (by omega),if_neg (by omega),if_pos (aK iC)]at hn;have:=tS hn;exact⟨λx hx=>by simp at hx,by simp,aK rfl,⟨by simp,by simp;omega⟩,⟨by simp,by simp;omega⟩,uU _,uV vE⟩
  ·rw[if_neg iC];by_cases mL:x.op=16
   ·rw[if_pos mL];have hn:=hok.num;unfold aH at hn;rw[if_neg (by omega),if_neg (by omega),if_neg (by omega),if_neg (by omega),if_neg (by omega),if_neg (by omega),if_neg (by omega),if_neg (by omega),if_pos (bu mL)]at hn;have:=tS hn;have ha:=hok.a (by omega);have hk1:k+1<c.ins.length:=by
     rcases Nat.lt_or_ge (k+1) c.ins.length with h|h
     ·exact h
     ·exfalso;have hke:c.ins.length-1=k:=by omega
      unfold nZ at hlast;rw[hke,List.getD_eq_getElem?_getD,hk]at hlast;simp at hlast;omega
    rw[hnt]at ha;exact⟨λx hx=>by simp at hx,by simp,bu (aK rfl),⟨by simp,by simp;omega⟩,⟨by simp;omega,by simp;omega⟩,nG ha,nH i2⟩
   ·rw[if_neg mL];by_cases p8:x.op=17
    ·rw[if_pos p8];have ha:=hok.a (by omega);rw[hnt]at ha;exact⟨λx hx=>by simp at hx,by simp,bu (bu rfl),⟨by simp,by simp;omega⟩,⟨by simp,by simp;omega⟩,nG ha,nH i2⟩
    ·rw[if_neg p8];obtain⟨b1,b2,b3,b4,b5,b6,b7⟩:=DT hin hnt gH hlen hall hlast r (k+1) hr;refine⟨λy hy=>?_,by simp only[List.length_cons];omega,b3,b4,b5,b6,b7⟩;rcases List.mem_cons.1 hy with rfl|hy
     ·exact Aq hin hnt gH hx ⟨iC,mL,p8⟩ hok
     ·exact b1 y hy
theorem F7{l:List kH}:pY l=true->∀o,o∈l->rY o:=by
 induction l with
 |nil=>intro _ o h;simp at h
 |cons a r ih=>
  intro h o ho;simp[pY,Lq,j3,oO]at h;rcases List.mem_cons.1 ho with rfl|ho
  ·exact⟨h.1.1.1,h.1.1.2.1,h.1.1.2.2,h.1.2⟩
  ·exact ih h.2 o ho
theorem rF{par:Int->Int->Bool}{ng nf:Nat}(h:gD c ng nf par=true):wG c/\(∀x,x∈c.ins->pP c ng nf par x)/\nZ c=true:=by
 unfold gD at h;by_cases hh:wG c
 ·rw[if_pos hh]at h;simp only[Bool.and_eq_true,List.all_eq_true]at h;exact⟨hh,λx hx=>R9 (h.1 x hx),h.2⟩
 ·rw[if_neg hh]at h;cases h
theorem SN(hin:tJ v)(hc:c∈v.funcs)(gH:∀g,g∈v.funcs->g.params<=4)(h:gD c v.ay.length v.funcs.length (gN v)=true):D8 (eB v) (sA c):=by
 obtain⟨⟨p0,p1,p2,p3,p4,p5,p6,p7⟩,hall,hlast⟩:=rF h;obtain⟨nt,hnt⟩:=Int.eq_ofNat_of_zero_le (show 0<=c.regs by omega);have ob:pY c.az=true/\(c.az.length:Int)<=400:=by simpa [fR]using p4
 refine⟨⟨nt,hnt,by omega,λb hb=>?_⟩,⟨by show 0<=c.params;omega,by show c.params<=c.regs;omega⟩,λo ho=>⟨F7 ob.1 o ho,hin.az c hc o ho⟩,by show c.az.length<=400;omega,by show 0<(b9 c.ins).length;rw[qA];omega,by show(b9 c.ins).length<=_;rw[qA];omega⟩;have hb':b∈b9 c.ins:=hb;obtain⟨k,hk,rfl⟩:∃k,k<c.ins.length/\eu c.ins (c.ins.drop k) k=b:=by
  unfold b9 at hb';obtain⟨k,hk,e⟩:=List.mem_map.1 hb';exact⟨k,List.mem_range.1 hk,e⟩
 obtain⟨b1,b2,b3,b4,b5,b6,b7⟩:=DT (nt:=nt) (hin.ins c hc) hnt gH (by omega) hall hlast _ k rfl;have hbl:(sA c).blocks.length=c.ins.length:=qA _;exact⟨b1,by simp at b2;omega,b3,by rw[hbl];exact b4,by rw[hbl];exact b5,λ_=>⟨b6,b7⟩⟩
theorem Ad(h:bY v=true):∀g,g∈v.funcs->g.params<=4:=by
 intro g hg;unfold bY at h;by_cases hh:s5 v
 ·rw[if_pos hh]at h;have:=List.all_eq_true.1 h g hg;obtain⟨⟨_,p1,_⟩,_⟩:=rF this;omega
 ·rw[if_neg hh]at h;cases h
theorem vF(hin:tJ v)(h:bY v=true):EX (eB v):=by
 have gH:=Ad h;unfold bY at h;by_cases hh:s5 v
 ·rw[if_pos hh]at h;obtain⟨h1,h2,h3,h4,h5⟩:=hh;have ob:pY v.ay=true/\(v.ay.length:Int)<=16:=by simpa [fR]using h1
  refine⟨λo ho=>⟨F7 ob.1 o ho,hin.ay o ho⟩,by show v.ay.length<=16;omega,λg hg=>?_,?_⟩
  ·obtain⟨c,hc,rfl⟩:=List.mem_map.1 (show g∈v.funcs.map sA from hg);exact SN hin hc gH (List.all_eq_true.1 h c hc)
  ·obtain⟨f,hf⟩:=Int.eq_ofNat_of_zero_le h4.1;have hfl:f<v.funcs.length:=by omega
   rw[hf,Int.toNat_natCast,List.getD_eq_getElem?_getD,List.getElem?_eq_getElem hfl]at h5;exact⟨f,sA v.funcs[f],hf,by simp[eB,hfl],h5⟩
 ·rw[if_neg hh]at h;cases h
end
end Go.Proofs.YtinmgbodgecoeaaGreat
namespace Go.Proofs.YtinmgbodgecoeaaGreat
open Go.RowKit
structure bX (w:World) (fb tb:Nat) (tp:List V) (lv:Value) (lo:List Nat) (mb:Nat):Prop where
 row:Row w fb #[.slice (some ⟨tb,0,none⟩) tp.length tp.length,lv,.map (some mb)] 110
 bN:iG w tb tp
 az:w.ownsRow 0 75 2 lv lo.length (cU (ui lo))
 apart:∀g,lv.ownBlock=some g->g≠tb
 few:tp.length<=1000000
 Z7:lo.length<=1000000
structure jd (w:World) (rb cb hb:Nat) (P:Value×Value×Value) (gv bv:Value) (ng:Nat):Prop where
 row:Row w rb #[.pointer (some ⟨cb,0,none⟩),P.1,P.2.1,P.2.2,.pointer (some ⟨hb,0,none⟩),gv,bv] 70
 ay:w.ownsRow 0 75 2 gv ng (cU (yK ng))
 few:ng<=1000000
structure oW (ai:Nat) (own:Nat->Prop) (rb fb tb:Nat) (lv gv:Value):Prop where
 Ll:¬own rb/\ai<=rb
 My:¬own fb/\ai<=fb
 El:¬own tb/\ai<=tb
 Lm:∀g,lv.ownBlock=some g->¬own g/\ai<=g
 JL:∀g,gv.ownBlock=some g->¬own g/\ai<=g/\g≠tb
 ort:rb≠tb
theorem bX.wr{F:Nat->Prop}{w w':World}{fb tb mb:Nat}{tp:List V}{lv:Value}{lo:List Nat}(h:bX w fb tb tp lv lo mb)(hb:Wr F w w')(h1:¬F fb)(h2:¬F tb)(h3:∀g,lv.ownBlock=some g->¬F g):bX w' fb tb tp lv lo mb:=by
 obtain⟨r1,⟨cs,r2,r3⟩,r4,r5,r6,r7⟩:=h;exact⟨r1.wr hb h1,⟨cs,r2.wr hb h2,r3⟩,aF r4 hb h3,r5,r6,r7⟩
theorem jd.wr{F:Nat->Prop}{w w':World}{rb cb hb:Nat}{P:Value×Value×Value}{gv bv:Value}{ng:Nat}(h:jd w rb cb hb P gv bv ng)(hw:Wr F w w')(h1:¬F rb)(h2:∀g,gv.ownBlock=some g->¬F g):jd w' rb cb hb P gv bv ng:=
 ⟨h.row.wr hw h1,aF h.ay hw h2,h.few⟩
theorem bX.below{w w':World}{fb tb mb:Nat}{tp:List V}{lv:Value}{lo:List Nat}(h:bX w fb tb tp lv lo mb)(hb:Below w.heap.size w w'):bX w' fb tb tp lv lo mb:=h.wr (eW hb) (λh=>h) (λh=>h) (λ_ _ h=>h)
theorem jd.below{w w':World}{rb cb hb:Nat}{P:Value×Value×Value}{gv bv:Value}{ng:Nat}(h:jd w rb cb hb P gv bv ng)(aJ:Below w.heap.size w w'):jd w' rb cb hb P gv bv ng:=h.wr (eW aJ) (λh=>h) (λ_ _ h=>h)
theorem bX.lt{w:World}{fb tb mb:Nat}{tp:List V}{lv:Value}{lo:List Nat}(h:bX w fb tb tp lv lo mb):fb<w.heap.size/\tb<w.heap.size:=⟨h.row.lt,by obtain⟨_,h,_⟩:=h.bN;exact h.lt⟩
theorem sZ{w:World}{ai:Nat}{own:Nat->Prop}{cb hb rb fb tb mb:Nat}{ah:Int}{s:St}{P:Value×Value×Value}{gv bv lv:Value}{ng:Nat}{tp:List V}{lo:List Nat}(h:iH w ai own cb hb ah s)(hR:jd w rb cb hb P gv bv ng)(hF:bX w fb tb tp lv lo mb):
  x7 w w.heap.size rb fb (au s.mem) tp lo ng/\cQ (au s.mem)/\eI (au s.mem):=by
 obtain⟨inv,outv,aU,rbf,h⟩:=h;obtain⟨A,aA,rfl,CG⟩:=h.mem.Tq;obtain⟨GA,gc,hgv,hgr,_⟩:=s9 hR.ay (EG ng);obtain⟨LA,lc,hlv,hlr,_⟩:=s9 hF.az (yC lo);obtain⟨cs,ht,gT⟩:=hF.bN;refine⟨⟨hb,_,aA,tp.length,lc,gc,A,some ⟨tb,0,none⟩,LA,GA,hR.row.cell (j:=4) rfl,h.heap.cell rfl,CG,?_,hgr,hF.row.cell (j:=0) rfl,λj v hj=>⟨tb,0,rfl,ht.lt,by rw[Nat.zero_add];exact⟨ht.cell (gT.2 j v hj).1,ht.cell (gT.2 j v hj).2⟩⟩,?_,hlr,hR.row.lt,hF.row.lt,h.heap.lt⟩,h.mem.ok,h.mem.num⟩
 ·rw[<-hgv];exact hR.row.cell (j:=5) rfl
 ·rw[<-hlv];exact hF.row.cell (j:=1) rfl
theorem ML:(prog.info? 71).map (λi=>(i.zero,i.size,i.bytes))=some (some (.map none),1,8):=by kernel_rfl
def Ix(l:List bg)(N:Nat)(w:World)(v:Value)(w':World):Prop:=∃mb n,v= .map (some mb)/\fL w' mb n (gS l)/\N<=mb/\Below w.heap.size w w'
theorem Fy(c:aR)(LA:Option Addr)(lc:Nat)(BA:Option Addr)(bc:Nat)(B:Nat)(w:World)(hB:B<=w.heap.size)(hl:SliceAt w B 6 (kI w B) c.ins (.slice BA c.ins.length bc))(hlen:c.ins.length<=8000)(sN:i6 [] c.ins=true):
  Calls prog 25 #[.agg #[.int .i64 c.params,.int .i64 c.regs,.slice LA c.az.length lc,.slice BA c.ins.length bc]] w λe w'=>∃v,e= .returned v/\Ix c.ins w.heap.size w v w':=by
 have HL:=ae (λ(fv:Value)=>Fx B (w.heap.size+1) c.ins BA bc (.int .i64 c.params) (.int .i64 c.regs) (.slice LA c.az.length lc) (.int .i64 0) (.int .i64 0) fv (.map none) ((w.alloc (.cells #[.int .i64 c.params,.int .i64 c.regs,.slice LA c.az.length lc,.slice BA c.ins.length bc] 54)).alloc (.cells #[.int .i64 c.params,.int .i64 c.regs,.slice LA c.az.length lc,.slice BA c.ins.length bc,.int .i64 0,.int .i64 0,fv,.map none] 103)) (Row.new' _ _ (by simp)) (hl.below ((aB w _ _).mono hB) (aY _) (λ_ _ h=>h.below ((aB w _ _).mono hB) (aY _))) (by omega) hlen);have qW:=ae sN;clear hl sN;go_enter func25,ntmps25;refine aj λQ HQ=>?_;go_wp2_with fail;refine(HL _).mono ?_;rintro e w2 ⟨rfl,mb,n,h1,h2,h3,h4,h5,h6⟩;have hmb:=h1
 simp only[World.size_alloc]at hmb;have HM:=ae (h6 qW.out);have k7:=h3.cell (j:=7) rfl;have kl:=h3.lt;have HW:=ae h4;clear h3 h4 h6;go_wp2_with fail;refine HQ _ _ _ ?_;refine aS (v:= .map (some mb)) (by simp[results,results25,go_sem]) rfl ⟨_,rfl,mb,n,rfl,HM.out,by omega,?_⟩;exact((eW (aB w _ _)).trans HW (λi hi=>bu (by omega))).below (aY _) (λ_ h=>h.elim)
def vrlC(rb:Nat)(lv cv:Value)(l:List bg)(N:Nat)(W:World):Nat->Value->Prop
 |0,v|1,v|2,v=>v= .pointer (some ⟨rb,0,none⟩)
 |3,v=>v= .pointer (some ⟨rb,6,none⟩)
 |4,v=>v=lv
 |5,v=>v=cv
 |6,v=>∃mb n,v= .map (some mb)/\fL W mb n (gS l)/\N<=mb
 |7,v=>∃nb mb n,v= .slice (some ⟨nb,0,none⟩) 1 1/\Row W nb #[.map (some mb)] 71/\fL W mb n (gS l)/\N<=mb
 |_,_=>True
def vrlF(ai N:Nat)(lv:Value)(k:Nat)(xs:List Value)(l:List bg)(w W':World)(v:Value):Prop:=
 ∃W g aA mb n,v= .slice (some ⟨g,0,none⟩) (k+1) aA/\Below w.heap.size w W/\fL W mb n (gS l)/\N<=mb/\W'.ownsRow ai 71 1 v (k+1) (xs++[.map (some mb)])/\W.grownBy W' lv.ownBlock/\(lv.ownBlock=some g\/g=W.heap.size)
noncomputable def vrlR:Code:=(fU (Tryz.f11.body.getD .skip)).getD 7 .skip
theorem IZ(rb gb ai:Nat)(q0 q1 q2 q3 q4 q5:Value)(c:aR)(LA:Option Addr)(lc:Nat)(BA:Option Addr)(bc:Nat)(ln:Option Addr)(k bn:Nat)(xs:List Value)(w:World)
  (hrow:Row w rb #[q0,q1,q2,q3,q4,q5,.slice ln k bn] 70)(oI:Row w gb #[.int .i64 c.params,.int .i64 c.regs,.slice LA c.az.length lc,.slice BA c.ins.length bc] 54)(hown:w.ownsRow ai 71 1 (.slice ln k bn) k xs)(hbase:ai<=w.heap.size)(hk:k<=100)
  (hlab:∀W,Below w.heap.size w W->Calls prog 25 #[.agg #[.int .i64 c.params,.int .i64 c.regs,.slice LA c.az.length lc,.slice BA c.ins.length bc]] W λe w'=>∃v,e= .returned v/\Ix c.ins W.heap.size W v w')
  {c0 c1 c2 c3 c4 c5 c6 c7 c9 c11 c12 c13 c14 c15 c16 c17 c18 c19 c20 c21 iU iT iX iW jM jL jK jJ jI jH jG jF jE jD jC jB jA jo jm jy kG kF kE kD kC kB jw c49 kA c51 jY jX jW jV jU jT jS jR jQ jP jO jN kV kU kT kS kR kQ kP kO kN lN kM kL lM lL lK lJ lI lH:Value}(Q:Exit->Act->World->Prop)
  (cL:∀(W W':World)(g aA mb n:Nat)(Y:Nat->Value),Below w.heap.size w W->fL W mb n (gS c.ins)->w.heap.size<=mb->W'.ownsRow ai 71 1 (.slice (some ⟨g,0,none⟩) (k+1) aA) (k+1) (xs++[.map (some mb)])->W.grownBy W' ((Value.slice ln k bn).ownBlock)->((Value.slice ln k bn).ownBlock=some g\/g=W.heap.size)->
   Q .normal ⟨List.toArray (c0::c1::c2::c3::c4::c5::c6::c7::(Value.pointer (some ⟨rb,0,none⟩))::c9::(Value.pointer (some ⟨gb,0,none⟩))::c11::c12::c13::c14::c15::c16::c17::c18::c19::c20::c21::iU::iT::iX::iW::jM::jL::jK::jJ::jI::jH::jG::jF::jE::jD::jC::jB::jA::jo::jm::Y 0::Y 1::Y 2::Y 3::Y 4::Y 5::Y 6::Y 7::Y 8::Y 9::Y 10::jY::jX::jW::jV::jU::jT::jS::jR::jQ::jP::jO::jN::kV::kU::kT::kS::kR::kQ::kP::kO::kN::lN::kM::kL::lM::lL::lK::lJ::lI::lH::[]),[]⟩ (W'.setCell ⟨rb,6,none⟩ (.slice (some ⟨g,0,none⟩) (k+1) aA))):
  Code.wp prog vrlR Q ⟨List.toArray (c0::c1::c2::c3::c4::c5::c6::c7::(Value.pointer (some ⟨rb,0,none⟩))::c9::(Value.pointer (some ⟨gb,0,none⟩))::c11::c12::c13::c14::c15::c16::c17::c18::c19::c20::c21::iU::iT::iX::iW::jM::jL::jK::jJ::jI::jH::jG::jF::jE::jD::jC::jB::jA::jo::jm::jy::kG::kF::kE::kD::kC::kB::jw::c49::kA::c51::jY::jX::jW::jV::jU::jT::jS::jR::jQ::jP::jO::jN::kV::kU::kT::kS::kR::kQ::kP::kO::kN::lN::kM::kL::lM::lL::lK::lJ::lI::lH::[]),[]⟩ w:=by
 obtain⟨i0,hi,hz0,hz1,hz2⟩:=info_parts ML;have dI:=ae hrow;have iA:=ae oI;have HOWN:=ae hown;have yf:=ae hlab;have uu:=ae cL;clear hrow oI hown hlab cL
 conv=>arg 2;whnf
 refine pF 8 (λi=>decide (i=0)) (by kernel_rfl) (by kernel_rfl) (by kernel_rfl) (vrlC rb (.slice ln k bn) (.agg #[.int .i64 c.params,.int .i64 c.regs,.slice LA c.az.length lc,.slice BA c.ins.length bc]) c.ins w.heap.size) (vrlF ai w.heap.size (.slice ln k bn) k xs c.ins w) (λY=>⟨List.toArray (c0::c1::c2::c3::c4::c5::c6::c7::(Value.pointer (some ⟨rb,0,none⟩))::c9::(Value.pointer (some ⟨gb,0,none⟩))::c11::c12::c13::c14::c15::c16::c17::c18::c19::c20::c21::iU::iT::iX::iW::jM::jL::jK::jJ::jI::jH::jG::jF::jE::jD::jC::jB::jA::jo::jm::Y 0::Y 1::Y 2::Y 3::Y 4::Y 5::Y 6::Y 7::Y 8::kA::c51::jY::jX::jW::jV::jU::jT::jS::jR::jQ::jP::jO::jN::kV::kU::kT::kS::kR::kQ::kP::kO::kN::lN::kM::kL::lM::lL::lK::lJ::lI::lH::[]),[]⟩) (λi=>if i=0 then jy else if i=1 then kG else if i=2 then kF else if i=3 then kE else if i=4 then kD else if i=5 then kC else if i=6 then kB else if i=7 then jw else if i=8 then c49 else undef) rfl ?_ ?_ ?_ ?_ ?_
 ·intro W W' i v hb h;rcases i with _|_|_|_|_|_|_|_|i
  iterate 6 (·exact h)
  ·obtain⟨mb,n,h1,h2,h3⟩:=h;exact⟨mb,n,h1,h2.below hb,h3⟩
  ·obtain⟨nb,mb,n,h1,h2,h3,h4⟩:=h;exact⟨nb,mb,n,h1,h2.below hb h2.lt,h3.below hb,h4⟩
  ·trivial
 ·intro i o' Y W hin hnl ho hb hall K hK;have HW:=ae hb;clear hb;rcases i with _|_|_|_|_|_|_|_|i
  ·simp at hnl
  ·simp at ho;subst ho;clear hall;refine ak rfl rfl (λK' hK'=>?_);go_simp;have hh:=hK' _ _ (hK _ _ (aV _ _) rfl);simpa [upd]using hh
  ·simp at ho;subst ho;have d1:Y 1=_:=hall {on:=1,ground:=Ground.data} (by simp) rfl;have rl:=dI.lt;clear hall;refine ak rfl rfl (λK' hK'=>?_);go_simp;have hh:=hK' _ _ (hK _ _ (aV _ _) rfl);simpa [upd,d1]using hh
  ·simp at ho;subst ho;have d2:Y 2=_:=hall {on:=2,ground:=Ground.data} (by simp) rfl;clear hall;refine ak rfl rfl (λK' hK'=>?_);go_simp;have hh:=hK' _ _ (hK _ _ (aV _ _) rfl);simpa [upd,d2]using hh
  ·simp at ho;subst ho;have d3:Y 3=_:=hall {on:=3,ground:=Ground.data} (by simp) rfl;have q6:=ag (dI.cell (j:=6) rfl) HW.out dI.lt;clear hall;refine ak rfl rfl (λK' hK'=>?_);go_simp;have hh:=hK' _ _ (hK _ _ (aV _ _) rfl);simpa [upd,d3]using hh
  ·simp at ho;subst ho;have x0:=ag (iA.cell (j:=0) rfl) HW.out iA.lt;have x1:=ag (iA.cell (j:=1) rfl) HW.out iA.lt;have x2:=ag (iA.cell (j:=2) rfl) HW.out iA.lt;have x3:=ag (iA.cell (j:=3) rfl) HW.out iA.lt;have xl:gb<W.heap.size:=fQ iA.lt HW.size;clear hall;refine ak rfl rfl (λK' hK'=>?_);go_simp;have hh:=hK' _ _ (hK _ _ (aV _ _) rfl);simpa [upd]using hh
  ·simp at ho;subst ho;have d5:Y 5=_:=hall {on:=5,ground:=Ground.data} (by simp) rfl;clear hall;refine ak rfl rfl (λK' hK'=>?_);go_simp;refine(yf.out W HW.out).mono ?_;rintro e W5 ⟨v,rfl,mb,n,rfl,hm,hmb,hb5⟩;have HM:=ae hm;have yh:=ae hb5;clear hm hb5;go_simp;have hh:=hK' _ _ (hK _ _ (yh.out) ⟨mb,n,rfl,HM.out,Nat.le_trans HW.size hmb⟩);simpa [upd,d5]using hh
  ·simp at ho;subst ho;obtain⟨mb,n,d6,hm,hmb⟩:=hall {on:=6,ground:=Ground.data} (by simp) rfl;have HM:=ae hm;clear hall hm;refine ak rfl rfl (λK' hK'=>?_);go_simp;have hh:=hK' _ _ (hK _ _ (ax W (.cells #[.map (some mb)] 71)) ⟨W.heap.size,mb,n,rfl,Row.new' _ _ rfl,HM.below (ax _ _),hmb⟩);simpa [upd,d6]using hh
  ·omega
 ·intro i o' Y W hin hl ho K hK;obtain rfl:i=0:=by simpa using hl
  simp at ho;subst ho;refine ak rfl rfl (λK' hK'=>?_);go_simp;have hh:=hK' _ _ (hK _ (λ_=>rfl));simpa [upd]using hh
 ·intro o' Y W ho hb hall K hK;have e4:Y 4=_:=hall 4 (by decide) (by decide);obtain⟨nb,mb,n,e7,Ls,hm,hmb⟩:=hall 7 (by decide) (by decide);have HB:=ae hb;have HNR:=ae Ls;have HM:=ae hm;have hsz:=hb.size;have hone:∀(j:Nat)(u:Value),[Value.map (some mb)][j]? =some u->W.cell? ((⟨nb,0,none⟩:Addr).add j)=some u:=λj u hj=>by
   rw[List.getElem?_cons]at hj;split at hj
   ·rename_i hj0;subst hj0;injection hj with hj;subst hj;exact HNR.cell (j:=0) rfl
   ·simp at hj
  have QF:=ae hone;simp at ho;subst ho;clear hall hb Ls hm hone;refine ak rfl rfl (λK' hK'=>?_);refine wp_append_lies _ (.tmp 45) (.tmp 48) 68 rfl ai 71 i0 (.map none) 1 8 underlying68 hi hz0 hz1 hz2 rfl (by decide) (.slice ln k bn) k xs e4 (aF HOWN (eW HB.out) (λ_ _ h=>h)) ⟨nb,0,none⟩ 1 1 [.map (some mb)] e7 rfl QF (by simp[Value.oneCell']) (by decide) (by unfold maxLen;omega) (by omega) (by omega) W.heap.size rfl (λg aA w' r1 r2 r3 r4=>?_);have hh:=hK' _ _ (hK (.slice (some ⟨g,0,none⟩) (k+1) aA) w' ⟨W,g,aA,mb,n,rfl,HB.out,HM.out,hmb,r1,r2,r3⟩);simpa [upd,Act.put]using hh
 ·intro Y W' ⟨W,g,aA,mb,n,e8,hb,hm,hmb,r1,r2,r3⟩ hl;have e0:Y 0=_:=hl 0 (by decide) (by decide) W';rw[e8]at r1;have HB:=ae hb;have HM:=ae hm;have oY:=ae r1;have DW:=ae r2;have hr0:Row W' rb #[q0,q1,q2,q3,q4,q5,.slice ln k bn] 70:=((dI.below hb dI.lt)).wr (Wr.grown (F:=λi=>(Value.slice ln k bn).ownBlock=some i) r2 (λi hi=>hi)) (λh=>(by
   obtain⟨_,cs,hx⟩:=aC HOWN.out h;exact hx.ne dI (by decide) rfl))
  have f6:=hr0.free 6;have fl:=hr0.lt;have f7:=hr0.cell (j:=6) rfl;clear hb hm r1 r2 hl hr0;simp only[List.drop_succ_cons,List.drop_zero,e0,e8];go_wp2_with fail;have hh:=uu.out W W' g aA mb n (upd (upd (upd (upd Y 0 (.pointer (some ⟨rb,0,none⟩))) 8 (.slice (some ⟨g,0,none⟩) (k+1) aA)) 9 (.pointer (some ⟨rb,0,none⟩))) 10 (.pointer (some ⟨rb,6,none⟩))) HB.out HM.out hmb oY.out DW.out r3;simpa [upd,e0]using hh
end Go.Proofs.YtinmgbodgecoeaaGreat
namespace Go.Proofs.YtinmgbodgecoeaaGreat
open Go.RowKit
def vJ(tp:List V)(r:Int):V:=tp.getD r.toNat ⟨0,0⟩
def yT(M:List MO)(tp:List V)(x:bg):Option V:=dm bF M 12 (vJ tp x.a) ⟨0,x.b⟩
def vK(M:List MO)(tp:List V)(lo:List Nat)(x:bg):Option V:=
 if x.op=1 then some ⟨0,x.n⟩
 else if x.op=2 then some (vJ tp x.a)
 else if x.op=3 then some ⟨lo.getD x.n.toNat 0,0⟩
 else if x.op=4 then some ⟨x.n.toNat+1,0⟩
 else if x.op=5 then dm bF M x.n (vJ tp x.a) (vJ tp x.b)
 else if x.op=6 then dm bF M x.n (vJ tp x.a) ⟨0,x.arg.getD 0 0⟩
 else if x.op=7 then(if(vJ tp x.a).obj=0 then some ⟨0,CN x.n (vJ tp x.a).n⟩else none)
 else match yT M tp x with
  |none=>none
  |some v=>gZ M x.n v
section
variable {M:List MO} {tp:List V} {lo:List Nat}
theorem cE(t:T):cF M tp lo [t]=(gB M tp lo t).map ([·]):=by
 rw[cF,cF];cases gB M tp lo t<;>rfl
theorem tV{op:Int}{t u:T}(h:12<=op/\op<=30){a b:V}(ha:gB M tp lo t=some a)(hb:gB M tp lo u=some b):gB M tp lo (.node op 0 [t,u])=dm bF M op a b:=by
 rw[gB,cF,cF,cF,ha,hb];show OT M tp lo op 0 [a,b]=_;unfold OT pO;rw[if_neg (by omega),if_neg (by omega),if_neg (by omega),if_neg (by omega),if_neg (by omega),if_neg (by omega)];rfl
theorem Ky(x:bg):gB M tp lo (.node 12 0 [fX x.a,qc x.b])=yT M tp x:=tV (by decide) (fH _ _ _ _) (nT _ _ _ _)
theorem Dt{c:aR}{ng nf:Nat}{par:Int->Int->Bool}{x:bg}(h:pP c ng nf par x)(h8:x.op<=8):cF M tp lo (aT x).args=(vK M tp lo x).map ([·]):=by
 obtain⟨hop,_,_,_,hn⟩:=h;obtain⟨op,dst,a,b,n,arg⟩:=x;simp only at*;have hs:op=1\/op=2\/op=3\/op=4\/op=5\/op=6\/op=7\/op=8:=by omega
 rcases hs with rfl|rfl|rfl|rfl|rfl|rfl|rfl|rfl
 ·rw[show(aT ⟨1,dst,a,b,n,arg⟩).args=[qc n]from rfl,cE,nT];rfl
 ·rw[show(aT ⟨2,dst,a,b,n,arg⟩).args=[fX a]from rfl,cE,fH];rfl
 ·rw[show(aT ⟨3,dst,a,b,n,arg⟩).args=[.node 3 n []]from rfl,cE,gB,cF];rfl
 ·rw[show(aT ⟨4,dst,a,b,n,arg⟩).args=[.node 4 n []]from rfl,cE,gB,cF];rfl
 ·simp[aH]at hn;rw[show(aT ⟨5,dst,a,b,n,arg⟩).args=[.node n 0 [fX a,fX b]]from rfl,cE,tV hn (fH _ _ _ _) (fH _ _ _ _)];rfl
 ·simp[aH]at hn;rw[show(aT ⟨6,dst,a,b,n,arg⟩).args=[.node n 0 [fX a,qc (arg.getD 0 0)]]from rfl,cE,tV hn.1 (fH _ _ _ _) (nT _ _ _ _)];rfl
 ·simp[aH]at hn;rw[show(aT ⟨7,dst,a,b,n,arg⟩).args=[.node n 0 [fX a]]from rfl,cE,gB,cE,fH];show(OT M tp lo n 0 [tp.getD a.toNat ⟨0,0⟩]).map _=_;unfold OT pO;rw[if_neg (by omega),if_neg (by omega),if_neg (by omega),if_neg (by omega),if_neg (by omega),if_pos (by omega)];rfl
 ·simp[aH]at hn;rw[show(aT ⟨8,dst,a,b,n,arg⟩).args=[.node n 0 [.node 12 0 [fX a,qc b]]]from rfl,cE,gB,cE,show gB M tp lo (.node 12 0 [fX a,qc b])=yT M tp ⟨8,dst,a,b,n,arg⟩from Ky ⟨8,dst,a,b,n,arg⟩];have e:vK M tp lo ⟨8,dst,a,b,n,arg⟩=match yT M tp ⟨8,dst,a,b,n,arg⟩with
   |none=>none
   |some v=>gZ M n v:=rfl
  rw[e];cases yT M tp ⟨8,dst,a,b,n,arg⟩with
  |none=>rfl
  |some v=>
   show(OT M tp lo n 0 [v]).map _=_;unfold OT pO;rw[if_neg (by omega),if_neg (by omega),if_neg (by omega),if_neg (by omega),if_pos (by omega)];rfl
end
end Go.Proofs.YtinmgbodgecoeaaGreat
