/- gantletref14: an instruction that goes on behind itself: every one. Conditions: as stated. gantletref14's machine: an object more. Conditions: as stated. The page's Virt. Conditions: as stated. -/
import Derived.Test.YtinmgbodgecoeaaGreatRDoesGZz
set_option linter.unusedSimpArgs false
set_option linter.unusedVariables false
set_option maxHeartbeats 8000000
set_option maxRecDepth 100000
open Go.Proofs.Tryz
namespace Go.Proofs.YtinmgbodgecoeaaGreat
open Go.RowKit
theorem oF{tp:List V}{m:Nat}(h:m<tp.length):∃v,tp[m]? =some v/\tp.getD m ⟨0,0⟩=v:=⟨_,List.getElem?_eq_getElem h,by rw[List.getD_eq_getElem?_getD,List.getElem?_eq_getElem h];rfl⟩
theorem tq{tp:List V}{m:Nat}{v:V}(h:tp.getD m ⟨0,0⟩=v):vJ tp (m:Int)=v:=by
 unfold vJ;rw[Int.toNat_natCast,h]
theorem SY{w:World}{B:Nat}{l:List Int}{A:Option Addr}{n aA:Nat}(h:aD w B l (.slice A n aA))(hl:l.length=1):n=1/\∃ab qU xv,A=some ⟨ab,qU,none⟩/\ab<B/\w.cell? ⟨ab,qU,none⟩=some (.int .i64 xv)/\l.getD 0 0=xv/\In64 xv:=by
 obtain⟨A',c',e,_,_⟩:=id h;injection e with e1 e2 e3;subst e1 e2 e3;obtain⟨ab,qU,xv,hA,hab,hx,hc,h64⟩:=SliceAt.get h (k:=0) (by omega);simp only[Nat.zero_mul,Nat.add_zero]at hc;exact⟨hl,ab,qU,xv,hA,hab,hc,by rw[List.getD_eq_getElem?_getD,hx];rfl,h64⟩
theorem Mn(ai mc fb tb:Nat)(own:Nat->Prop)(P:Value×Value×Value×Value)(lv:Value)(ah:Int)(s:St)(tp:List V)(lo:List Nat)(R:bT)(p:bB)(g:aR)(x:bg)(A:Option Addr)(aA:Nat)(w:World)
  (hi:pP g p.ay.length p.funcs.length (gN p) x)(hst:fF x)(wu:g.regs=(tp.length:Int))(hlo:g.az.length=lo.length)(oh:In64 x.b)(pZ:aD w ai x.arg (.slice A x.arg.length aA))(GD:∀c,c∈p.funcs->c.params<=4)
  (h:bG w ai mc own P ah s)(hF:bZ w fb tb tp lv lo)(hO:iD ai own fb tb lv)(lq:fV (au s.mem) tp lo p.ay.length)(hI:GInv ah s)(hf:ah<=100000000)(XE:p.ay.length<=1000)
  (hP:bP w ai (P.1,P.2.1,P.2.2.1) p)(hL:mR w own w.heap.size P.2.2.2 p)(hC:tY p ah s.calls R):
  Calls prog 54 #[.pointer (some ⟨mc,0,none⟩),.pointer (some ⟨fb,0,none⟩),.agg #[.int .i64 x.op,.int .i64 x.dst,.int .i64 x.a,.int .i64 x.b,.int .i64 x.n,.slice A x.arg.length aA]] w λe w'=>lR ai mc P ah fb tb lv lo own (aW R lo s tp (aT x)) w e w':=by
 have Vg:=h.ai;have hmo:cQ s.mem:=hI.mem.Jh;have hok:∀v,v∈tp->rG s.mem.length v:=λv hv=>(lq.bN v hv).Qs;have UX:∀v,v∈tp->kW (au s.mem).length v:=lq.bN;have yG:=hI.kind;obtain⟨op,dst,a,b,n,arg⟩:=x;have hi':=hi;obtain⟨hop,hd,ha,hb,hn⟩:=hi;obtain⟨s15,s16,s17⟩:=hst;simp only at*;have hs:op=1\/op=2\/op=3\/op=4\/op=5\/op=6\/op=7\/op=8\/op=9\/op=10\/op=11\/op=12\/op=13\/op=14:=by omega
 rcases hs with rfl|rfl|rfl|rfl|rfl|rfl|rfl|rfl|rfl|rfl|rfl|rfl|rfl|rfl
 ·obtain⟨m,rfl⟩:=Int.eq_ofNat_of_zero_le (hd.1 (by simp)).1;exact OL ai mc fb tb own P lv ah s tp lo R m a b n _ _ w h hF hO (by have:=(hd.1 (by simp)).2;omega)
 ·obtain⟨m,rfl⟩:=Int.eq_ofNat_of_zero_le (hd.1 (by simp)).1;obtain⟨q,rfl⟩:=Int.eq_ofNat_of_zero_le (ha (by simp)).1;have hq:q<tp.length:=by have:=(ha (by simp)).2;omega
  obtain⟨v,hv,_⟩:=oF hq;exact Jv ai mc fb tb own P lv ah s tp lo R m q v b n _ _ w h hF hO (by have:=(hd.1 (by simp)).2;omega) hq hv
 ·obtain⟨m,rfl⟩:=Int.eq_ofNat_of_zero_le (hd.1 (by simp)).1;simp[aH]at hn;obtain⟨q,rfl⟩:=Int.eq_ofNat_of_zero_le hn.1;have hq:q<lo.length:=by omega
  exact Mk ai mc fb tb own P lv ah s tp lo R m q _ a b _ _ w h hF hO (by have:=(hd.1 (by simp)).2;omega) hq (List.getElem?_eq_getElem hq)
 ·obtain⟨m,rfl⟩:=Int.eq_ofNat_of_zero_le (hd.1 (by simp)).1;simp[aH]at hn;obtain⟨q,rfl⟩:=Int.eq_ofNat_of_zero_le hn.1;exact Ml ai mc fb tb own P lv ah s tp lo R m q a b _ _ w h hF hO (by have:=(hd.1 (by simp)).2;omega) (by omega)
 ·obtain⟨m,rfl⟩:=Int.eq_ofNat_of_zero_le (hd.1 (by simp)).1;obtain⟨ma,rfl⟩:=Int.eq_ofNat_of_zero_le (ha (by simp)).1;obtain⟨mb,rfl⟩:=Int.eq_ofNat_of_zero_le (hb (by simp)).1;obtain⟨va,jr,PK⟩:=oF (tp:=tp) (m:=ma) (by have:=(ha (by simp)).2;omega);obtain⟨vb,hvb,hgb⟩:=oF (tp:=tp) (m:=mb) (by have:=(hb (by simp)).2;omega);rw[qB hi' (by decide)];simp[aH]at hn;exact Mm ai mc fb tb own P lv ah s tp lo m ma mb va vb n _ _ w h hF hO yG (by have:=(hd.1 (by simp)).2;omega) jr hvb (hok _ (List.mem_of_getElem? jr)) (hok _ (List.mem_of_getElem? hvb)) hn (by
   show dm bF (au s.mem) n (vJ tp (ma:Int)) (vJ tp (mb:Int))=_;rw[tq PK,tq hgb,nW])
 ·obtain⟨m,rfl⟩:=Int.eq_ofNat_of_zero_le (hd.1 (by simp)).1;obtain⟨ma,rfl⟩:=Int.eq_ofNat_of_zero_le (ha (by simp)).1;obtain⟨va,jr,PK⟩:=oF (tp:=tp) (m:=ma) (by have:=(ha (by simp)).2;omega);rw[qB hi' (by decide)];simp[aH]at hn;obtain⟨_,ab,qU,xv,rfl,hab,hc,hx,pI⟩:=SY pZ hn.2.1;rw[hn.2.1];exact JC ai mc fb tb own P lv ah s tp lo m ma ab qU aA va n b xv _ w h hF hO yG (by have:=(hd.1 (by simp)).2;omega) jr (hok _ (List.mem_of_getElem? jr)) pI hn.1 (by omega) hc (by
   show dm bF (au s.mem) n (vJ tp (ma:Int)) ⟨0,arg.getD 0 0⟩=_;rw[tq PK,hx,nW])
 ·obtain⟨m,rfl⟩:=Int.eq_ofNat_of_zero_le (hd.1 (by simp)).1;obtain⟨ma,rfl⟩:=Int.eq_ofNat_of_zero_le (ha (by simp)).1;obtain⟨va,jr,PK⟩:=oF (tp:=tp) (m:=ma) (by have:=(ha (by simp)).2;omega);rw[qB hi' (by decide)];simp[aH]at hn;exact OJ ai mc fb tb own P lv ah s tp lo m ma va n b _ _ w h hF hO yG (by have:=(hd.1 (by simp)).2;omega) jr (hok _ (List.mem_of_getElem? jr)) hn (by
   show(if(vJ tp (ma:Int)).obj=0 then some (⟨0,CN n (vJ tp (ma:Int)).n⟩:V)else none)=_;rw[tq PK])
 ·obtain⟨m,rfl⟩:=Int.eq_ofNat_of_zero_le (hd.1 (by simp)).1;obtain⟨ma,rfl⟩:=Int.eq_ofNat_of_zero_le (ha (by simp)).1;obtain⟨va,jr,PK⟩:=oF (tp:=tp) (m:=ma) (by have:=(ha (by simp)).2;omega);rw[qB hi' (by decide)];simp[aH]at hn;obtain⟨ra,CE⟩:∃ra,ra=dm bF s.mem 12 va ⟨0,b⟩:=⟨_,rfl⟩
  have Sg:vK (au s.mem) tp lo ⟨8,(m:Int),(ma:Int),b,n,arg⟩=Gp s.mem n ra:=by
   show(match yT (au s.mem) tp ⟨8,(m:Int),(ma:Int),b,n,arg⟩with|none=>none|some v=>gZ (au s.mem) n v)=_;rw[show yT (au s.mem) tp ⟨8,(m:Int),(ma:Int),b,n,arg⟩=ra from by unfold yT;simp only;rw[tq PK,nW,CE]];cases ra with
   |none=>rfl
   |some v=>exact A6 _ _ _
  rw[Sg];have vZ:∀x,ra=some x->rG s.mem.length x:=λx hx=>(Cu hI.mem (UX _ (List.mem_of_getElem? jr)) (kW.num (cZ _) oh) (by rw[nW,<-CE];exact hx)).Qs;exact Jw ai mc fb tb own P lv ah s tp lo m ma va n b _ ra w h hF hO yG (by have:=(hd.1 (by simp)).2;omega) jr (hok _ (List.mem_of_getElem? jr)) oh CE vZ hn.1
 ·obtain⟨md,rfl⟩:=Int.eq_ofNat_of_zero_le (hd.1 (by simp)).1;obtain⟨ma,rfl⟩:=Int.eq_ofNat_of_zero_le (ha (by simp)).1;obtain⟨va,jr,PK⟩:=oF (tp:=tp) (m:=ma) (by have:=(ha (by simp)).2;omega);obtain⟨vd,Pn,hgd⟩:=oF (tp:=tp) (m:=md) (by have:=(hd.1 (by simp)).2;omega);simp[aH,j3]at hn;obtain⟨sz,rfl⟩:=Int.eq_ofNat_of_zero_le (show 0<=n by omega);obtain⟨ra,CE⟩:∃ra,ra=dm bF s.mem 12 va ⟨0,b⟩:=⟨_,rfl⟩
  have Y9:∀x,ra=some x->kW (au s.mem).length x:=λx hx=>Cu hI.mem (UX _ (List.mem_of_getElem? jr)) (kW.num (cZ _) oh) (by rw[nW,<-CE];exact hx);have pK:aW R lo s tp (aT ⟨9,(md:Int),(ma:Int),b,(sz:Int),arg⟩)=Ao s tp sz vd ra:=by
   rw[wX,PK,hgd,nW,<-CE];cases ra with
   |none=>rfl
   |some v=>
    show(match bS s.mem sz v vd with|some M=>(true,{s with mem:=M},tp)|none=>(false,{s with kind:=3},tp))=zU s tp (bS s.mem sz v vd);cases bS s.mem sz v vd<;>rfl
  rw[pK];refine FU ai mc fb tb own P lv ah s tp lo md ma sz va vd b _ ra w h hF hO yG jr Pn (hok _ (List.mem_of_getElem? jr)) oh CE (λx hx=>(Y9 x hx).Qs) (by omega) (λx M' hx hM=>?_);have h1:bS (au s.mem) sz x vd=some (au M'):=by rw[s7,hM];rfl
  exact(yw h1 (by omega) hI.mem hI.num (UX _ (List.mem_of_getElem? Pn))).1.Jh
 ·simp[aH,mF,gN]at hn;obtain⟨⟨hn0,rT⟩,hrs,gH⟩:=hn;obtain⟨f,rfl⟩:=Int.eq_ofNat_of_zero_le hn0;have hfl:f<p.funcs.length:=by omega
  have hg':p.funcs[f]? =some p.funcs[f]:=List.getElem?_eq_getElem hfl;have hgd:(p.funcs[f]?.getD uK).params=(arg.length:Int):=by simpa using gH
  rw[hg']at hgd;simp only[Option.getD_some]at hgd;have TB:=GD p.funcs[f] (List.getElem_mem hfl);rw[yS];exact JB ai mc fb tb own P lv ah s tp lo R p f p.funcs[f] dst a b arg A aA w h hF hO lq hI (λr hr=>by have:=hrs r hr;omega) (by omega) pZ hg' hgd.symm hP hL hC (by have:=hd.2 rfl;omega)
 ·obtain⟨ma,rfl⟩:=Int.eq_ofNat_of_zero_le (ha (by simp)).1;have hq:ma<tp.length:=by have:=(ha (by simp)).2;omega
  obtain⟨va,jr,PK⟩:=oF hq;by_cases hz:va.obj=0
  ·exact Mj ai mc fb tb own P lv ah s tp lo R ma va dst b n _ _ w h hF hO hq jr hz (by have:=hI.outs;have:=hI.hi;omega)
  ·exact Eh ai mc fb tb own P lv ah s tp lo R ma va dst b n _ _ w h hF hO hq jr (by omega) yG
 ·obtain⟨m,rfl⟩:=Int.eq_ofNat_of_zero_le (hd.1 (by simp)).1;have hm:m<tp.length:=by have:=(hd.1 (by simp)).2;omega
  cases hin:s.inp with
  |nil=>exact Jz ai mc fb tb own P lv ah s tp lo R m a b n _ _ w h hF hO hm hin
  |cons y r=>exact Jy ai mc fb tb own P lv ah s tp lo R m y r a b n _ _ w h hF hO hm hin
 ·obtain⟨ma,rfl⟩:=Int.eq_ofNat_of_zero_le (ha (by simp)).1;have hq:ma<tp.length:=by have:=(ha (by simp)).2;omega
  obtain⟨va,jr,PK⟩:=oF hq;by_cases hz:va.obj=0
  ·exact JA ai mc fb tb own P lv ah s tp lo R ma va dst b n _ _ w h hF hO hq jr hz yG
  ·exact CT ai mc fb tb own P lv ah s tp lo R ma va dst b n _ _ w h hF hO hq jr (by omega) yG
 ·exact FV ai mc fb tb own P lv ah s tp lo R dst a b n _ _ w h hF hO
def WJ(ai mc:Nat)(own:Nat->Prop)(P:Value×Value×Value×Value)(ah:Int)(s:St)(o:kH)(w:World)(e:Ending)(w':World):Prop:=
 e= .returned (.int .i64 (au s.mem).length)/\∃own':Nat->Prop,(∀k,own k->own' k)/\(∀k,own' k->own k\/w.heap.size<=k)/\bG w' ai mc own' P ah {s with mem:=gP s.mem o}/\Wr own w w'
theorem Av(ai mc:Nat)(own:Nat->Prop)(P:Value×Value×Value×Value)(ah:Int)(s:St)(o:kH)(v:Value)(w:World)
  (hm:bG w ai mc own P ah s)(ho:rY o)(hl:aD w ai o.init v)(jk:(au s.mem).length+1<=1000000000):
  Calls prog 31 #[.pointer (some ⟨mc,11,none⟩),.agg #[.int .i64 o.size,.int .i64 o.count,v]] w λe w'=>WJ ai mc own P ah s o w e w':=by
 obtain⟨inv,outv,aU,rb,hr,su,hs⟩:=hm;have hb:=hs.own mc su;have hbs:ai<=w.heap.size:=by omega
 have ZX:qg w ai (λk=>own k/\∃cs t,Row w k cs t/\(t=75\/t=116)) aU rb s.mem:=by
  obtain⟨h1,h2,h3,h4⟩:=hs.mem;exact⟨h1,λk x hk hx=>⟨⟨(h2 k x hk hx).1,by obtain⟨_,cs,hr,_⟩:=h2 k x hk hx;exact⟨cs,_,hr,aK rfl⟩⟩,(h2 k x hk hx).2⟩,h3,h4⟩
 refine(OZ mc 11 ai (λk=>own k/\∃cs t,Row w k cs t/\(t=75\/t=116)) aU rb s.mem _ 86 o v w hr rfl (by decide) ZX (λg hg=>⟨hs.memo g hg,?_⟩) (λk hk=>hs.own k hk.1) hbs hb.1 ho hl jk).mono ?_
 ·obtain⟨⟨xs,hx,_⟩,_⟩:=hs.mem;obtain⟨_,cs,hr'⟩:=aC hx hg;exact⟨cs,_,hr',bu rfl⟩
 rintro e w' ⟨rfl,own',iL,NV,h1,h2,h3,h4,h5,h6,h7⟩;have PB:∀k cs t,Row w k cs t->t≠75->t≠116->¬(own k/\∃cs t,Row w k cs t/\(t=75\/t=116)):=by
  rintro k cs t hr h1 h2 ⟨_,cs',t',hr',h⟩;rcases h with rfl|rfl
  ·exact hr.ne hr' h1 rfl
  ·exact hr.ne hr' h2 rfl
 refine⟨rfl,λk=>own k\/own' k,λk hk=>aK hk,λk hk=>?_,⟨inv,outv,iL,NV,h6,aK su,⟨?_,?_,λg hg=>aK (hs.sI g hg),?_,λg hg=>bu (h5 g hg),λk hk=>?_⟩⟩,h7.mono (λk hk=>aK ?_)⟩
 ·rcases hk with hk|hk
  ·exact aK hk
  ·rcases h2 k hk with h|h
   ·exact aK h.1
   ·exact bu h
 ·exact hs.inp.below (λb o hb'=>World.cell?_of_block (a:=⟨b,o,none⟩) (h7.block b (by omega) (λhf=>by rcases hf with hf|hf;have:=hs.own b hf.1;omega;omega)))
 ·refine aF hs.out h7 (λg hg hf=>?_);obtain⟨_,cs,hr'⟩:=aC hs.out hg;rcases hf with hf|hf
  ·exact PB g cs _ hr' (by decide) (by decide) hf
  ·subst hf;exact hr'.ne hr (by decide) rfl
 ·obtain⟨a,b,c,d⟩:=h4;exact⟨a,λk x hk hx=>⟨bu (b k x hk hx).1,(b k x hk hx).2⟩,c,d⟩
 ·rcases hk with hk|hk
  ·have:=hs.own k hk;have:=h7.size;exact⟨by omega,by omega⟩
  ·refine⟨?_,h3 k hk⟩;rcases h2 k hk with h|h
   ·exact(hs.own k h.1).1
   ·omega
 ·rcases hk with hk|rfl
  ·exact hk.1
  ·exact su
theorem Mv(p:bB)(n k:Int)(h0:0<=n)(h1:n<p.funcs.length):gN p n k=decide ((p.funcs.map aR.params).getD n.toNat 0=k):=by
 obtain⟨m,rfl⟩:=Int.eq_ofNat_of_zero_le h0;have hm:m<p.funcs.length:=by omega
 unfold gN;rw[Int.toNat_natCast,List.getD_eq_getElem?_getD,List.getD_eq_getElem?_getD,List.getElem?_map,List.getElem?_eq_getElem hm];rfl
theorem Md(p:bB)(P:Value×Value×Value)(B:Nat)(w:World)(hB:B<=w.heap.size)(hP:bP w B P p):
  Calls prog 5 #[.agg #[P.1,P.2.1,P.2.2]] w λe w'=>e= .returned (.bool (bY p))/\Below w.heap.size w w':=by
 obtain⟨GA,gc,FA,fc,rfl⟩:=hP.shape;have hfl:=hP.2.1.len.2;have hgl:=hP.1.len.2;have HPIN:=ae (λ(g:aR)(hg:g∈p.funcs)=>(show In64 g.params from by obtain⟨c,hc⟩:=SliceAt.mem' hP.2.1 hg;exact hc.2.2.2.2.1));have HO:=ae (λW(hb:Below w.heap.size w W)=>F8 p.ay GA p.ay.length gc 16 B W (by have:=hb.size;omega) (hP.1.below (hb.mono hB) (aY _) (λ_ _ h=>h.below (hb.mono hB) (aY _))));have QR:=ae (λW=>tG (p.funcs.length:Int) 1 8 W);have XW:=ae (λW=>oQ p.main ((p.funcs.length:Int)-1) W);have pQ:=ae (Row.new w #[.slice GA p.ay.length gc,.slice FA p.funcs.length fc,.int .i64 p.main] 31);have HP:=ae hP;clear hP;cases c1:fR p.ay 16 with
 |false=>
  rw[c1]at HO;have HE:=ae (show bY p=false from by unfold bY;rw[if_neg (λh=>absurd h.1 (by rw[c1];decide))]);clear c1;go_enter func5,ntmps5;refine aj λQ HQ=>?_;go_wp2_with fail;refine(HO _ (ax w _)).mono ?_;rintro e w1 ⟨rfl,hb1⟩;have bQ:=ae ((ax w (.cells #[.slice GA p.ay.length gc,.slice FA p.funcs.length fc,.int .i64 p.main] 31)).trans (hb1.mono (ax w (.cells #[.slice GA p.ay.length gc,.slice FA p.funcs.length fc,.int .i64 p.main] 31)).size));have hg1:=pQ.below hb1 pQ.lt;have vD:=ae hg1;have g0:=hg1.cell (j:=0) rfl;have g1:=hg1.cell (j:=1) rfl;have g2:=hg1.cell (j:=2) rfl;have gl:=hg1.lt;clear hb1 hg1;go_wp2_with fail;refine HQ _ _ _ ?_
  exact aS (v:= .bool false) (by simp[results,results5,go_sem]) rfl ⟨by rw[HE.out],bQ.out⟩
 |true=>
  rw[c1]at HO;cases c2:oO p.funcs.length 1 8 with
  |false=>
   rw[c2]at QR;have HE:=ae (show bY p=false from by unfold bY;rw[if_neg (λh=>by have h1:=h.2.1;have h2:=h.2.2.1;unfold oO at c2;simp at c2;omega)]);clear c1 c2;go_enter func5,ntmps5;refine aj λQ HQ=>?_;go_wp2_with fail;refine(HO _ (ax w _)).mono ?_;rintro e w1 ⟨rfl,hb1⟩;have bQ:=ae ((ax w (.cells #[.slice GA p.ay.length gc,.slice FA p.funcs.length fc,.int .i64 p.main] 31)).trans (hb1.mono (ax w (.cells #[.slice GA p.ay.length gc,.slice FA p.funcs.length fc,.int .i64 p.main] 31)).size));have hg1:=pQ.below hb1 pQ.lt;have vD:=ae hg1;have g0:=hg1.cell (j:=0) rfl;have g1:=hg1.cell (j:=1) rfl;have g2:=hg1.cell (j:=2) rfl;have gl:=hg1.lt;clear hb1 hg1;go_wp2_with fail;refine(QR _).mono ?_;rintro e w' ⟨rfl,rfl⟩;go_wp2_with fail
   refine HQ _ _ _ ?_;exact aS (v:= .bool false) (by simp[results,results5,go_sem]) rfl ⟨by rw[HE.out],bQ.out⟩
  |true=>
   rw[c2]at QR;have hl8:1<=p.funcs.length/\p.funcs.length<=8:=by unfold oO at c2;simp at c2;omega
   have HL8:=ae hl8;have hwrap:IntKind.i64.wrap ((p.funcs.length:Int)-1)=(p.funcs.length:Int)-1:=IntWalk.i64_in _ (by omega);cases c4:mG p.main ((p.funcs.length:Int)-1)with
   |false=>
    rw[c4]at XW;have HE:=ae (show bY p=false from by unfold bY;rw[if_neg (λh=>by have h1:=h.2.2.2.1;unfold mG at c4;simp at c4;omega)]);clear c1 c2 c4;go_enter func5,ntmps5;refine aj λQ HQ=>?_;go_wp2_with fail;refine(HO _ (ax w _)).mono ?_;rintro e w1 ⟨rfl,hb1⟩;have bQ:=ae ((ax w (.cells #[.slice GA p.ay.length gc,.slice FA p.funcs.length fc,.int .i64 p.main] 31)).trans (hb1.mono (ax w (.cells #[.slice GA p.ay.length gc,.slice FA p.funcs.length fc,.int .i64 p.main] 31)).size));have hg1:=pQ.below hb1 pQ.lt;have vD:=ae hg1;have g0:=hg1.cell (j:=0) rfl;have g1:=hg1.cell (j:=1) rfl;have g2:=hg1.cell (j:=2) rfl;have gl:=hg1.lt;clear hb1 hg1;go_wp2_with fail;refine(QR _).mono ?_;rintro e w' ⟨rfl,rfl⟩;go_wp2_with fail
    refine(XW _).mono ?_;rintro e w' ⟨rfl,rfl⟩;go_wp2_with fail;refine HQ _ _ _ ?_;exact aS (v:= .bool false) (by simp[results,results5,go_sem]) rfl ⟨by rw[HE.out],bQ.out⟩
   |true=>
    rw[c4]at XW;have hmr:0<=p.main/\p.main<(p.funcs.length:Int):=by unfold mG at c4;simp at c4;omega
    obtain⟨mf,GI⟩:=Int.eq_ofNat_of_zero_le hmr.1;have Kj:mf<p.funcs.length:=by omega
    have Xa:=ae (List.getElem?_eq_getElem Kj);have hgd:p.funcs.getD p.main.toNat uK=p.funcs[mf]:=by rw[GI,Int.toNat_natCast,List.getD_eq_getElem?_getD,Xa.out];rfl
    have hm0:(0:Int)<=(mf:Int):=by omega
    have hm1:(mf:Int)<(p.funcs.length:Int):=by omega
    have uk:s5 p↔p.funcs[mf].params=0:=by unfold s5;rw[hgd];exact⟨λh=>h.2.2.2.2,λh=>⟨c1,by omega,by omega,hmr,h⟩⟩
    have Dk:=ae uk;have S6:=ae (HP.2.1);rw[GI]at XW pQ ⊢;clear uk hgd GI hmr c1 c2 c4 hl8;by_cases c5:p.funcs[mf].params=0
    ·have d5:(p.funcs[mf].params !=0)=false:=by simpa using c5
     have HE:=ae (show bY p=p.funcs.all (λc=>gD c p.ay.length p.funcs.length (gN p))from by unfold bY;rw[if_pos (Dk.2 c5)]);rw[HE.out];obtain⟨i0,hi,hz0,hz1,hz2⟩:=info_parts Ba;obtain⟨pl,hpl⟩:∃pl,pl=p.funcs.map aR.params:=⟨_,rfl⟩
     have Zg:pl.length=p.funcs.length:=by rw[hpl];simp
     have HPL:=ae hpl;have NL:=ae Zg;clear c5 hpl Zg;go_enter func5,ntmps5;refine aj λQ HQ=>?_;go_wp2_with fail;refine(HO _ (ax w _)).mono ?_;rintro e w1 ⟨rfl,hb1⟩;have bQ:=ae ((ax w (.cells #[.slice GA p.ay.length gc,.slice FA p.funcs.length fc,.int .i64 (mf:Nat)] 31)).trans (hb1.mono (ax w (.cells #[.slice GA p.ay.length gc,.slice FA p.funcs.length fc,.int .i64 (mf:Nat)] 31)).size));have hg1:=pQ.below hb1 pQ.lt;have vD:=ae hg1;have g0:=hg1.cell (j:=0) rfl;have g1:=hg1.cell (j:=1) rfl;have g2:=hg1.cell (j:=2) rfl;have gl:=hg1.lt;clear hb1 hg1;obtain⟨gb,mM,g',Bj,hgb,hg',zX⟩:=(S6.below (bQ.mono hB) (aY _) (λ_ _ h=>h.below (bQ.mono hB) (aY _))).get Kj;subst Bj;have y0:=zX.1
     rw[Xa.out]at hg';injection hg' with hg';subst hg';simp only[Nat.add_zero]at y0;have CZ:gb<w1.heap.size:=by have:=bQ.size;omega
     clear zX;go_wp2_with fail;refine(QR _).mono ?_;rintro e w' ⟨rfl,rfl⟩;go_wp2_with fail;refine(XW _).mono ?_;rintro e w' ⟨rfl,rfl⟩;go_wp2_with fail;clear hwrap g0 g2 y0;go_loopw [3,4] (λr i wr=>∃(k:Nat)(LA:Option Addr)(ln lc:Nat)(xs:List Value),k<=p.funcs.length/\i= .int .i64 (k:Nat)/\r= .slice LA ln lc/\je mS 3 1 (w.heap.size+1) wr (.slice LA ln lc) (pl.take k) xs/\Below w.heap.size w wr/\Row wr w.heap.size #[.slice GA p.ay.length gc,.slice (some ⟨gb,mM,none⟩) p.funcs.length fc,.int .i64 (mf:Nat)] 31) (λ_ i _=>p.funcs.length-(intOf i).toNat)
     case atStart=>exact⟨0,none,0,0,[],by omega,rfl,rfl,je.nil _ _ _ _ _,bQ.out,vD.out⟩
     case round=>
      obtain⟨k,LA,ln,lc,xs,hk,rfl,rfl,hR,aJ,hx⟩:=hrel;have HR:=ae hR;have cB:=ae aJ;have WM:=ae hx;have p0:=hx.cell (j:=0) rfl;have p1:=hx.cell (j:=1) rfl;have hxl:=hx.lt;have pS:=aJ.size;clear g1 gl;by_cases hlt:k<p.funcs.length
      ·obtain⟨fb,nS,g,Bj,hfb,hfk,zX⟩:=(S6.below (aJ.mono hB) (aY _) (λ_ _ h=>h.below (aJ.mono hB) (aY _))).get hlt;injection Bj with Bj;injection Bj with e1 e2;subst e1 e2;have z0:=zX.1;simp only[Nat.add_zero]at z0;have QI:=ae (show pl[k]? =some g.params from by rw[HPL.out,List.getElem?_map,hfk];rfl);have hkl:(k:Int)<(p.funcs.length:Int):=by omega
       have PL:gb<wr.heap.size:=by omega
       have htl:(pl.take k).length=k:=by have:=NL.out;simp;omega
       have zR:=ae htl;have HX:=ae (HPIN.out g (List.mem_iff_getElem?.2 ⟨k,hfk⟩));have hk8:k<=8:=by have:=HL8.out;omega
       clear hR aJ hx hfk zX htl;go_wp2_with(at_builtin;refine wpList_append_lies _ rfl (.tmp 44) (.tmp 51) 36 rfl (w.heap.size+1) 3 i0 (.int .i64 0) 1 8 underlying36 hi hz0 hz1 hz2 rfl (by decide) _ k xs rfl (by have h:=HR.own;rw[zR.out]at h;exact(aF h ((Wr.refl (λ_=>False) _).bH _) (λ_ _ h=>h))) ⟨wr.heap.size,0,none⟩ 1 1 [.int .i64 g.params] rfl rfl (by exact nV _ _ _) (by intro u hu;simp at hu;rcases hu with rfl;rfl) (by decide) (by unfold maxLen;omega) (by omega) (by first|omega|(simp<;>omega)) _ rfl ?_)
       ·intro gg cap' w3 iM hgrow hat Kl;have HN:=ae (show je mS 3 1 (w.heap.size+1) w3 (.slice (some ⟨gg,0,none⟩) (k+1) cap') (pl.take (k+1)) (xs++[.int .i64 g.params])from by
         have h:=je.next mS.mono HR (by omega) (aV _ _) (us:=[.int .i64 g.params]) (x:=g.params) ⟨rfl,HX.out⟩ rfl (ax wr _) (by rw[zR.out];exact iM) hgrow (by simpa using hat);rw[zR.out]at h;rw[bW QI.out];exact h)
        have hb3:Below (w.heap.size+1) wr w3:=((aV _ _).alloc (by omega) _).grown hgrow (by first|omega|(simp<;>omega)) (λg hg=>(HR.lt hg).1);have QS:=ae (cB.trans (hb3.mono (by omega)));have HXN:=ae (WM.below hb3 (by omega));clear iM hgrow hat hb3;go_wp2_with fail;go_roundw
        case rel=>exact⟨k+1,_,_,_,_,by omega,by go_num,rfl,HN.out,QS.out,HXN.out⟩
        case measure=>simp[intOf];omega
      ·obtain rfl:k=p.funcs.length:=by omega
       rw[List.take_of_length_le (by have:=NL.out;omega)]at hR;have hLG:aD wr wr.heap.size pl (.slice LA ln lc):=aD.sub (hR.slice mS.mono) (AH _ _) (aY _);obtain⟨PA,pc,hsl,_⟩:=id hLG;injection hsl with hsl1 UQ hsl3;subst hsl1 hsl3;rw[NL.out]at UQ;subst UQ;have HLG:=ae hLG;clear hR hLG hx aJ;obtain⟨wo,hwo⟩:∃wo:World,wo=wr:=⟨_,rfl⟩
       rw[<-hwo]at HLG cB WM pS ⊢;rw[<-hwo]at p0 p1 hxl;clear hwo;go_wp2_with fail;go_loopw [5] (λi ws=>∃k:Nat,i= .int .i64 (k:Nat)/\k<=p.funcs.length/\(p.funcs.drop k).all (λc=>gD c p.ay.length p.funcs.length (gN p))=p.funcs.all (λc=>gD c p.ay.length p.funcs.length (gN p))/\Below wo.heap.size wo ws) (λi _=>p.funcs.length-(intOf i).toNat)
       case atStart=>exact⟨0,rfl,Nat.zero_le _,rfl,aV _ _⟩
       case round=>
        obtain⟨k,rfl,hk,hcs,hbk⟩:=hrel;have Fp:=ae hcs;have fD:=ae hbk;have aJ:=cB.trans (hbk.mono pS);have dw:=ae aJ;have hx:=WM.below hbk hxl;have HX2:=ae hx;have p0:=hx.cell (j:=0) rfl;have p1:=hx.cell (j:=1) rfl;have hxl2:=hx.lt;have hzk:=hbk.size;clear hcs;by_cases hlt:k<p.funcs.length
        ·obtain⟨fb,nS,g,Bj,hfb,hfk,zX⟩:=(S6.below (aJ.mono hB) (aY _) (λ_ _ h=>h.below (aJ.mono hB) (aY _))).get hlt;injection Bj with Bj;injection Bj with e1 e2;subst e1 e2;obtain⟨z0,z1,⟨lv,z2,hlv⟩,⟨bv,z3,Bi⟩,_,_⟩:=zX;simp only[Nat.add_zero]at z0 z1 z2 z3;obtain⟨⟨LA2,lc2,Kk,_⟩,⟨BA,bc,Kq,_⟩⟩:=And.intro hlv Bi;subst Kk Kq;have hCE:=Qi g p.ay.length p.funcs.length (gN p) pl (by rw[NL.out]) (λn k h0 h1=>by rw[HPL.out];exact Mv p n k h0 h1)
         have HS:=ae (λW(hb:Below wr.heap.size wr W)=>Mo g LA2 lc2 BA bc p.ay.length pl LA lc W.heap.size W (aY _) (hlv.below (hb.mono (by omega)) (by have:=hb.size;omega) (λ_ _ h=>h.below (hb.mono (by omega)) (by have:=hb.size;omega))) (Bi.below (hb.mono (by omega)) (by have:=hb.size;omega) (λ_ _ h=>h.below (hb.mono (by omega)) (by have:=hb.size;omega))) (show aD W W.heap.size pl (.slice LA pl.length lc) by rw[NL.out];exact HLG.below (fD.trans (hb.mono hzk)) (by have:=hb.size;omega)));rw[NL.out,hCE]at HS;have HD:=ae (show(p.funcs.drop k).all (λc=>gD c p.ay.length p.funcs.length (gN p))=(gD g p.ay.length p.funcs.length (gN p)&& (p.funcs.drop (k+1)).all (λc=>gD c p.ay.length p.funcs.length (gN p)))from by rw[wO hfk];rfl)
         have hkl:(k:Int)<(p.funcs.length:Int):=by omega
         have PL:gb<wr.heap.size:=by omega
         clear hlv Bi aJ hbk hfk hx hCE;cases hg1:gD g p.ay.length p.funcs.length (gN p)with
         |true=>
          rw[hg1]at HS HD;clear hg1;go_wp2_with fail;refine eX (by kernel_rfl) (by kernel_rfl) (λhGG=>?_)
          repeat(go_big_quiet_step ((go_at_call 21;exact jc (HS _ (cM (aV _ _) (aY _) _)))))
          refine wpQuiet_nil ?_;rintro⟨w5,hb5⟩;simp only[];have yh:=ae (fD.trans (hb5.mono hzk));clear hGG hb5;go_wp2_with fail;go_roundw
          case rel=>exact⟨k+1,by go_num,by omega,by rw[<-Fp.out,HD.out];rfl,yh.out⟩
          case measure=>simp[intOf];omega
         |false=>
          have H9:=ae (show p.funcs.all (λc=>gD c p.ay.length p.funcs.length (gN p))=false by rw[<-Fp.out,HD.out,hg1];rfl);rw[hg1]at HS;clear hg1;go_wp2_with fail;refine eX (by kernel_rfl) (by kernel_rfl) (λhGG=>?_)
          repeat(go_big_quiet_step ((go_at_call 21;exact jc (HS _ (cM (aV _ _) (aY _) _)))))
          refine wpQuiet_nil ?_;rintro⟨w5,hb5⟩;simp only[];have yh:=ae (fD.trans (hb5.mono hzk));clear hGG hb5;go_wp2_with fail;refine HQ _ _ _ ?_;exact aS (v:= .bool false) (by simp[results,results5,go_sem]) rfl ⟨by rw[H9.out],cB.trans (yh.mono pS)⟩
        ·obtain rfl:k=p.funcs.length:=by omega
         have H9:=ae (show p.funcs.all (λc=>gD c p.ay.length p.funcs.length (gN p))=true by rw[<-Fp.out,ou (aY _)];rfl);clear aJ hbk hx;go_wp2_with fail;refine HQ _ _ _ ?_;exact aS (v:= .bool true) (by simp[results,results5,go_sem]) rfl ⟨by rw[H9.out],dw.out⟩
    ·have d5:(p.funcs[mf].params !=0)=true:=by simpa using c5
     have HE:=ae (show bY p=false from by unfold bY;rw[if_neg (λh=>c5 (Dk.1 h))]);clear c5;go_enter func5,ntmps5;refine aj λQ HQ=>?_;go_wp2_with fail;refine(HO _ (ax w _)).mono ?_;rintro e w1 ⟨rfl,hb1⟩;have bQ:=ae ((ax w (.cells #[.slice GA p.ay.length gc,.slice FA p.funcs.length fc,.int .i64 (mf:Nat)] 31)).trans (hb1.mono (ax w (.cells #[.slice GA p.ay.length gc,.slice FA p.funcs.length fc,.int .i64 (mf:Nat)] 31)).size));have hg1:=pQ.below hb1 pQ.lt;have vD:=ae hg1;have g0:=hg1.cell (j:=0) rfl;have g1:=hg1.cell (j:=1) rfl;have g2:=hg1.cell (j:=2) rfl;have gl:=hg1.lt;clear hb1 hg1
     obtain⟨gb,mM,g',Bj,hgb,hg',zX⟩:=(S6.below (bQ.mono hB) (aY _) (λ_ _ h=>h.below (bQ.mono hB) (aY _))).get Kj;subst Bj;have y0:=zX.1;rw[Xa.out]at hg';injection hg' with hg';subst hg';simp only[Nat.add_zero]at y0;have CZ:gb<w1.heap.size:=by have:=bQ.size;omega
     clear zX;go_wp2_with fail;refine(QR _).mono ?_;rintro e w' ⟨rfl,rfl⟩;go_wp2_with fail;refine(XW _).mono ?_;rintro e w' ⟨rfl,rfl⟩;go_wp2_with fail;refine HQ _ _ _ ?_;exact aS (v:= .bool false) (by simp[results,results5,go_sem]) rfl ⟨by rw[HE.out],bQ.out⟩
end Go.Proofs.YtinmgbodgecoeaaGreat
