/- gantletref14: an instruction that goes on behind itself: every one. Conditions: as stated. gantletref14's machine: an object more. Conditions: as stated. -/
import Derived.Test.YtlenilbkifofjaaGreatDoorRDoesGZz
import Derived.Test.YtlenilbkifofjaaGreatDoorRPutZz
import Derived.Test.YtlenilbkifofjaaGreatDoorRCalledAZz
import Derived.Test.YtlenilbkifofjaaGreatDoorQ10Zz
import Derived.Test.YtlenilbkifofjaaGreatDoorQ09Zz
import Derived.Test.YtlenilbkifofjaaGreatDoorQ08Zz
import Derived.Test.YtlenilbkifofjaaGreatDoorQ03Zz
set_option linter.unusedVariables false
set_option linter.unusedSimpArgs false
set_option maxHeartbeats 8000000
namespace Go.Proofs.YtlenilbkifofjaaGreatDoor
open Go.RowKit
theorem tp_get{tp:List V}{m:Nat}(h:m<tp.length):∃v,tp[m]? =some v∧tp.getD m ⟨0,0⟩=v:=⟨_,List.getElem?_eq_getElem h,by rw[List.getD_eq_getElem?_getD,List.getElem?_eq_getElem h];rfl⟩
theorem regF_nat{tp:List V}{m:Nat}{v:V}(h:tp.getD m ⟨0,0⟩=v):regF tp (m:Int)=v:=by
 unfold regF;rw[Int.toNat_natCast,h]
theorem arg_one{w:World}{B:Nat}{l:List Int}{A:Option Addr}{n cap:Nat}(h:LongsAt w B l (.slice A n cap))(hl:l.length=1):n=1∧∃ab aof xv,A=some ⟨ab,aof,none⟩∧ab<B∧w.cell? ⟨ab,aof,none⟩=some (.int .i64 xv)∧l.getD 0 0=xv∧In64 xv:=by
 obtain⟨A',c',e,_,_⟩:=id h;injection e with e1 e2 e3;subst e1 e2 e3;obtain⟨ab,aof,xv,hA,hab,hx,hc,h64⟩:=SliceAt.get h (k:=0) (by omega);simp only[Nat.zero_mul,Nat.add_zero]at hc;exact⟨hl,ab,aof,xv,hA,hab,hc,by rw[List.getD_eq_getElem?_getD,hx];rfl,h64⟩
theorem rdoes_any(base mc fb tb:Nat)(own:Nat→Prop)(P:Value×Value×Value×Value)(lv:Value)(fuel:Int)(s:St)(tp:List V)(lo:List Nat)(R:CallR)(p:VirtS)(g:CodeS)(x:InsS)(A:Option Addr)(cap:Nat)(w:World)
  (hi:InsOk g p.globs.length p.funcs.length (parV p) x)(hst:Straight x)(hregs:g.regs=(tp.length:Int))(hlo:g.locs.length=lo.length)(hb64:In64 x.b)(harg:LongsAt w base x.arg (.slice A x.arg.length cap))(hpa:∀c,c∈p.funcs→c.params≤4)
  (h:RMach w base mc own P fuel s)(hF:RFrame w fb tb tp lv lo)(hO:OffAt base own fb tb lv)(hFr:FrOk (memBase s.mem) tp lo p.globs.length)(hI:GInv fuel s)(hf:fuel≤100000000)(hng:p.globs.length≤1000)
  (hP:VirtAt w base (P.1,P.2.1,P.2.2.1) p)(hL:RLabs w own w.heap.size P.2.2.2 p)(hC:RCallOk p fuel s.calls R):
  Calls Tryz.prog 39 #[.pointer (some ⟨mc,0,none⟩),.pointer (some ⟨fb,0,none⟩),.agg #[.int .i64 x.op,.int .i64 x.dst,.int .i64 x.a,.int .i64 x.b,.int .i64 x.n,.slice A x.arg.length cap]] w fun e w'=>RSays base mc P fuel fb tb lv lo own (afterF R lo s tp (stepI x)) w e w':=by
 have hbm:=h.base;have hmo:MemOk s.mem:=hI.mem.unbase;have hok:∀v,v∈tp→VOkW s.mem.length v:=fun v hv=>(hFr.temps v hv).based;have hokb:∀v,v∈tp→VOk (memBase s.mem).length v:=hFr.temps;have hkind:=hI.kind;obtain⟨op,dst,a,b,n,arg⟩:=x;have hi':=hi;obtain⟨hop,hd,ha,hb,hn⟩:=hi;obtain⟨s15,s16,s17⟩:=hst;simp only at*;have hs:op=1∨op=2∨op=3∨op=4∨op=5∨op=6∨op=7∨op=8∨op=9∨op=10∨op=11∨op=12∨op=13∨op=14:=by omega
 rcases hs with rfl|rfl|rfl|rfl|rfl|rfl|rfl|rfl|rfl|rfl|rfl|rfl|rfl|rfl
 ·obtain⟨m,rfl⟩:=Int.eq_ofNat_of_zero_le (hd.1 (by simp)).1;exact rdoes_li base mc fb tb own P lv fuel s tp lo R m a b n _ _ w h hF hO (by have:=(hd.1 (by simp)).2;omega)
 ·obtain⟨m,rfl⟩:=Int.eq_ofNat_of_zero_le (hd.1 (by simp)).1;obtain⟨q,rfl⟩:=Int.eq_ofNat_of_zero_le (ha (by simp)).1;have hq:q<tp.length:=by have:=(ha (by simp)).2;omega
  obtain⟨v,hv,_⟩:=tp_get hq;exact rdoes_move base mc fb tb own P lv fuel s tp lo R m q v b n _ _ w h hF hO (by have:=(hd.1 (by simp)).2;omega) hq hv
 ·obtain⟨m,rfl⟩:=Int.eq_ofNat_of_zero_le (hd.1 (by simp)).1;simp[numberI]at hn;obtain⟨q,rfl⟩:=Int.eq_ofNat_of_zero_le hn.1;have hq:q<lo.length:=by omega
  exact rdoes_loc base mc fb tb own P lv fuel s tp lo R m q _ a b _ _ w h hF hO (by have:=(hd.1 (by simp)).2;omega) hq (List.getElem?_eq_getElem hq)
 ·obtain⟨m,rfl⟩:=Int.eq_ofNat_of_zero_le (hd.1 (by simp)).1;simp[numberI]at hn;obtain⟨q,rfl⟩:=Int.eq_ofNat_of_zero_le hn.1;exact rdoes_glo base mc fb tb own P lv fuel s tp lo R m q a b _ _ w h hF hO (by have:=(hd.1 (by simp)).2;omega) (by omega)
 ·obtain⟨m,rfl⟩:=Int.eq_ofNat_of_zero_le (hd.1 (by simp)).1;obtain⟨ma,rfl⟩:=Int.eq_ofNat_of_zero_le (ha (by simp)).1;obtain⟨mb,rfl⟩:=Int.eq_ofNat_of_zero_le (hb (by simp)).1;obtain⟨va,hva,hga⟩:=tp_get (tp:=tp) (m:=ma) (by have:=(ha (by simp)).2;omega);obtain⟨vb,hvb,hgb⟩:=tp_get (tp:=tp) (m:=mb) (by have:=(hb (by simp)).2;omega);rw[afterF_reck hi' (by decide)];simp[numberI]at hn;exact rdoes_bin base mc fb tb own P lv fuel s tp lo m ma mb va vb n _ _ w h hF hO hkind (by have:=(hd.1 (by simp)).2;omega) hva hvb (hok _ (List.mem_of_getElem? hva)) (hok _ (List.mem_of_getElem? hvb)) hn (by
   show binF twoR (memBase s.mem) n (regF tp (ma:Int)) (regF tp (mb:Int))=_;rw[regF_nat hga,regF_nat hgb,binF_base])
 ·obtain⟨m,rfl⟩:=Int.eq_ofNat_of_zero_le (hd.1 (by simp)).1;obtain⟨ma,rfl⟩:=Int.eq_ofNat_of_zero_le (ha (by simp)).1;obtain⟨va,hva,hga⟩:=tp_get (tp:=tp) (m:=ma) (by have:=(ha (by simp)).2;omega);rw[afterF_reck hi' (by decide)];simp[numberI]at hn;obtain⟨_,ab,aof,xv,rfl,hab,hc,hx,hx64⟩:=arg_one harg hn.2.1;rw[hn.2.1];exact rdoes_bini base mc fb tb own P lv fuel s tp lo m ma ab aof cap va n b xv _ w h hF hO hkind (by have:=(hd.1 (by simp)).2;omega) hva (hok _ (List.mem_of_getElem? hva)) hx64 hn.1 (by omega) hc (by
   show binF twoR (memBase s.mem) n (regF tp (ma:Int)) ⟨0,arg.getD 0 0⟩=_;rw[regF_nat hga,hx,binF_base])
 ·obtain⟨m,rfl⟩:=Int.eq_ofNat_of_zero_le (hd.1 (by simp)).1;obtain⟨ma,rfl⟩:=Int.eq_ofNat_of_zero_le (ha (by simp)).1;obtain⟨va,hva,hga⟩:=tp_get (tp:=tp) (m:=ma) (by have:=(ha (by simp)).2;omega);rw[afterF_reck hi' (by decide)];simp[numberI]at hn;exact rdoes_un base mc fb tb own P lv fuel s tp lo m ma va n b _ _ w h hF hO hkind (by have:=(hd.1 (by simp)).2;omega) hva (hok _ (List.mem_of_getElem? hva)) hn (by
   show(if(regF tp (ma:Int)).obj=0 then some (⟨0,unR n (regF tp (ma:Int)).n⟩:V)else none)=_;rw[regF_nat hga])
 ·obtain⟨m,rfl⟩:=Int.eq_ofNat_of_zero_le (hd.1 (by simp)).1;obtain⟨ma,rfl⟩:=Int.eq_ofNat_of_zero_le (ha (by simp)).1;obtain⟨va,hva,hga⟩:=tp_get (tp:=tp) (m:=ma) (by have:=(ha (by simp)).2;omega);rw[afterF_reck hi' (by decide)];simp[numberI]at hn;obtain⟨ra,hra⟩:∃ra,ra=binF twoR s.mem 12 va ⟨0,b⟩:=⟨_,rfl⟩
  have hrk:reckF (memBase s.mem) tp lo ⟨8,(m:Int),(ma:Int),b,n,arg⟩=loadE s.mem n ra:=by
   show(match addrF (memBase s.mem) tp ⟨8,(m:Int),(ma:Int),b,n,arg⟩with|none=>none|some v=>loadF (memBase s.mem) n v)=_;rw[show addrF (memBase s.mem) tp ⟨8,(m:Int),(ma:Int),b,n,arg⟩=ra from by unfold addrF;simp only;rw[regF_nat hga,binF_base,hra]];cases ra with
   |none=>rfl
   |some v=>exact loadF_base _ _ _
  rw[hrk];have hrok:∀x,ra=some x→VOkW s.mem.length x:=fun x hx=>(bin_ok hI.mem (hokb _ (List.mem_of_getElem? hva)) (VOk.num (memBase_pos _) hb64) (by rw[binF_base,←hra];exact hx)).based;exact rdoes_load base mc fb tb own P lv fuel s tp lo m ma va n b _ ra w h hF hO hkind (by have:=(hd.1 (by simp)).2;omega) hva (hok _ (List.mem_of_getElem? hva)) hb64 hra hrok hn.1
 ·obtain⟨md,rfl⟩:=Int.eq_ofNat_of_zero_le (hd.1 (by simp)).1;obtain⟨ma,rfl⟩:=Int.eq_ofNat_of_zero_le (ha (by simp)).1;obtain⟨va,hva,hga⟩:=tp_get (tp:=tp) (m:=ma) (by have:=(ha (by simp)).2;omega);obtain⟨vd,hvd,hgd⟩:=tp_get (tp:=tp) (m:=md) (by have:=(hd.1 (by simp)).2;omega);simp[numberI,sizeB]at hn;obtain⟨sz,rfl⟩:=Int.eq_ofNat_of_zero_le (show 0≤n by omega);obtain⟨ra,hra⟩:∃ra,ra=binF twoR s.mem 12 va ⟨0,b⟩:=⟨_,rfl⟩
  have hrokb:∀x,ra=some x→VOk (memBase s.mem).length x:=fun x hx=>bin_ok hI.mem (hokb _ (List.mem_of_getElem? hva)) (VOk.num (memBase_pos _) hb64) (by rw[binF_base,←hra];exact hx);have haf:afterF R lo s tp (stepI ⟨9,(md:Int),(ma:Int),b,(sz:Int),arg⟩)=storeE s tp sz vd ra:=by
   rw[afterF_store,hga,hgd,binF_base,←hra];cases ra with
   |none=>rfl
   |some v=>
    show(match storeF s.mem sz v vd with|some M=>(true,{s with mem:=M},tp)|none=>(false,{s with kind:=3},tp))=storedE s tp (storeF s.mem sz v vd);cases storeF s.mem sz v vd<;>rfl
  rw[haf];refine rdoes_store base mc fb tb own P lv fuel s tp lo md ma sz va vd b _ ra w h hF hO hkind hva hvd (hok _ (List.mem_of_getElem? hva)) hb64 hra (fun x hx=>(hrokb x hx).based) (by omega) (fun x M' hx hM=>?_);have h1:storeF (memBase s.mem) sz x vd=some (memBase M'):=by rw[storeF_base,hM];rfl
  exact(storeF_kept h1 (by omega) hI.mem hI.num (hokb _ (List.mem_of_getElem? hvd))).1.unbase
 ·simp[numberI,regsB,parV]at hn;obtain⟨⟨hn0,hn1⟩,hrs,hpar⟩:=hn;obtain⟨f,rfl⟩:=Int.eq_ofNat_of_zero_le hn0;have hfl:f<p.funcs.length:=by omega
  have hg':p.funcs[f]? =some p.funcs[f]:=List.getElem?_eq_getElem hfl;have hgd:(p.funcs[f]?.getD noCode).params=(arg.length:Int):=by simpa using hpar
  rw[hg']at hgd;simp only[Option.getD_some]at hgd;have hp4:=hpa p.funcs[f] (List.getElem_mem hfl);rw[afterF_call];exact rdoes_call base mc fb tb own P lv fuel s tp lo R p f p.funcs[f] dst a b arg A cap w h hF hO hFr hI (fun r hr=>by have:=hrs r hr;omega) (by omega) harg hg' hgd.symm hP hL hC (by have:=hd.2 rfl;omega)
 ·obtain⟨ma,rfl⟩:=Int.eq_ofNat_of_zero_le (ha (by simp)).1;have hq:ma<tp.length:=by have:=(ha (by simp)).2;omega
  obtain⟨va,hva,hga⟩:=tp_get hq;by_cases hz:va.obj=0
  ·exact rdoes_put base mc fb tb own P lv fuel s tp lo R ma va dst b n _ _ w h hF hO hq hva hz (by have:=hI.outs;have:=hI.hi;omega)
  ·exact rdoes_badput base mc fb tb own P lv fuel s tp lo R ma va dst b n _ _ w h hF hO hq hva (by omega) hkind
 ·obtain⟨m,rfl⟩:=Int.eq_ofNat_of_zero_le (hd.1 (by simp)).1;have hm:m<tp.length:=by have:=(hd.1 (by simp)).2;omega
  cases hin:s.inp with
  |nil=>exact rdoes_get0 base mc fb tb own P lv fuel s tp lo R m a b n _ _ w h hF hO hm hin
  |cons y r=>exact rdoes_get1 base mc fb tb own P lv fuel s tp lo R m y r a b n _ _ w h hF hO hm hin
 ·obtain⟨ma,rfl⟩:=Int.eq_ofNat_of_zero_le (ha (by simp)).1;have hq:ma<tp.length:=by have:=(ha (by simp)).2;omega
  obtain⟨va,hva,hga⟩:=tp_get hq;by_cases hz:va.obj=0
  ·exact rdoes_exit base mc fb tb own P lv fuel s tp lo R ma va dst b n _ _ w h hF hO hq hva hz hkind
  ·exact rdoes_badexit base mc fb tb own P lv fuel s tp lo R ma va dst b n _ _ w h hF hO hq hva (by omega) hkind
 ·exact rdoes_label base mc fb tb own P lv fuel s tp lo R dst a b n _ _ w h hF hO
def RMadeM(base mc:Nat)(own:Nat→Prop)(P:Value×Value×Value×Value)(fuel:Int)(s:St)(o:ObS)(w:World)(e:Ending)(w':World):Prop:=
 e= .returned (.int .i64 (memBase s.mem).length)∧∃own':Nat→Prop,(∀k,own k→own' k)∧(∀k,own' k→own k∨w.heap.size≤k)∧RMach w' base mc own' P fuel {s with mem:=makeF s.mem o}∧Wr own w w'
theorem rmake_mach(base mc:Nat)(own:Nat→Prop)(P:Value×Value×Value×Value)(fuel:Int)(s:St)(o:ObS)(v:Value)(w:World)
  (hm:RMach w base mc own P fuel s)(ho:ObOk o)(hl:LongsAt w base o.init v)(hmany:(memBase s.mem).length+1≤1000000000):
  Calls Tryz.prog 23 #[.pointer (some ⟨mc,11,none⟩),.agg #[.int .i64 o.size,.int .i64 o.count,v]] w fun e w'=>RMadeM base mc own P fuel s o w e w':=by
 obtain⟨inv,outv,memv,rb,hr,hmine,hs⟩:=hm;have hb:=hs.own mc hmine;have hbs:base≤w.heap.size:=by omega
 have hMM:MemW w base (fun k=>own k∧∃cs t,Row w k cs t∧(t=70∨t=103)) memv rb s.mem:=by
  obtain⟨h1,h2,h3,h4⟩:=hs.mem;exact⟨h1,fun k x hk hx=>⟨⟨(h2 k x hk hx).1,by obtain⟨_,cs,hr,_⟩:=h2 k x hk hx;exact⟨cs,_,hr,Or.inl rfl⟩⟩,(h2 k x hk hx).2⟩,h3,h4⟩
 refine(make_any mc 11 base (fun k=>own k∧∃cs t,Row w k cs t∧(t=70∨t=103)) memv rb s.mem _ 64 o v w hr rfl (by decide) hMM (fun g hg=>⟨hs.memo g hg,?_⟩) (fun k hk=>hs.own k hk.1) hbs hb.1 ho hl hmany).mono ?_
 ·obtain⟨⟨xs,hx,_⟩,_⟩:=hs.mem;obtain⟨_,cs,hr'⟩:=ownsRow_row hx hg;exact⟨cs,_,hr',Or.inr rfl⟩
 rintro e w' ⟨rfl,own',memv',rb',h1,h2,h3,h4,h5,h6,h7⟩;have hnot:∀k cs t,Row w k cs t→t≠70→t≠103→¬(own k∧∃cs t,Row w k cs t∧(t=70∨t=103)):=by
  rintro k cs t hr h1 h2 ⟨_,cs',t',hr',h⟩;rcases h with rfl|rfl
  ·exact hr.ne hr' h1 rfl
  ·exact hr.ne hr' h2 rfl
 refine⟨rfl,fun k=>own k∨own' k,fun k hk=>Or.inl hk,fun k hk=>?_,⟨inv,outv,memv',rb',h6,Or.inl hmine,⟨?_,?_,fun g hg=>Or.inl (hs.outo g hg),?_,fun g hg=>Or.inr (h5 g hg),fun k hk=>?_⟩⟩,h7.mono (fun k hk=>Or.inl ?_)⟩
 ·rcases hk with hk|hk
  ·exact Or.inl hk
  ·rcases h2 k hk with h|h
   ·exact Or.inl h.1
   ·exact Or.inr h
 ·exact hs.inp.below (fun b o hb'=>World.cell?_of_block (a:=⟨b,o,none⟩) (h7.block b (by omega) (fun hf=>by rcases hf with hf|hf;have:=hs.own b hf.1;omega;omega)))
 ·refine ownsRow_wr hs.out h7 (fun g hg hf=>?_);obtain⟨_,cs,hr'⟩:=ownsRow_row hs.out hg;rcases hf with hf|hf
  ·exact hnot g cs _ hr' (by decide) (by decide) hf
  ·subst hf;exact hr'.ne hr (by decide) rfl
 ·obtain⟨a,b,c,d⟩:=h4;exact⟨a,fun k x hk hx=>⟨Or.inr (b k x hk hx).1,(b k x hk hx).2⟩,c,d⟩
 ·rcases hk with hk|hk
  ·have:=hs.own k hk;have:=h7.size;exact⟨by omega,by omega⟩
  ·refine⟨?_,h3 k hk⟩;rcases h2 k hk with h|h
   ·exact(hs.own k h.1).1
   ·omega
 ·rcases hk with hk|rfl
  ·exact hk.1
  ·exact hmine
end Go.Proofs.YtlenilbkifofjaaGreatDoor
