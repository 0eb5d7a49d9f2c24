/- The graph's heap and clock together: stores, ticks, ends. Conditions: as stated. The graph's clock: Put of a number, Get. Conditions: as stated. The graph's heap: places moved, told apart; One. Conditions: as stated. The graph's heap: ops of two places. Conditions: as stated. -/
import Derived.Test.YtinmgbodgecoeaaGreatGMakeZz
set_option linter.unusedSimpArgs false
set_option linter.unusedVariables false
set_option maxHeartbeats 8000000
set_option maxRecDepth 100000
open Go.Proofs.Tryz
namespace Go.Proofs.YtinmgbodgecoeaaGreat
open Go.RowKit
theorem HC.remem{w w':World}{ai:Nat}{own own' F:Nat->Prop}{cb hb:Nat}{ah:Int}{s:St}{inv outv aU iL:Value}{rb NV:Nat->Nat}{M:List MO}(h:HC w ai own cb hb ah s inv outv aU rb)(hw:Wr F w w')
  (hF:∀k,F k->own k/\∃cs t,Row w k cs t/\(t=75\/t=128\/t=66))(h1:∀k,own k->own' k)(h2:∀k,own' k->own k\/w.heap.size<=k)(h3:∀k,own' k->k<w'.heap.size)
  (hH:E0 w' ai own' hb iL NV (au M)):HC w' ai own' cb hb ah {s with mem:=M} inv outv iL NV:=by
 have gX:=h.own cb h.En;have hne:∀g cs t,Row w g cs t->t≠75->t≠128->t≠66->¬F g:=by
  intro g cs t hr t1 t2 t3 hf;obtain⟨_,cs',t',hr',ht'⟩:=hF g hf;rcases ht' with rfl|rfl|rfl
  ·exact hr.ne hr' t1 rfl
  ·exact hr.ne hr' t2 rfl
  ·exact hr.ne hr' t3 rfl
 refine⟨h.clk.wr hw (hne _ _ _ h.clk (by decide) (by decide) (by decide)),hH.heap,h1 _ h.En,h1 _ h.RM,?_,?_,λg hg=>h1 _ (h.sI g hg),hH.mem,hH.memo,λk hk=>⟨?_,h3 k hk⟩⟩
 ·exact h.inp.below (λb o hb'=>World.cell?_of_block (a:=⟨b,o,none⟩) (hw.block b (by omega) (λhf=>by have:=h.own b (hF b hf).1;omega)))
 ·refine aF h.out hw (λg hg=>?_);obtain⟨_,cs,hr'⟩:=aC h.out hg;exact hne g cs _ hr' (by decide) (by decide) (by decide)
 ·rcases h2 k hk with h'|h'
  ·exact(h.own k h').1
  ·omega
theorem HC.pos{w:World}{ai:Nat}{own:Nat->Prop}{cb hb:Nat}{ah:Int}{s:St}{inv outv aU:Value}{rb:Nat->Nat}(h:HC w ai own cb hb ah s inv outv aU rb):ai<=w.heap.size:=by have:=h.own cb h.En;omega
def vw(ai:Nat)(own:Nat->Prop)(cb hb:Nat)(ah:Int)(s:St)(r:Bool)(w:World)(e:Ending)(w':World):Prop:=
 e= .returned (.bool r)/\iH w' ai own cb hb ah s/\Wr (λb=>b=cb) w w'
section
variable {ai:Nat} {own:Nat->Prop} {cb hb:Nat} {ah:Int} {s:St} {w:World}
theorem rL(n:Int)(h:iH w ai own cb hb ah s)(hk:s.kind=0)(hf:ah<=100000000)(h0:0<=s.steps)(h1:s.steps<=ah)(hn0:0<=n)(rT:n<=1000000):
  Calls prog 64 #[.pointer (some ⟨cb,0,none⟩),.int .i64 n] w λe w'=>vw ai own cb hb ah (aL ah n s).2 (aL ah n s).1 w e w':=by
 obtain⟨inv,outv,aU,rb,h⟩:=h;refine(Al cb ah n s inv outv w h.clk hk hf h0 h1 hn0 rT).mono λe w'⟨he,hs⟩=>⟨he,⟨inv,outv,aU,rb,h.clock hs ?_ ?_ ?_⟩,hs.2⟩
 all_goals(unfold aL;(repeat' split)<;>rfl)
theorem Am(h:iH w ai own cb hb ah s):
  Calls prog 50 #[.pointer (some ⟨cb,0,none⟩)] w λe w'=>vw ai own cb hb ah {s with kind:=3} false w e w':=by
 obtain⟨inv,outv,aU,rb,h⟩:=h;exact(xD cb ah s inv outv w h.clk).mono λe w'⟨he,hs⟩=>⟨he,⟨inv,outv,aU,rb,h.clock hs rfl rfl rfl⟩,hs.2⟩
theorem O1(h:iH w ai own cb hb ah s)(h0:1<=s.calls)(h1:s.calls<=64):
  Calls prog 49 #[.pointer (some ⟨cb,0,none⟩)] w λe w'=>e= .returned (.tuple #[])/\iH w' ai own cb hb ah {s with calls:=s.calls-1}/\Wr (λb=>b=cb) w w':=by
 obtain⟨inv,outv,aU,rb,h⟩:=h;exact(MN cb ah s inv outv w h.clk h0 h1).mono λe w'⟨he,hs⟩=>⟨he,⟨inv,outv,aU,rb,h.clock hs rfl rfl rfl⟩,hs.2⟩
theorem RL(n:Int)(h:iH w ai own cb hb ah s)(h1:s.calls=64):
  Calls prog 45 #[.pointer (some ⟨cb,0,none⟩),.int .i64 n] w λe w'=>vw ai own cb hb ah {s with kind:=4} false w e w':=by
 obtain⟨inv,outv,aU,rb,h⟩:=h;exact(KD cb ah n s inv outv w h.clk h1).mono λe w'⟨he,hs⟩=>⟨he,⟨inv,outv,aU,rb,h.clock hs rfl rfl rfl⟩,hs.2⟩
theorem G9(n:Int)(h:iH w ai own cb hb ah s)(hk:s.kind=0)(hc0:0<=s.calls)(hc1:s.calls<64)(hf:ah<=100000000)(h0:0<=s.steps)(h1:s.steps<=ah)(hn0:0<=n)(rT:n<=1000000):
  Calls prog 45 #[.pointer (some ⟨cb,0,none⟩),.int .i64 n] w λe w'=>vw ai own cb hb ah (aL ah n {s with calls:=s.calls+1,deep:=max s.deep (s.calls+1)}).2 (aL ah n {s with calls:=s.calls+1,deep:=max s.deep (s.calls+1)}).1 w e w':=by
 obtain⟨inv,outv,aU,rb,h⟩:=h;refine(Nj cb ah n s inv outv w h.clk hk hc0 hc1 hf h0 h1 hn0 rT).mono λe w'⟨he,hs⟩=>⟨he,⟨inv,outv,aU,rb,h.clock hs ?_ ?_ ?_⟩,hs.2⟩
 all_goals(unfold aL;(repeat' split)<;>rfl)
theorem LC(v:V)(h:iH w ai own cb hb ah s):
  Calls prog 28 #[.pointer (some ⟨cb,0,none⟩),.agg #[.int .i64 v.obj,.int .i64 v.n]] w λe w'=>vw ai own cb hb ah (if v.obj>0 then {s with kind:=3}else {s with code:=v.n,kind:=1}) false w e w':=by
 obtain⟨inv,outv,aU,rb,h⟩:=h;by_cases hv:v.obj=0
 ·rw[if_neg (by omega)];exact(Qd cb ah s inv outv v w h.clk hv).mono λe w'⟨he,hs⟩=>⟨he,⟨inv,outv,aU,rb,h.clock hs rfl rfl rfl⟩,hs.2⟩
 ·rw[if_pos (by omega)];exact(Kw cb ah s inv outv v w h.clk hv).mono λe w'⟨he,hs⟩=>⟨he,⟨inv,outv,aU,rb,h.clock hs rfl rfl rfl⟩,hs.2⟩
end
def tM(ai:Nat)(own:Nat->Prop)(cb hb:Nat)(ah:Int)(s:St)(r:Option (List MO))(w:World)(e:Ending)(w':World):Prop:=
 e= .returned (.bool r.isSome)/\iH w' ai own cb hb ah (match r with|some M=>{s with mem:=M}|none=>s)/\Wr own w w'
theorem Ou{ai:Nat}{own:Nat->Prop}{cb hb:Nat}{ah:Int}{s:St}{w:World}(sz:Nat)(a x:V)(h:iH w ai own cb hb ah s)(ha:kW (au s.mem).length a)(hx:kW (au s.mem).length x)(hs:sz=1\/sz=2\/sz=4\/sz=8):
  Calls prog 81 #[.pointer (some ⟨hb,0,none⟩),.int .i64 sz,.agg #[.int .i64 a.obj,.int .i64 a.n],.agg #[.int .i64 x.obj,.int .i64 x.n]] w λe w'=>tM ai own cb hb ah s (bS s.mem sz a x) w e w':=by
 obtain⟨inv,outv,aU,rb,h⟩:=h;obtain⟨A,aA,rfl,CG⟩:=h.mem.Tq;have hhb:=h.heap.lt;have hc:=h.heap.cell (j:=0) rfl;have hse:bS s.mem sz a x=none/\bS (au s.mem) sz a x=none\/∃M,bS s.mem sz a x=some M/\bS (au s.mem) sz a x=some (au M):=by
  have:=s7 s.mem sz a x;cases hS:bS s.mem sz a x with
  |none=>rw[hS]at this;exact aK ⟨rfl,this⟩
  |some M=>rw[hS]at this;exact bu ⟨M,rfl,this⟩
 have no:bS (au s.mem) sz a x=none->∀e w',(e= .returned (.bool false)/\Below w.heap.size w w')->tM ai own cb hb ah s (bS s.mem sz a x) w e w':=by
  intro hn e w' ⟨he,hb'⟩;rcases hse with⟨e1,_⟩|⟨M,_,e2⟩
  ·rw[e1];exact⟨he,iH.below ⟨inv,outv,_,rb,h⟩ hb',Wr.of_below hb'⟩
  ·rw[hn]at e2;cases e2
 have htn:((sz:Int)).toNat=sz:=Int.toNat_natCast _;cases hF:sP (au s.mem) a sz with
 |none=>
  refine(Gx hb A _ aA w.heap.size sz a x (au s.mem) w (aY _) hhb hc CG (λh=>ha.1) ha.2.1 (by omega) (by omega) hF).mono λe w' hh=>no ?_ e w' hh;unfold bS;rw[htn,hF]
 |some j=>
  obtain⟨hp,PH,hsz,_,_,_⟩:=wU hF;obtain⟨hjl,ob,oo,mb,mo,len,cap',hA,h1,ja,hv,_⟩:=wI hb A _ aA w.heap.size sz j a (au s.mem) w (aY _) hhb hc CG ha.1 (ha.2.1 (by omega)) (by omega) (by omega) hF;have HT:=M0 hb A _ aA w.heap.size sz j a (au s.mem) w (aY _) hhb hc CG ha.1 (ha.2.1 (by omega)) (by omega) (by omega) hF mb mo ob oo len cap' hA h1;obtain⟨k,hk⟩:∃k,a.obj=k+1:=⟨a.obj-1,by omega⟩
  have hkt:k<(au s.mem).tail.length:=by have:=ha.1;rw[List.length_tail];omega
  have hget:(au s.mem).tail[k]? =some (aG (au s.mem) (k+1)):=by rw[List.getElem?_tail];exact qj (by have:=ha.1;omega)
  obtain⟨g,hAg,hcg⟩:=h.mem.RN hkt (hk▸PH);subst hA;simp only[Option.some.injEq,Addr.mk.injEq,and_true]at hAg;obtain⟨rfl,rfl⟩:=hAg;rw[hk,show 0+(k+1-1)*3+1=k*3+1 by omega,hcg]at h1;simp only[Option.some.injEq,Value.slice.injEq,Addr.mk.injEq,and_true]at h1;obtain⟨⟨rfl,rfl⟩,_,_⟩:=h1;obtain⟨hown,cs,hrow,gT⟩:=h.mem.mine k _ hget;have hjl':j<(aG (au s.mem) (k+1)).l.length:=hk▸hjl;obtain⟨c0,c1⟩:=gT.2 j _ (List.getElem?_eq_getElem hjl');have hc0:=hrow.cell c0;have hc1:=hrow.cell c1;rw[Nat.zero_add]at HT;have hne:∀g cs' t,Row w g cs' t->t≠75->g≠rb k:=λg cs' t hr ht e=>hr.ne hrow ht e;have Ls:(Value.slice (some ⟨mb,0,none⟩) (au s.mem).tail.length aA).ownBlock≠some (rb k):=by
   intro e;obtain⟨⟨xs,hx0,_⟩,_⟩:=h.mem;obtain⟨_,cs',hr'⟩:=aC hx0 e;exact hr'.ne hrow (by decide) rfl
  have fin:∀v:V,kW (au s.mem).length v->((aG (au s.mem) (k+1)).size≠8->v.obj=0)->bS (au s.mem) sz a x=some ((au s.mem).modify (k+1) (JG j v))->∀e w',x6 (rb k) (j*2) v w e w'->tM ai own cb hb ah s (bS s.mem sz a x) w e w':=by
   rintro v hv zk hst e w' ⟨he,W,hbW,rfl⟩;rcases hse with⟨_,e2⟩|⟨M,e1,e2⟩
   ·rw[hst]at e2;cases e2
   ·rw[hst]at e2;simp only[Option.some.injEq]at e2;rw[e1];have h':=h.wr (F:=λ_=>False) (Wr.of_below hbW) (λ_ h=>h.elim);have Ty:=hrow.below hbW hrow.lt;have hw2:=gI W (rb k) (j*2) (j*2+1) (.int .i64 v.obj) (.int .i64 v.n);have hput:=h'.mem.put k j v hkt hv zk (hk▸PH) Ls;rw[e2]at hput;refine⟨he,⟨inv,outv,_,rb,HC.remem (own':=own) (M:=M) h' hw2 (λi hi=>?_) (λ_ h=>h) (λ_ h=>aK h) (λi hi=>?_) ⟨?_,hput,h.memo⟩⟩,?_⟩
    ·exact⟨hi▸hown,_,_,hi▸Ty,aK rfl⟩
    ·have:=(h'.own i hi).2;simpa using this
    ·exact h'.heap.wr hw2 (λe=>h'.heap.ne Ty (by decide) e)
    ·exact(Wr.of_below (F:=own) hbW).trans hw2 (λi hi=>aK (hi▸hown))
  have UO:bS (au s.mem) sz a x=if x.obj>0/\(sz:Int)≠8 then none else some ((au s.mem).modify (k+1) (JG j (if x.obj=0 then⟨0,eA sz x.n⟩else x))):=by
   unfold bS;rw[htn,hF,hk];rfl
  by_cases hx0:x.obj=0
  ·obtain⟨xo,xn⟩:=x;simp only at hx0;subst hx0;refine(Kb hb (rb k) (j*2) sz a xn _ _ w HT hs hx.2.2 ja hc0 hc1 (λj=>hrow.free j)).mono (fin _ ⟨?_,λh=>absurd rfl h,s6 hx.2.2⟩ (λ_=>rfl) ?_)
   ·exact cZ _
   ·rw[UO,if_neg (by simp)];simp
  ·by_cases h8:sz=8
   ·subst h8;refine(Ex hb (rb k) (j*2) a x _ _ w HT hx0 ja hc0 hc1 (λj=>hrow.free j)).mono (fin _ hx (λhne8=>?_) ?_)
    ·rw[hk]at hsz;exact absurd hsz hne8
    ·rw[UO,if_neg (by simp),if_neg hx0]
   ·refine(Kc hb (rb k) (j*2) sz a x w HT hx0 h8).mono (no ?_);rw[UO,if_pos ⟨by omega,by omega⟩]
end Go.Proofs.YtinmgbodgecoeaaGreat
namespace Go.Proofs.YtinmgbodgecoeaaGreat
open Go.RowKit
theorem MI:(prog.info? 2).map (λi=>(i.zero,i.size,i.bytes))=some (some (.int .i64 0),1,8):=by kernel_rfl
theorem RZ(a:Int):∀u:Value,u∈[Value.int .i64 a]->u.oneCell'=true:=by
 intro u hu;simp at hu;subst hu;rfl
def S0(ai cb:Nat)(ah:Int)(s:St)(inv outv:Value)(n:Int)(w:World)(e:Ending)(w':World):Prop:=
 e= .returned (.bool true)/\∃yA,Row w' cb (iQ ah {s with out:=s.out++[n]} inv yA) 62/\w'.ownsRow ai 2 1 yA (s.out.length+1) ((s.out++[n]).map (Value.int .i64))/\
  (∀g,yA.ownBlock=some g->(outv.ownBlock=some g\/w.heap.size<=g)/\g<w'.heap.size)/\Wr (λk=>outv.ownBlock=some k\/k=cb) w w'
theorem RH(cb ai:Nat)(ah:Int)(s:St)(inv outv:Value)(n:Int)(w:World)(hr:Row w cb (iQ ah s inv outv) 62)(ho:w.ownsRow ai 2 1 outv s.out.length (s.out.map (Value.int .i64)))(hl:s.out.length<=1000000000)(hbs:ai<=w.heap.size):
  Calls prog 83 #[.pointer (some ⟨cb,0,none⟩),.agg #[.int .i64 0,.int .i64 n]] w λe w'=>S0 ai cb ah s inv outv n w e w':=by
 obtain⟨q,hq0⟩:∃q,q=s.out.length:=⟨_,rfl⟩
 have WV:=ae hq0;rw[<-hq0]at ho hl;obtain⟨A1,fK,hov⟩:∃A1 fK,outv= .slice A1 q fK:=(by obtain⟨_,h|⟨g,c,cur,h,_⟩⟩:=id ho;exact⟨none,0,by rw[h.1,h.2]⟩;exact⟨_,_,h⟩)
 subst hov;have yE:∀g,(Value.slice A1 q fK).ownBlock=some g->ai<=g/\∃cs',Row w g cs' 2:=λg h=>aC ho h;have c2:w.cell? ⟨cb,2,none⟩=some (.slice A1 q fK):=hr.cell rfl;have f2:=hr.free 2;have hlt:=hr.lt;have hlt2:cb<w.heap.size+1:=by omega
 have HR:=ae hr;have HO:=ae ho;have HNE:=ae (show¬(Value.slice A1 q fK).ownBlock=some cb from λe=>by obtain⟨_,cs',hr'⟩:=yE _ e;exact hr'.ne hr (by decide) rfl);have dI:=ae yE;obtain⟨xs,hxs⟩:∃xs,xs=s.out.map (Value.int .i64):=⟨_,rfl⟩
 have HXS:=ae hxs;rw[<-hxs]at HO;obtain⟨i0,hi,hz0,hz1,hz2⟩:=info_parts MI;have U7:∀o o',((w.alloc o).alloc o').frozen? ⟨cb,2,none⟩=false:=λo o'=>((HR.alloc o).alloc o').free 2;have U6:∀o o',((w.alloc o).alloc o').drew.frozen? ⟨cb,2,none⟩=false:=λo o'=>(((HR.alloc o).alloc o').drew).free 2;clear hq0 hr ho yE hxs;go_enter func83,ntmps83;go_wp2_with fail;go_region_law
  ((refine step_append_lies _ (by rfl) _ _ _ (by rfl) ai 2 i0 _ 1 8 underlying23 hi hz0 hz1 hz2 rfl (by omega) _ _ _ (by rfl) (tu ((aF HO (eW (ax w (.cells #[.int .i64 0,.int .i64 n] 75))) (λ_ _ h=>h))) _) ⟨w.heap.size+1,0,none⟩ 1 1 [.int .i64 n] (by rfl) (by rfl) (o6 _ _ _ _ (by simp)) (RZ _) (by omega) (by unfold maxLen;omega) (by omega) (by simp;omega) (w.heap.size+1+1) (by simp) ?_;intro gg fJ w2 hown2 hgrow hat hlt3;have hq:=(((HR.alloc (.cells #[.int .i64 0,.int .i64 n] 75)).alloc (.cells #[.int .i64 n] 2)).drew).wr (Wr.grown (F:=λk=>(Value.slice A1 q fK).ownBlock=some k) hgrow (λk hk=>hk)) HNE.out;have hq1:w2.cell? ⟨cb,2,none⟩=some (.slice A1 q fK):=hq.cell rfl;have hq2:=hq.free 2;have HQ2:=ae hq;have NP:=ae hgrow;have x8:=ae hown2;have uw:=ae hat;clear hq hgrow hown2 hat))
 all_goals go_wp2_with fail
 all_goals go_ret
 all_goals
  refine⟨rfl,.slice (some ⟨gg,0,none⟩) (q+1) fJ,HQ2.set 2 _,?_,λg hg=>?_,?_⟩
  ·rw[<-WV.out,List.map_append,<-HXS.out];refine aF x8 (Wr.cell1 w2 cb 2 _) (λg hg e=>?_);obtain⟨_,cs',hr'⟩:=aC x8.out hg;exact hr'.ne HQ2 (by decide) e
  ·simp only[Value.ownBlock,Option.some.injEq]at hg;subst hg;refine⟨?_,by simpa using hlt3⟩;rcases uw.out with h|h
   ·exact aK h
   ·exact bu (by omega)
  ·exact(((Wr.of_below (aB w (.cells #[.int .i64 0,.int .i64 n] 75) (.cells #[.int .i64 n] 2)).drew).trans (Wr.grown (F:=λk=>(Value.slice A1 q fK).ownBlock=some k) NP (λk hk=>hk)) (λi hi=>aK (aK hi)))).trans (Wr.cell1 w2 cb 2 _) (λi hi=>aK (bu hi))
theorem get_nil(cb:Nat)(ah:Int)(s:St)(outv:Value)(A:Option Addr)(aA:Nat)(w:World)(hr:Row w cb (iQ ah s (.slice A 0 aA) outv) 62):
  Calls prog 84 #[.pointer (some ⟨cb,0,none⟩)] w λe w'=>e= .returned (.agg #[.int .i64 0,.int .i64 0])/\Below w.heap.size w w':=by
 have c6:w.cell? ⟨cb,6,none⟩=some (.slice A 0 aA):=hr.cell rfl;have hlt:=hr.lt;have hlt2:cb<w.heap.size+1:=by omega
 clear hr;go_enter func84,ntmps84;refine aj λQ HQ=>?_;go_wp2_with fail;refine HQ _ _ _ ?_;refine aS (v:= .agg #[.int .i64 0,.int .i64 0]) (by simp[results,results84,go_sem]) rfl ⟨rfl,?_⟩;exact ax _ _
theorem SI(cb:Nat)(ah:Int)(s:St)(outv:Value)(b off q aA:Nat)(x:Int)(l:List Int)(w:World)(hr:Row w cb (iQ ah s (.slice (some ⟨b,off,none⟩) (q+1) aA) outv) 62)(hb:b<w.heap.size)(hc:w.cell? ⟨b,off,none⟩=some (.int .i64 x))(hcap:q+1<=aA)(hcap2:aA<=9223372036854775807):
  Calls prog 84 #[.pointer (some ⟨cb,0,none⟩)] w λe w'=>e= .returned (.agg #[.int .i64 0,.int .i64 x])/\∃zh,(zh= .slice (some ⟨b,off+1,none⟩) q (aA-1)\/(q=0/\zh= .slice (some ⟨b,off,none⟩) 0 0))/\mU cb ah {s with inp:=l} zh outv w w':=by
 have c6:w.cell? ⟨cb,6,none⟩=some (.slice (some ⟨b,off,none⟩) (q+1) aA):=hr.cell rfl;have f6:=hr.free 6;have hlt:=hr.lt;have hlt2:cb<w.heap.size+1:=by omega
 have hlb:b<w.heap.size+1:=by omega
 have hne:¬cb=w.heap.size:=by omega
 have CY:¬w.heap.size=cb:=by omega
 have hq1:(((q:Int)+1)==0)=false:=by simp;omega
 have hq2:(0:Int)<(q:Int)+1:=by omega
 have pq:(1:Int)<=(q:Int)+1:=by omega
 have HR:=ae hr;clear hr;go_enter func84,ntmps84;refine aj λQ HQ=>?_;go_wp2_with fail
 ·subst h;obtain rfl:q=0:=by omega
  refine HQ _ _ _ ?_;refine aS (v:= .agg #[.int .i64 0,.int .i64 x]) (by simp[results,results84,go_sem,CY]) rfl ⟨rfl,_,bu ⟨rfl,rfl⟩,?_⟩;exact⟨(HR.set 6 (.slice (some ⟨b,off,none⟩) 0 0)).alloc _,(Wr.cell1 w cb 6 _).bH _⟩
 ·refine HQ _ _ _ ?_;refine aS (v:= .agg #[.int .i64 0,.int .i64 x]) (by simp[results,results84,go_sem,CY]) rfl ⟨rfl,_,aK rfl,?_⟩;exact⟨(HR.set 6 (.slice (some ⟨b,off+1,none⟩) q (aA-1))).alloc _,(Wr.cell1 w cb 6 _).bH _⟩
theorem HC.SS{w w':World}{ai:Nat}{own:Nat->Prop}{cb hb:Nat}{ah:Int}{s s':St}{inv zh outv aU:Value}{rb:Nat->Nat}(h:HC w ai own cb hb ah s inv outv aU rb)(hs:mU cb ah s' zh outv w w')(h1:uB w ai zh s'.inp)(h2:s'.out=s.out)(h3:s'.mem=s.mem):
  HC w' ai own cb hb ah s' zh outv aU rb:=by
 obtain⟨hr,hw⟩:=hs;have gX:=h.own cb h.En;have hne:∀g cs t,Row w g cs t->t≠62->¬g=cb:=λg cs t hr' ht e=>by subst e;exact hr'.ne h.clk ht rfl
 refine⟨hr,h.heap.wr hw (hne _ _ _ h.heap (by decide)),h.En,h.RM,?_,?_,h.sI,?_,h.memo,λk hk=>⟨(h.own k hk).1,fQ (h.own k hk).2 hw.size⟩⟩
 ·exact h1.below (λb o hb'=>World.cell?_of_block (a:=⟨b,o,none⟩) (hw.block b (by omega) (λhf=>by omega)))
 ·rw[h2];refine aF h.out hw (λg hg=>?_);obtain⟨_,cs,hr'⟩:=aC h.out hg;exact hne g cs _ hr' (by decide)
 ·rw[h3];refine h.mem.wr hw (λg hg=>?_) (λk hk=>?_)
  ·obtain⟨⟨xs,hx,_⟩,_⟩:=h.mem;obtain⟨_,cs,hr'⟩:=aC hx hg;exact hne g cs _ hr' (by decide)
  ·obtain⟨_,cs,hr'⟩:=h.mem.get hk;exact hne _ cs _ hr' (by decide)
theorem UC{ai:Nat}{own:Nat->Prop}{cb hb:Nat}{ah:Int}{s:St}{w:World}(n:Int)(h:iH w ai own cb hb ah s)(hl:s.out.length<=1000000000):
  Calls prog 83 #[.pointer (some ⟨cb,0,none⟩),.agg #[.int .i64 0,.int .i64 n]] w λe w'=>e= .returned (.bool true)/\∃own':Nat->Prop,(∀k,own k->own' k)/\(∀k,own' k->own k\/w.heap.size<=k)/\iH w' ai own' cb hb ah {s with out:=s.out++[n]}/\Wr own w w':=by
 obtain⟨inv,outv,aU,rb,h⟩:=h;have hbs:=h.pos;refine(RH cb ai ah s inv outv n w h.clk h.out hl hbs).mono ?_;rintro e w' ⟨he,yA,hrow,hout,ja,hw⟩;have Po:∀g,outv.ownBlock=some g->∃cs,Row w g cs 2:=λg hg=>(aC h.out hg).2;have hne:∀g cs t,Row w g cs t->t≠2->t≠62->¬(outv.ownBlock=some g\/g=cb):=by
  rintro g cs t hr t1 t2 (hf|rfl)
  ·obtain⟨cs',hr'⟩:=Po g hf;exact hr.ne hr' t1 rfl
  ·exact hr.ne h.clk t2 rfl
 have gX:=h.own cb h.En;refine⟨he,λk=>own k\/yA.ownBlock=some k,λk hk=>aK hk,λk hk=>?_,⟨inv,yA,aU,rb,⟨hrow,h.heap.wr hw (hne _ _ _ h.heap (by decide) (by decide)),aK h.En,aK h.RM,?_,by simpa using hout,λg hg=>bu hg,?_,λg hg=>aK (h.memo g hg),λk hk=>?_⟩⟩,hw.mono (λi hi=>aK ?_)⟩
 ·rcases hk with hk|hk
  ·exact aK hk
  ·rcases(ja k hk).1 with h'|h'
   ·exact aK (h.sI k h')
   ·exact bu h'
 ·exact h.inp.below (λb o hb'=>World.cell?_of_block (a:=⟨b,o,none⟩) (hw.block b (by omega) (λhf=>by rcases hf with hf|hf;have:=h.own b (h.sI b hf);omega;omega)))
 ·have h1:=h.mem.wr hw (λg hg=>by
   obtain⟨⟨xs,hx,_⟩,_⟩:=h.mem;obtain⟨_,cs,hr'⟩:=aC hx hg;exact hne g cs _ hr' (by decide) (by decide)) (λk hk=>by
   obtain⟨_,cs,hr'⟩:=h.mem.get hk;exact hne _ cs _ hr' (by decide) (by decide))
  exact⟨h1.row,λk o ho=>⟨aK (h1.mine k o ho).1,(h1.mine k o ho).2⟩,h1.inj,h1.ok,h1.num⟩
 ·rcases hk with hk|hk
  ·have:=h.own k hk;have:=hw.size;exact⟨by omega,by omega⟩
  ·refine⟨?_,(ja k hk).2⟩;rcases(ja k hk).1 with h'|h'
   ·exact(h.own k (h.sI k h')).1
   ·omega
 ·rcases hi with hi|rfl
  ·exact h.sI i hi
  ·exact h.En
theorem FZ{ai:Nat}{own:Nat->Prop}{cb hb:Nat}{ah:Int}{s:St}{w:World}(v:V)(h:iH w ai own cb hb ah s)(hv:v.obj≠0):
  Calls prog 83 #[.pointer (some ⟨cb,0,none⟩),.agg #[.int .i64 v.obj,.int .i64 v.n]] w λe w'=>vw ai own cb hb ah {s with kind:=3} false w e w':=by
 obtain⟨inv,outv,aU,rb,h⟩:=h;exact(Ms cb ah s inv outv v w h.clk hv).mono λe w'⟨he,hs⟩=>⟨he,⟨inv,outv,aU,rb,h.clock hs rfl rfl rfl⟩,hs.2⟩
def zy(s:St):Int×St:=match s.inp with|[]=>(0,s)|n::r=>(n,{s with inp:=r})
theorem Vn{ai:Nat}{own:Nat->Prop}{cb hb:Nat}{ah:Int}{s:St}{w:World}(h:iH w ai own cb hb ah s):
  Calls prog 84 #[.pointer (some ⟨cb,0,none⟩)] w λe w'=>e= .returned (.agg #[.int .i64 0,.int .i64 (zy s).1])/\iH w' ai own cb hb ah (zy s).2/\Wr (λb=>b=cb) w w':=by
 obtain⟨inv,outv,aU,rb,h⟩:=h;obtain⟨A,aA,hi,h1,h2,h3⟩:=id h.inp;unfold zy;cases hs:s.inp with
 |nil=>
  have hl:s.inp.length=0:=by rw[hs];rfl
  rw[hl]at hi;refine(get_nil cb ah s outv A aA w (hi▸h.clk)).mono λe w'⟨he,hb'⟩=>⟨he,iH.below ⟨inv,outv,aU,rb,h⟩ hb',Wr.of_below hb'⟩
 |cons x l=>
  have hl:s.inp.length=l.length+1:=by rw[hs];rfl
  obtain⟨b,off,rfl,hb',hc⟩:=h3 (by omega);rw[hl]at hi h1;have gX:=h.own cb h.En;have hx:=hc 0 x (by rw[hs];rfl);rw[Nat.add_zero]at hx;refine(SI cb ah s outv b off l.length aA x l w (hi▸h.clk) (by omega) hx.1 h1 h2).mono ?_;rintro e w' ⟨he,zh,hinv,hcs⟩;refine⟨he,⟨zh,outv,aU,rb,?_⟩,hcs.2⟩;have hin:uB w ai zh l:=by
   rcases hinv with rfl|⟨hq,rfl⟩
   ·exact uB.tail (x:=x) (λj y hj=>hc j y (by rw[hs];exact hj)) hb' rfl h1 h2
   ·have:l=[]:=List.eq_nil_of_length_eq_zero hq;subst this;exact uB.empty
  exact h.SS hcs hin rfl rfl
theorem tU(hb n aA B:Nat)(m:Int)(a:V)(A:Option Addr)(M:List MO)(w:World)(hB:B<=w.heap.size)(hpb:hb<w.heap.size)(hc:w.cell? ⟨hb,0,none⟩=some (.slice A n aA))(hM:bU w B A n M)(h0:a.obj≠0)(hk:a.obj<M.length)(hx:0<=a.n/\a.n<=512):
  Calls prog 108 #[.pointer (some ⟨hb,0,none⟩),.agg #[.int .i64 a.obj,.int .i64 a.n],.int .i64 m] w λe w'=>cN (cT M a m) e/\Below w.heap.size w w':=by
 obtain⟨obj,x⟩:=a;rcases obj with _|k
 ·exact absurd rfl h0
 ·simp only at hk hx;show Calls _ _ #[_,.agg #[.int .i64 ((k+1:Nat):Int),.int .i64 x],_] w _;rw[Int.natCast_add,Int.natCast_one];unfold cT;simp only;by_cases hd:(aG M (k+1)).live=true
  ·by_cases h1:m< -x
   ·rw[if_neg (λh=>h.2.1 h1)];exact(OY hb n aA B k x A M w hB hpb hc hM hk hd hx.1 hx.2 m h1).mono λe w'⟨he,aJ⟩=>⟨⟨0,0,he⟩,aJ⟩
   ·by_cases h2:(aG M (k+1)).bytes-x<m
    ·rw[if_neg (λh=>h.2.2 h2)];exact(MD hb n aA B k x A M w hB hpb hc hM hk hd hx.1 hx.2 m h1 h2).mono λe w'⟨he,aJ⟩=>⟨⟨0,0,he⟩,aJ⟩
    ·rw[if_pos ⟨hd,h1,h2⟩];exact(OX hb n aA B k x A M w hB hpb hc hM hk hd hx.1 hx.2 m h1 h2).mono λe w'⟨he,aJ⟩=>⟨by show e=_;rw[he];simp[aO],aJ⟩
  ·rw[if_neg (λh=>hd h.1)];exact(ME hb n aA B k x A M w hB hpb hc hM hk (by simpa using hd) hx.1 hx.2 m).mono λe w'⟨he,aJ⟩=>⟨⟨0,0,he⟩,aJ⟩
def nX(M:List MO)(a:V):Bool:=(aG M a.obj).live && decide (a.n<(aG M a.obj).bytes)
theorem Bo(hb n aA B:Nat)(a:V)(A:Option Addr)(M:List MO)(w:World)(hB:B<=w.heap.size)(hpb:hb<w.heap.size)(hc:w.cell? ⟨hb,0,none⟩=some (.slice A n aA))(hM:bU w B A n M)(h0:a.obj≠0)(hk:a.obj<M.length):
  Calls prog 113 #[.pointer (some ⟨hb,0,none⟩),.agg #[.int .i64 a.obj,.int .i64 a.n]] w λe w'=>e= .returned (.bool (nX M a))/\Below w.heap.size w w':=by
 obtain⟨obj,x⟩:=a;rcases obj with _|k
 ·exact absurd rfl h0
 ·simp only at hk;show Calls _ _ #[_,.agg #[.int .i64 ((k+1:Nat):Int),.int .i64 x]] w _;rw[Int.natCast_add,Int.natCast_one];unfold nX;simp only;by_cases hd:(aG M (k+1)).live=true
  ·by_cases h1:x<(aG M (k+1)).bytes
   ·rw[hd,decide_eq_true h1];exact KV hb n aA B k x A M w hB hpb hc hM hk hd h1
   ·rw[hd,decide_eq_false h1];exact NI hb n aA B k x A M w hB hpb hc hM hk hd h1
  ·have hd':(aG M (k+1)).live=false:=by simpa using hd
   rw[hd',Bool.false_and];exact KW hb n aA B k x A M w hB hpb hc hM hk hd'
theorem M5(hb:Nat)(op:Int)(a:V)(w:World)(h0:31<=op)(h1:op<=36):
  Calls prog 102 #[.pointer (some ⟨hb,0,none⟩),.int .i64 op,.agg #[.int .i64 a.obj,.int .i64 a.n]] w λe w'=>cN (if a.obj=0 then some ⟨0,CN op a.n⟩else none) e/\Below w.heap.size w w':=by
 have hp:decide ((a.obj:Int)>0)=true/\a.obj≠0\/decide ((a.obj:Int)>0)=false/\a.obj=0:=by
  by_cases h:a.obj=0
  ·exact bu ⟨by simp[h],h⟩
  ·exact aK ⟨by simp;omega,h⟩
 rcases hp with⟨hd,hz⟩|⟨hd,hz⟩
 ·rw[if_neg hz];have hd2:decide ((0:Int)<(a.obj:Int))=true:=hd;have hd3:decide (0<a.obj)=true:=by simp;omega
  clear hz;go_enter func102,ntmps102;refine aj λQ HQ=>?_;go_wp2_with fail;refine HQ _ _ _ ?_;refine aS (v:= .tuple #[.agg #[.int .i64 0,.int .i64 0],.bool false]) (by simp[results,results102,go_sem]) rfl ⟨⟨0,0,rfl⟩,?_⟩;exact aB _ _ _
 ·rw[if_pos hz,hz];clear hd hz;go_enter func102,ntmps102;refine aj λQ HQ=>?_;go_wp2_with fail;refine(GW _ _ _ h0 h1).mono ?_;rintro e w2 ⟨rfl,hb2⟩;have bC:=ae ((aB w _ _).trans (hb2.mono (aB w _ _).size));have hr:=(Row.new' (w:=w.alloc (.cells #[.int .i64 0,.int .i64 a.n] 75)) #[.int .i64 0,.int .i64 0] 75 (g:=w.heap.size+1) (by simp)).below hb2 (by simp);have r0:=hr.cell (j:=0) rfl;have r1:=hr.cell (j:=1) rfl;have f0:=hr.free 0;have f1:=hr.free 1;clear hr hb2;go_wp2_with fail;refine HQ _ _ _ ?_;refine aS (v:= .tuple #[.agg #[.int .i64 0,.int .i64 (CN op a.n)],.bool true]) (by simp[results,results102,go_sem,r0,r1]) rfl ⟨rfl,?_⟩;exact(bC.setCell (by simp) _).setCell (by simp) _
theorem eq_25(a b:Int):bF 25 a b=vH (a==b):=by simp[bF,oL,Nq]
theorem Gf(a b:Int):bF 26 a b=vH (a !=b):=by simp[bF,oL,Nq]
theorem Im{M:List MO}{op:Int}{a b:V}(ha:a.obj≠0)(hb:b.obj≠0):dm bF M op a b=
  (if op=25\/op=26 then(if qf M a b=false then none else some ⟨0,bF op (if a=b then 1 else 0) 1⟩)
   else if a.obj≠b.obj\/(aG M a.obj).live=false\/(op≠13/\¬(27<=op/\op<=30))then none else some ⟨0,bF op a.n b.n⟩):=by
 unfold dm;rw[if_neg (by omega),if_neg (by omega),if_neg (by omega),if_neg (by omega)];by_cases h:op=25\/op=26
 ·rw[if_pos h,if_pos h,if_neg (by omega)];by_cases hc:qf M a b=false
  ·rw[if_pos ⟨by omega,by omega,hc⟩,if_pos hc]
  ·rw[if_neg (λh=>hc h.2.2),if_neg hc]
 ·rw[if_neg h,if_neg h]
theorem Qr{M:List MO}{op:Int}{a b:V}(ha:a.obj≠0)(hb:b.obj≠0)(hne:a.obj≠b.obj):dm bF M op a b=if(op=25\/op=26)/\nX M a=true/\nX M b=true then some ⟨0,op-25⟩else none:=by
 rw[Im ha hb];have hab:a≠b:=λh=>hne (by rw[h]);have hc:qf M a b=(nX M a && nX M b):=by
  unfold qf nX;rw[decide_eq_false hne,Bool.false_or];cases (aG M a.obj).live<;>cases (aG M b.obj).live<;>simp
 by_cases h:op=25\/op=26
 ·rw[if_pos h,if_neg hab,hc];cases h1:nX M a<;>cases h2:nX M b<;>simp[h];rcases h with rfl|rfl
  ·rw[eq_25];decide
  ·rw[Gf];decide
 ·rw[if_neg h,if_pos (aK hne),if_neg (λhh=>h hh.1)]
theorem NF{M:List MO}{op:Int}{a b:V}(ha:a.obj≠0)(heq:a.obj=b.obj):dm bF M op a b=if(aG M a.obj).live=true/\(op=25\/op=26\/op=13\/(27<=op/\op<=30))then some ⟨0,bF op a.n b.n⟩else none:=by
 rw[Im ha (by omega)];have hc:qf M a b=(aG M a.obj).live:=by
  unfold qf;rw[<-heq,decide_eq_true (rfl:a.obj=a.obj)];cases (aG M a.obj).live<;>simp
 have hab:(a=b)↔a.n=b.n:=by
  constructor
  ·intro h;rw[h]
  ·intro h;cases a;cases b;simp_all
 by_cases hl:(aG M a.obj).live=true
 ·by_cases h:op=25\/op=26
  ·have e1:(if op=25\/op=26 then(if qf M a b=false then none else some (⟨0,bF op (if a=b then 1 else 0) 1⟩:V))else if a.obj≠b.obj\/(aG M a.obj).live=false\/(op≠13/\¬(27<=op/\op<=30))then none else some ⟨0,bF op a.n b.n⟩)=some ⟨0,bF op (if a=b then 1 else 0) 1⟩:=by
    rw[if_pos h,if_neg (by rw[hc,hl];simp)]
   have e2:(if(aG M a.obj).live=true/\(op=25\/op=26\/op=13\/(27<=op/\op<=30))then some (⟨0,bF op a.n b.n⟩:V)else none)=some ⟨0,bF op a.n b.n⟩:=if_pos ⟨hl,by omega⟩;rw[e1,e2];have e3:bF op (if a=b then 1 else 0) 1=bF op a.n b.n:=by
    rcases h with rfl|rfl
    ·rw[eq_25,eq_25];by_cases hn:a.n=b.n
     ·rw[if_pos (hab.2 hn),hn];simp
     ·have:(a.n==b.n)=false:=by simpa using hn
      rw[if_neg (λhh=>hn (hab.1 hh)),this];rfl
    ·rw[Gf,Gf];by_cases hn:a.n=b.n
     ·rw[if_pos (hab.2 hn),hn];simp
     ·have:(a.n !=b.n)=true:=by simpa using hn
      rw[if_neg (λhh=>hn (hab.1 hh)),this];rfl
   rw[e3]
  ·rw[if_neg h];by_cases h3:op≠13/\¬(27<=op/\op<=30)
   ·rw[if_pos (bu (bu h3)),if_neg (λhh=>by have:=hh.2;omega)]
   ·rw[if_neg (λhh=>by rcases hh with hh|hh|hh;exact hh heq;rw[hl]at hh;cases hh;exact h3 hh),if_pos ⟨hl,by omega⟩]
 ·have hl':(aG M a.obj).live=false:=by simpa using hl
  have e2:(if(aG M a.obj).live=true/\(op=25\/op=26\/op=13\/(27<=op/\op<=30))then some (⟨0,bF op a.n b.n⟩:V)else none)=none:=if_neg (λhh=>hl hh.1);rw[e2];by_cases h:op=25\/op=26
  ·rw[if_pos h,if_pos (by rw[hc,hl'])]
  ·rw[if_neg h,if_pos (bu (aK hl'))]
structure oZ (w W:World) (a b:V):Prop where
 r0:Row W w.heap.size #[.int .i64 a.obj,.int .i64 a.n] 75
 r1:Row W (w.heap.size+1) #[.int .i64 b.obj,.int .i64 b.n] 75
 r2:Row W (w.heap.size+1+1) #[.int .i64 0,.int .i64 0] 75
 below:Below w.heap.size w W
theorem oZ.mk'(w:World)(a b:V):oZ w (((w.alloc (.cells #[.int .i64 a.obj,.int .i64 a.n] 75)).alloc (.cells #[.int .i64 b.obj,.int .i64 b.n] 75)).alloc (.cells #[.int .i64 0,.int .i64 0] 75)) a b:=
 ⟨((Row.new _ _ _).alloc _).alloc _,(Row.new' _ _ (by simp)).alloc _,Row.new' _ _ (by simp),aN _ _ _ _⟩
theorem oZ.grow{w W W':World}{a b:V}(h:oZ w W a b)(hb:Below W.heap.size W W'):oZ w W' a b:=
 ⟨h.r0.below hb h.r0.lt,h.r1.below hb h.r1.lt,h.r2.below hb h.r2.lt,h.below.trans (hb.mono h.below.size)⟩
theorem JI(hb n aA B:Nat)(op:Int)(a b:V)(A:Option Addr)(M:List MO)(w:World)(hB:B<=w.heap.size)(hpb:hb<w.heap.size)(hc:w.cell? ⟨hb,0,none⟩=some (.slice A n aA))(hM:bU w B A n M)(ha:a.obj≠0)(hka:a.obj<M.length)(ZP:b.obj≠0)(hkb:b.obj<M.length)(h0:12<=op)(h1:op<=30)(hne:a.obj≠b.obj):
  Calls prog 107 #[.pointer (some ⟨hb,0,none⟩),.int .i64 op,.agg #[.int .i64 a.obj,.int .i64 a.n],.agg #[.int .i64 b.obj,.int .i64 b.n]] w λe w'=>cN (if(op=25\/op=26)/\nX M a=true/\nX M b=true then some ⟨0,op-25⟩else none) e/\Below w.heap.size w w':=by
 have HA:=ae (λW(aJ:Below w.heap.size w W)=>Bo hb n aA B a A M W (Nat.le_trans hB aJ.size) (fQ hpb aJ.size) (ag hc aJ hpb) (hM.below (aJ.mono hB) (aY _)) ha hka);have Ab:=ae (λW(aJ:Below w.heap.size w W)=>Bo hb n aA B b A M W (Nat.le_trans hB aJ.size) (fQ hpb aJ.size) (ag hc aJ hpb) (hM.below (aJ.mono hB) (aY _)) ZP hkb);have rT:((a.obj:Int) !=(b.obj:Int))=true:=by simp;omega
 have GH:(a.obj !=b.obj)=true:=by simp;exact hne
 have H3:=ae (oZ.mk' w a b);clear hc hM;by_cases hs:op=25\/op=26
 ·obtain⟨qa,XD⟩:∃q,q=nX M a:=⟨_,rfl⟩
  obtain⟨qb,QY⟩:∃q,q=nX M b:=⟨_,rfl⟩
  rw[<-XD]at HA ⊢;rw[<-QY]at Ab ⊢;clear XD QY;have hv:(if(op=25\/op=26)/\qa=true/\qb=true then some (⟨0,op-25⟩:V)else none)=if qa && qb then some ⟨0,op-25⟩else none:=by cases qa<;>cases qb<;>simp[hs]
  rw[hv];clear hv;rcases hs with rfl|rfl
  all_goals
   go_enter func107,ntmps107;refine aj λQ HQ=>?_;go_wp2_with fail;refine(HA _ H3.below).mono ?_;rintro e w1 ⟨rfl,hb1⟩;have H4:=ae (H3.grow hb1);have b0:=H4.r1.cell (j:=0) rfl;have b1:=H4.r1.cell (j:=1) rfl;have r0:=H4.r2.cell (j:=0) rfl;have r1:=H4.r2.cell (j:=1) rfl;have f0:=H4.r2.free 0;have f1:=H4.r2.free 1;clear hb1;cases qa with
   |false=>
    go_wp2_with fail;refine HQ _ _ _ ?_;refine aS (v:= .tuple #[.agg #[.int .i64 0,.int .i64 _],.bool false]) (by simp[results,results107,go_sem,r0,r1];rfl) rfl ⟨⟨_,_,rfl⟩,?_⟩;exact(H4.below.setCell (by simp;try omega) _).setCell (by simp;try omega) _
   |true=>
    go_wp2_with fail;refine(Ab _ H4.below).mono ?_;rintro e w2 ⟨rfl,hb2⟩;have H5:=ae (H4.grow hb2);clear b0 b1 r0 r1 f0 f1;have r0:=H5.r2.cell (j:=0) rfl;have r1:=H5.r2.cell (j:=1) rfl;have f0:=H5.r2.free 0;have f1:=H5.r2.free 1;clear hb2;cases qb with
    |false=>
     go_wp2_with fail;refine HQ _ _ _ ?_;refine aS (v:= .tuple #[.agg #[.int .i64 0,.int .i64 _],.bool false]) (by simp[results,results107,go_sem,r0,r1];rfl) rfl ⟨⟨_,_,rfl⟩,?_⟩;exact(H5.below.setCell (by simp;try omega) _).setCell (by simp;try omega) _
    |true=>
     go_wp2_with fail;refine HQ _ _ _ ?_;refine aS (v:= .tuple #[.agg #[.int .i64 0,.int .i64 _],.bool true]) (by simp[results,results107,go_sem,r0,r1];rfl) rfl ⟨by simp[cN,aO],?_⟩;exact(H5.below.setCell (by simp;try omega) _).setCell (by simp;try omega) _
 ·rw[if_neg (λh=>hs h.1)];have e1:(op==25)=false:=by simp;omega
  have e2:(op==26)=false:=by simp;omega
  clear hs;go_enter func107,ntmps107;refine aj λQ HQ=>?_;go_wp2_with fail;refine HQ _ _ _ ?_;refine aS (v:= .tuple #[.agg #[.int .i64 0,.int .i64 (op-25)],.bool false]) (by simp[results,results107,go_sem]) rfl ⟨⟨_,_,rfl⟩,?_⟩;exact aN _ _ _ _
end Go.Proofs.YtinmgbodgecoeaaGreat
