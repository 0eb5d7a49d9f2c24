/- The graph's heap and clock together: stores, ticks, ends. Conditions: as stated. The graph's clock: Put of a number, Get. Conditions: as stated. The graph's heap: places moved, told apart; One. Conditions: as stated. The graph's heap: ops of two places. Conditions: as stated. -/
import Derived.Test.YtikbdplllopjlaaGreatGMakeZz
set_option linter.unusedVariables false
set_option linter.unusedSimpArgs false
set_option maxHeartbeats 8000000
set_option maxRecDepth 100000
open Go.Proofs.Tryz
namespace Go.Proofs.YtikbdplllopjlaaGreat
open Go.RowKit
theorem HC.remem{w w':World}{ai:Nat}{own own' F:Nat->Prop}{cb hb:Nat}{ah:Int}{s:St}{inv outv aU je:Value}{rb PU:Nat->Nat}{M:List MO}(h:HC w ai own cb hb ah s inv outv aU rb)(hw:Wr F w w')
  (hF:∀k,F k->own k/\∃cs t,Row w k cs t/\(t=72\/t=131\/t=66))(h1:∀k,own k->own' k)(h2:∀k,own' k->own k\/w.heap.size<=k)(h3:∀k,own' k->k<w'.heap.size)
  (hH:Eh w' ai own' hb je PU (au M)):HC w' ai own' cb hb ah {s with mem:=M} inv outv je PU:=by
 have dO:=h.own cb h.yz;have hne:∀g cs t,Row w g cs t->t≠72->t≠131->t≠66->¬F g:=by
  intro g cs t hr t1 t2 t3 hf;obtain⟨_,cs',t',eu,ht'⟩:=hF g hf;rcases ht' with rfl|rfl|rfl
  ·exact hr.ne eu t1 rfl
  ·exact hr.ne eu t2 rfl
  ·exact hr.ne eu t3 rfl
 refine⟨h.clk.wr hw (hne _ _ _ h.clk (by decide) (by decide) (by decide)),hH.heap,h1 _ h.yz,h1 _ h.QH,?_,?_,λg hg=>h1 _ (h.rH g hg),hH.mem,hH.memo,λk hk=>⟨?_,h3 k hk⟩⟩
 ·exact h.inp.below (λb o hb'=>World.cell?_of_block (a:=⟨b,o,none⟩) (hw.block b (by omega) (λhf=>by have:=h.own b (hF b hf).1;omega)))
 ·refine aB h.out hw (λg hg=>?_);obtain⟨_,cs,eu⟩:=aC h.out hg;exact hne g cs _ eu (by decide) (by decide) (by decide)
 ·rcases h2 k hk with h'|h'
  ·exact(h.own k h').1
  ·omega
theorem HC.pos{w:World}{ai:Nat}{own:Nat->Prop}{cb hb:Nat}{ah:Int}{s:St}{inv outv aU:Value}{rb:Nat->Nat}(h:HC w ai own cb hb ah s inv outv aU rb):ai<=w.heap.size:=by have:=h.own cb h.yz;omega
def vJ(ai:Nat)(own:Nat->Prop)(cb hb:Nat)(ah:Int)(s:St)(r:Bool)(w:World)(e:Ending)(w':World):Prop:=
 e= .returned (.bool r)/\gS w' ai own cb hb ah s/\Wr (λb=>b=cb) w w'
section
variable {ai:Nat} {own:Nat->Prop} {cb hb:Nat} {ah:Int} {s:St} {w:World}
theorem iN(n:Int)(h:gS w ai own cb hb ah s)(hk:s.kind=0)(hf:ah<=100000000)(h0:0<=s.steps)(h1:s.steps<=ah)(BO:0<=n)(jw:n<=1000000):
  Calls prog 63 #[.pointer (some ⟨cb,0,none⟩),.int .i64 n] w λe w'=>vJ ai own cb hb ah (aW ah n s).2 (aW ah n s).1 w e w':=by
 obtain⟨inv,outv,aU,rb,h⟩:=h;refine(Ap cb ah n s inv outv w h.clk hk hf h0 h1 BO jw).mono λe w'⟨he,hs⟩=>⟨he,⟨inv,outv,aU,rb,h.clock hs ?_ ?_ ?_⟩,hs.2⟩
 all_goals(unfold aW;(repeat' split)<;>rfl)
theorem Aq(h:gS w ai own cb hb ah s):
  Calls prog 48 #[.pointer (some ⟨cb,0,none⟩)] w λe w'=>vJ ai own cb hb ah {s with kind:=3} false w e w':=by
 obtain⟨inv,outv,aU,rb,h⟩:=h;exact(yt cb ah s inv outv w h.clk).mono λe w'⟨he,hs⟩=>⟨he,⟨inv,outv,aU,rb,h.clock hs rfl rfl rfl⟩,hs.2⟩
theorem NI(h:gS w ai own cb hb ah s)(h0:1<=s.calls)(h1:s.calls<=64):
  Calls prog 47 #[.pointer (some ⟨cb,0,none⟩)] w λe w'=>e= .returned (.tuple #[])/\gS w' ai own cb hb ah {s with calls:=s.calls-1}/\Wr (λb=>b=cb) w w':=by
 obtain⟨inv,outv,aU,rb,h⟩:=h;exact(Lb cb ah s inv outv w h.clk h0 h1).mono λe w'⟨he,hs⟩=>⟨he,⟨inv,outv,aU,rb,h.clock hs rfl rfl rfl⟩,hs.2⟩
theorem QF(n:Int)(h:gS w ai own cb hb ah s)(h1:s.calls=64):
  Calls prog 43 #[.pointer (some ⟨cb,0,none⟩),.int .i64 n] w λe w'=>vJ ai own cb hb ah {s with kind:=4} false w e w':=by
 obtain⟨inv,outv,aU,rb,h⟩:=h;exact(Jb cb ah n s inv outv w h.clk h1).mono λe w'⟨he,hs⟩=>⟨he,⟨inv,outv,aU,rb,h.clock hs rfl rfl rfl⟩,hs.2⟩
theorem FV(n:Int)(h:gS w ai own cb hb ah s)(hk:s.kind=0)(hc0:0<=s.calls)(hc1:s.calls<64)(hf:ah<=100000000)(h0:0<=s.steps)(h1:s.steps<=ah)(BO:0<=n)(jw:n<=1000000):
  Calls prog 43 #[.pointer (some ⟨cb,0,none⟩),.int .i64 n] w λe w'=>vJ ai own cb hb ah (aW ah n {s with calls:=s.calls+1,deep:=max s.deep (s.calls+1)}).2 (aW ah n {s with calls:=s.calls+1,deep:=max s.deep (s.calls+1)}).1 w e w':=by
 obtain⟨inv,outv,aU,rb,h⟩:=h;refine(LU cb ah n s inv outv w h.clk hk hc0 hc1 hf h0 h1 BO jw).mono λe w'⟨he,hs⟩=>⟨he,⟨inv,outv,aU,rb,h.clock hs ?_ ?_ ?_⟩,hs.2⟩
 all_goals(unfold aW;(repeat' split)<;>rfl)
theorem J8(v:V)(h:gS w ai own cb hb ah s):
  Calls prog 27 #[.pointer (some ⟨cb,0,none⟩),.agg #[.int .i64 v.obj,.int .i64 v.n]] w λe w'=>vJ ai own cb hb ah (if v.obj>0 then {s with kind:=3}else {s with code:=v.n,kind:=1}) false w e w':=by
 obtain⟨inv,outv,aU,rb,h⟩:=h;by_cases hv:v.obj=0
 ·rw[if_neg (by omega)];exact(O0 cb ah s inv outv v w h.clk hv).mono λe w'⟨he,hs⟩=>⟨he,⟨inv,outv,aU,rb,h.clock hs rfl rfl rfl⟩,hs.2⟩
 ·rw[if_pos (by omega)];exact(I7 cb ah s inv outv v w h.clk hv).mono λe w'⟨he,hs⟩=>⟨he,⟨inv,outv,aU,rb,h.clock hs rfl rfl rfl⟩,hs.2⟩
end
def su(ai:Nat)(own:Nat->Prop)(cb hb:Nat)(ah:Int)(s:St)(r:Option (List MO))(w:World)(e:Ending)(w':World):Prop:=
 e= .returned (.bool r.isSome)/\gS w' ai own cb hb ah (match r with|some M=>{s with mem:=M}|none=>s)/\Wr own w w'
theorem EK{ai:Nat}{own:Nat->Prop}{cb hb:Nat}{ah:Int}{s:St}{w:World}(sz:Nat)(a x:V)(h:gS w ai own cb hb ah s)(ha:lY (au s.mem).length a)(hx:lY (au s.mem).length x)(hs:sz=1\/sz=2\/sz=4\/sz=8):
  Calls prog 78 #[.pointer (some ⟨hb,0,none⟩),.int .i64 sz,.agg #[.int .i64 a.obj,.int .i64 a.n],.agg #[.int .i64 x.obj,.int .i64 x.n]] w λe w'=>su ai own cb hb ah s (cS s.mem sz a x) w e w':=by
 obtain⟨inv,outv,aU,rb,h⟩:=h;obtain⟨A,aA,rfl,DG⟩:=h.mem.Tk;have hhb:=h.heap.lt;have hc:=h.heap.cell (j:=0) rfl;have Im:cS s.mem sz a x=none/\cS (au s.mem) sz a x=none\/∃M,cS s.mem sz a x=some M/\cS (au s.mem) sz a x=some (au M):=by
  have:=zk s.mem sz a x;cases hS:cS s.mem sz a x with
  |none=>rw[hS]at this;exact aH ⟨rfl,this⟩
  |some M=>rw[hS]at this;exact aT ⟨M,rfl,this⟩
 have no:cS (au s.mem) sz a x=none->∀e w',(e= .returned (.bool false)/\Below w.heap.size w w')->su ai own cb hb ah s (cS s.mem sz a x) w e w':=by
  intro hn e w' ⟨he,hb'⟩;rcases Im with⟨e1,_⟩|⟨M,_,e2⟩
  ·rw[e1];exact⟨he,gS.below ⟨inv,outv,_,rb,h⟩ hb',Wr.of_below hb'⟩
  ·rw[hn]at e2;cases e2
 have htn:((sz:Int)).toNat=sz:=Int.toNat_natCast _;cases hF:qL (au s.mem) a sz with
 |none=>
  refine(Fh hb A _ aA w.heap.size sz a x (au s.mem) w (aN _) hhb hc DG (λh=>ha.1) ha.2.1 (by omega) (by omega) hF).mono λe w' hh=>no ?_ e w' hh;unfold cS;rw[htn,hF]
 |some j=>
  obtain⟨hp,Om,hsz,_,_,_⟩:=xP hF;obtain⟨EA,ob,oo,mb,mo,len,cap',hA,h1,oD,hv,_⟩:=xw hb A _ aA w.heap.size sz j a (au s.mem) w (aN _) hhb hc DG ha.1 (ha.2.1 (by omega)) (by omega) (by omega) hF;have HT:=Lp hb A _ aA w.heap.size sz j a (au s.mem) w (aN _) hhb hc DG ha.1 (ha.2.1 (by omega)) (by omega) (by omega) hF mb mo ob oo len cap' hA h1;obtain⟨k,hk⟩:∃k,a.obj=k+1:=⟨a.obj-1,by omega⟩
  have UM:k<(au s.mem).tail.length:=by have:=ha.1;rw[List.length_tail];omega
  have mO:(au s.mem).tail[k]? =some (aF (au s.mem) (k+1)):=by rw[List.getElem?_tail];exact oz (by have:=ha.1;omega)
  obtain⟨g,hAg,hcg⟩:=h.mem.QI UM (hk▸Om);subst hA;simp only[Option.some.injEq,Addr.mk.injEq,and_true]at hAg;obtain⟨rfl,rfl⟩:=hAg;rw[hk,show 0+(k+1-1)*3+1=k*3+1 by omega,hcg]at h1;simp only[Option.some.injEq,Value.slice.injEq,Addr.mk.injEq,and_true]at h1;obtain⟨⟨rfl,rfl⟩,_,_⟩:=h1;obtain⟨hown,cs,hrow,jh⟩:=h.mem.mine k _ mO;have hjl':j<(aF (au s.mem) (k+1)).l.length:=hk▸EA;obtain⟨c0,c1⟩:=jh.2 j _ (List.getElem?_eq_getElem hjl');have hc0:=hrow.cell c0;have hc1:=hrow.cell c1;rw[Nat.zero_add]at HT;have hne:∀g cs' t,Row w g cs' t->t≠72->g≠rb k:=λg cs' t hr ht e=>hr.ne hrow ht e;have X0:(Value.slice (some ⟨mb,0,none⟩) (au s.mem).tail.length aA).ownBlock≠some (rb k):=by
   intro e;obtain⟨⟨xs,hx0,_⟩,_⟩:=h.mem;obtain⟨_,cs',eu⟩:=aC hx0 e;exact eu.ne hrow (by decide) rfl
  have fin:∀v:V,lY (au s.mem).length v->((aF (au s.mem) (k+1)).size≠8->v.obj=0)->cS (au s.mem) sz a x=some ((au s.mem).modify (k+1) (Hj j v))->∀e w',yQ (rb k) (j*2) v w e w'->su ai own cb hb ah s (cS s.mem sz a x) w e w':=by
   rintro v hv Iu hst e w' ⟨he,W,MZ,rfl⟩;rcases Im with⟨_,e2⟩|⟨M,e1,e2⟩
   ·rw[hst]at e2;cases e2
   ·rw[hst]at e2;simp only[Option.some.injEq]at e2;rw[e1];have h':=h.wr (F:=λ_=>False) (Wr.of_below MZ) (λ_ h=>h.elim);have Tu:=hrow.below MZ hrow.lt;have hw2:=eB W (rb k) (j*2) (j*2+1) (.int .i64 v.obj) (.int .i64 v.n);have hput:=h'.mem.put k j v UM hv Iu (hk▸Om) X0;rw[e2]at hput;refine⟨he,⟨inv,outv,_,rb,HC.remem (own':=own) (M:=M) h' hw2 (λi hi=>?_) (λ_ h=>h) (λ_ h=>aH h) (λi hi=>?_) ⟨?_,hput,h.memo⟩⟩,?_⟩
    ·exact⟨hi▸hown,_,_,hi▸Tu,aH rfl⟩
    ·have:=(h'.own i hi).2;simpa using this
    ·exact h'.heap.wr hw2 (λe=>h'.heap.ne Tu (by decide) e)
    ·exact(Wr.of_below (F:=own) MZ).trans hw2 (λi hi=>aH (hi▸hown))
  have Ux:cS (au s.mem) sz a x=if x.obj>0/\(sz:Int)≠8 then none else some ((au s.mem).modify (k+1) (Hj j (if x.obj=0 then⟨0,eC sz x.n⟩else x))):=by
   unfold cS;rw[htn,hF,hk];rfl
  by_cases hx0:x.obj=0
  ·obtain⟨xo,xn⟩:=x;simp only at hx0;subst hx0;refine(Ii hb (rb k) (j*2) sz a xn _ _ w HT hs hx.2.2 oD hc0 hc1 (λj=>hrow.free j)).mono (fin _ ⟨?_,λh=>absurd rfl h,rM hx.2.2⟩ (λ_=>rfl) ?_)
   ·exact dY _
   ·rw[Ux,if_neg (by simp)];simp
  ·by_cases h8:sz=8
   ·subst h8;refine(Dv hb (rb k) (j*2) a x _ _ w HT hx0 oD hc0 hc1 (λj=>hrow.free j)).mono (fin _ hx (λhne8=>?_) ?_)
    ·rw[hk]at hsz;exact absurd hsz hne8
    ·rw[Ux,if_neg (by simp),if_neg hx0]
   ·refine(Ij hb (rb k) (j*2) sz a x w HT hx0 h8).mono (no ?_);rw[Ux,if_pos ⟨by omega,by omega⟩]
end Go.Proofs.YtikbdplllopjlaaGreat
namespace Go.Proofs.YtikbdplllopjlaaGreat
open Go.RowKit
theorem K7:(prog.info? 2).map (λi=>(i.zero,i.size,i.bytes))=some (some (.int .i64 0),1,8):=by kernel_rfl
theorem QR(a:Int):∀u:Value,u∈[Value.int .i64 a]->u.oneCell'=true:=by
 intro u hu;simp at hu;subst hu;rfl
def SL(ai cb:Nat)(ah:Int)(s:St)(inv outv:Value)(n:Int)(w:World)(e:Ending)(w':World):Prop:=
 e= .returned (.bool true)/\∃CR,Row w' cb (iG ah {s with out:=s.out++[n]} inv CR) 62/\w'.ownsRow ai 2 1 CR (s.out.length+1) ((s.out++[n]).map (Value.int .i64))/\
  (∀g,CR.ownBlock=some g->(outv.ownBlock=some g\/w.heap.size<=g)/\g<w'.heap.size)/\Wr (λk=>outv.ownBlock=some k\/k=cb) w w'
theorem QD(cb ai:Nat)(ah:Int)(s:St)(inv outv:Value)(n:Int)(w:World)(hr:Row w cb (iG ah s inv outv) 62)(ho:w.ownsRow ai 2 1 outv s.out.length (s.out.map (Value.int .i64)))(hl:s.out.length<=1000000000)(kE:ai<=w.heap.size):
  Calls prog 79 #[.pointer (some ⟨cb,0,none⟩),.agg #[.int .i64 0,.int .i64 n]] w λe w'=>SL ai cb ah s inv outv n w e w':=by
 obtain⟨q,zP⟩:∃q,q=s.out.length:=⟨_,rfl⟩
 have VR:=ae zP;rw[<-zP]at ho hl;obtain⟨A1,eT,Fl⟩:∃A1 eT,outv= .slice A1 q eT:=(by obtain⟨_,h|⟨g,c,cur,h,_⟩⟩:=id ho;exact⟨none,0,by rw[h.1,h.2]⟩;exact⟨_,_,h⟩)
 subst Fl;have zy:∀g,(Value.slice A1 q eT).ownBlock=some g->ai<=g/\∃cs',Row w g cs' 2:=λg h=>aC ho h;have c2:w.cell? ⟨cb,2,none⟩=some (.slice A1 q eT):=hr.cell rfl;have f2:=hr.free 2;have hlt:=hr.lt;have mA:cb<w.heap.size+1:=by omega
 have HR:=ae hr;have HO:=ae ho;have Zp:=ae (show¬(Value.slice A1 q eT).ownBlock=some cb from λe=>by obtain⟨_,cs',eu⟩:=zy _ e;exact eu.ne hr (by decide) rfl);have yS:=ae zy;obtain⟨xs,nV⟩:∃xs,xs=s.out.map (Value.int .i64):=⟨_,rfl⟩
 have HXS:=ae nV;rw[<-nV]at HO;obtain⟨i0,hi,hz0,hz1,hz2⟩:=info_parts K7;have UR:∀o o',((w.alloc o).alloc o').frozen? ⟨cb,2,none⟩=false:=λo o'=>((HR.alloc o).alloc o').free 2;have UQ:∀o o',((w.alloc o).alloc o').drew.frozen? ⟨cb,2,none⟩=false:=λo o'=>(((HR.alloc o).alloc o').drew).free 2;clear zP hr ho zy nV;go_enter func79,ntmps79;go_wp2_with fail;go_region_law
  ((refine step_append_lies _ (by rfl) _ _ _ (by rfl) ai 2 i0 _ 1 8 underlying23 hi hz0 hz1 hz2 rfl (by omega) _ _ _ (by rfl) (rN ((aB HO (di (aj w (.cells #[.int .i64 0,.int .i64 n] 72))) (λ_ _ h=>h))) _) ⟨w.heap.size+1,0,none⟩ 1 1 [.int .i64 n] (by rfl) (by rfl) (ny _ _ _ _ (by simp)) (QR _) (by omega) (by unfold maxLen;omega) (by omega) (by simp;omega) (w.heap.size+1+1) (by simp) ?_;intro gg fC w2 hown2 hgrow hat xe;have hq:=(((HR.alloc (.cells #[.int .i64 0,.int .i64 n] 72)).alloc (.cells #[.int .i64 n] 2)).drew).wr (Wr.grown (F:=λk=>(Value.slice A1 q eT).ownBlock=some k) hgrow (λk hk=>hk)) Zp.out;have jZ:w2.cell? ⟨cb,2,none⟩=some (.slice A1 q eT):=hq.cell rfl;have Dx:=hq.free 2;have SS:=ae hq;have MN:=ae hgrow;have yT:=ae hown2;have s7:=ae hat;clear hq hgrow hown2 hat))
 all_goals go_wp2_with fail
 all_goals go_ret
 all_goals
  refine⟨rfl,.slice (some ⟨gg,0,none⟩) (q+1) fC,SS.set 2 _,?_,λg hg=>?_,?_⟩
  ·rw[<-VR.out,List.map_append,<-HXS.out];refine aB yT (Wr.cell1 w2 cb 2 _) (λg hg e=>?_);obtain⟨_,cs',eu⟩:=aC yT.out hg;exact eu.ne SS (by decide) e
  ·simp only[Value.ownBlock,Option.some.injEq]at hg;subst hg;refine⟨?_,by simpa using xe⟩;rcases s7.out with h|h
   ·exact aH h
   ·exact aT (by omega)
  ·exact(((Wr.of_below (aJ w (.cells #[.int .i64 0,.int .i64 n] 72) (.cells #[.int .i64 n] 2)).drew).trans (Wr.grown (F:=λk=>(Value.slice A1 q eT).ownBlock=some k) MN (λk hk=>hk)) (λi hi=>aH (aH hi)))).trans (Wr.cell1 w2 cb 2 _) (λi hi=>aH (aT hi))
theorem get_nil(cb:Nat)(ah:Int)(s:St)(outv:Value)(A:Option Addr)(aA:Nat)(w:World)(hr:Row w cb (iG ah s (.slice A 0 aA) outv) 62):
  Calls prog 80 #[.pointer (some ⟨cb,0,none⟩)] w λe w'=>e= .returned (.agg #[.int .i64 0,.int .i64 0])/\Below w.heap.size w w':=by
 have c6:w.cell? ⟨cb,6,none⟩=some (.slice A 0 aA):=hr.cell rfl;have hlt:=hr.lt;have mA:cb<w.heap.size+1:=by omega
 clear hr;go_enter func80,ntmps80;refine ak λQ HQ=>?_;go_wp2_with fail;refine HQ _ _ _ ?_;refine aR (v:= .agg #[.int .i64 0,.int .i64 0]) (by simp[results,results80,go_sem]) rfl ⟨rfl,?_⟩;exact aj _ _
theorem RD(cb:Nat)(ah:Int)(s:St)(outv:Value)(b off q aA:Nat)(x:Int)(l:List Int)(w:World)(hr:Row w cb (iG ah s (.slice (some ⟨b,off,none⟩) (q+1) aA) outv) 62)(hb:b<w.heap.size)(hc:w.cell? ⟨b,off,none⟩=some (.int .i64 x))(Ck:q+1<=aA)(J3:aA<=9223372036854775807):
  Calls prog 80 #[.pointer (some ⟨cb,0,none⟩)] w λe w'=>e= .returned (.agg #[.int .i64 0,.int .i64 x])/\∃B8,(B8= .slice (some ⟨b,off+1,none⟩) q (aA-1)\/(q=0/\B8= .slice (some ⟨b,off,none⟩) 0 0))/\kK cb ah {s with inp:=l} B8 outv w w':=by
 have c6:w.cell? ⟨cb,6,none⟩=some (.slice (some ⟨b,off,none⟩) (q+1) aA):=hr.cell rfl;have f6:=hr.free 6;have hlt:=hr.lt;have mA:cb<w.heap.size+1:=by omega
 have MW:b<w.heap.size+1:=by omega
 have hne:¬cb=w.heap.size:=by omega
 have Cg:¬w.heap.size=cb:=by omega
 have jZ:(((q:Int)+1)==0)=false:=by simp;omega
 have Dx:(0:Int)<(q:Int)+1:=by omega
 have XP:(1:Int)<=(q:Int)+1:=by omega
 have HR:=ae hr;clear hr;go_enter func80,ntmps80;refine ak λQ HQ=>?_;go_wp2_with fail
 ·subst h;obtain rfl:q=0:=by omega
  refine HQ _ _ _ ?_;refine aR (v:= .agg #[.int .i64 0,.int .i64 x]) (by simp[results,results80,go_sem,Cg]) rfl ⟨rfl,_,aT ⟨rfl,rfl⟩,?_⟩;exact⟨(HR.set 6 (.slice (some ⟨b,off,none⟩) 0 0)).alloc _,(Wr.cell1 w cb 6 _).eA _⟩
 ·refine HQ _ _ _ ?_;refine aR (v:= .agg #[.int .i64 0,.int .i64 x]) (by simp[results,results80,go_sem,Cg]) rfl ⟨rfl,_,aH rfl,?_⟩;exact⟨(HR.set 6 (.slice (some ⟨b,off+1,none⟩) q (aA-1))).alloc _,(Wr.cell1 w cb 6 _).eA _⟩
theorem HC.RO{w w':World}{ai:Nat}{own:Nat->Prop}{cb hb:Nat}{ah:Int}{s s':St}{inv B8 outv aU:Value}{rb:Nat->Nat}(h:HC w ai own cb hb ah s inv outv aU rb)(hs:kK cb ah s' B8 outv w w')(h1:vE w ai B8 s'.inp)(h2:s'.out=s.out)(h3:s'.mem=s.mem):
  HC w' ai own cb hb ah s' B8 outv aU rb:=by
 obtain⟨hr,hw⟩:=hs;have dO:=h.own cb h.yz;have hne:∀g cs t,Row w g cs t->t≠62->¬g=cb:=λg cs t eu ht e=>by subst e;exact eu.ne h.clk ht rfl
 refine⟨hr,h.heap.wr hw (hne _ _ _ h.heap (by decide)),h.yz,h.QH,?_,?_,h.rH,?_,h.memo,λk hk=>⟨(h.own k hk).1,kL (h.own k hk).2 hw.size⟩⟩
 ·exact h1.below (λb o hb'=>World.cell?_of_block (a:=⟨b,o,none⟩) (hw.block b (by omega) (λhf=>by omega)))
 ·rw[h2];refine aB h.out hw (λg hg=>?_);obtain⟨_,cs,eu⟩:=aC h.out hg;exact hne g cs _ eu (by decide)
 ·rw[h3];refine h.mem.wr hw (λg hg=>?_) (λk hk=>?_)
  ·obtain⟨⟨xs,hx,_⟩,_⟩:=h.mem;obtain⟨_,cs,eu⟩:=aC hx hg;exact hne g cs _ eu (by decide)
  ·obtain⟨_,cs,eu⟩:=h.mem.get hk;exact hne _ cs _ eu (by decide)
theorem Uk{ai:Nat}{own:Nat->Prop}{cb hb:Nat}{ah:Int}{s:St}{w:World}(n:Int)(h:gS w ai own cb hb ah s)(hl:s.out.length<=1000000000):
  Calls prog 79 #[.pointer (some ⟨cb,0,none⟩),.agg #[.int .i64 0,.int .i64 n]] w λe w'=>e= .returned (.bool true)/\∃own':Nat->Prop,(∀k,own k->own' k)/\(∀k,own' k->own k\/w.heap.size<=k)/\gS w' ai own' cb hb ah {s with out:=s.out++[n]}/\Wr own w w':=by
 obtain⟨inv,outv,aU,rb,h⟩:=h;have kE:=h.pos;refine(QD cb ai ah s inv outv n w h.clk h.out hl kE).mono ?_;rintro e w' ⟨he,CR,hrow,hout,oD,hw⟩;have N0:∀g,outv.ownBlock=some g->∃cs,Row w g cs 2:=λg hg=>(aC h.out hg).2;have hne:∀g cs t,Row w g cs t->t≠2->t≠62->¬(outv.ownBlock=some g\/g=cb):=by
  rintro g cs t hr t1 t2 (hf|rfl)
  ·obtain⟨cs',eu⟩:=N0 g hf;exact hr.ne eu t1 rfl
  ·exact hr.ne h.clk t2 rfl
 have dO:=h.own cb h.yz;refine⟨he,λk=>own k\/CR.ownBlock=some k,λk hk=>aH hk,λk hk=>?_,⟨inv,CR,aU,rb,⟨hrow,h.heap.wr hw (hne _ _ _ h.heap (by decide) (by decide)),aH h.yz,aH h.QH,?_,by simpa using hout,λg hg=>aT hg,?_,λg hg=>aH (h.memo g hg),λk hk=>?_⟩⟩,hw.mono (λi hi=>aH ?_)⟩
 ·rcases hk with hk|hk
  ·exact aH hk
  ·rcases(oD k hk).1 with h'|h'
   ·exact aH (h.rH k h')
   ·exact aT h'
 ·exact h.inp.below (λb o hb'=>World.cell?_of_block (a:=⟨b,o,none⟩) (hw.block b (by omega) (λhf=>by rcases hf with hf|hf;have:=h.own b (h.rH b hf);omega;omega)))
 ·have h1:=h.mem.wr hw (λg hg=>by
   obtain⟨⟨xs,hx,_⟩,_⟩:=h.mem;obtain⟨_,cs,eu⟩:=aC hx hg;exact hne g cs _ eu (by decide) (by decide)) (λk hk=>by
   obtain⟨_,cs,eu⟩:=h.mem.get hk;exact hne _ cs _ eu (by decide) (by decide))
  exact⟨h1.row,λk o ho=>⟨aH (h1.mine k o ho).1,(h1.mine k o ho).2⟩,h1.inj,h1.ok,h1.num⟩
 ·rcases hk with hk|hk
  ·have:=h.own k hk;have:=hw.size;exact⟨by omega,by omega⟩
  ·refine⟨?_,(oD k hk).2⟩;rcases(oD k hk).1 with h'|h'
   ·exact(h.own k (h.rH k h')).1
   ·omega
 ·rcases hi with hi|rfl
  ·exact h.rH i hi
  ·exact h.yz
theorem EU{ai:Nat}{own:Nat->Prop}{cb hb:Nat}{ah:Int}{s:St}{w:World}(v:V)(h:gS w ai own cb hb ah s)(hv:v.obj≠0):
  Calls prog 79 #[.pointer (some ⟨cb,0,none⟩),.agg #[.int .i64 v.obj,.int .i64 v.n]] w λe w'=>vJ ai own cb hb ah {s with kind:=3} false w e w':=by
 obtain⟨inv,outv,aU,rb,h⟩:=h;exact(KP cb ah s inv outv v w h.clk hv).mono λe w'⟨he,hs⟩=>⟨he,⟨inv,outv,aU,rb,h.clock hs rfl rfl rfl⟩,hs.2⟩
def I1(s:St):Int×St:=match s.inp with|[]=>(0,s)|n::r=>(n,{s with inp:=r})
theorem U8{ai:Nat}{own:Nat->Prop}{cb hb:Nat}{ah:Int}{s:St}{w:World}(h:gS w ai own cb hb ah s):
  Calls prog 80 #[.pointer (some ⟨cb,0,none⟩)] w λe w'=>e= .returned (.agg #[.int .i64 0,.int .i64 (I1 s).1])/\gS w' ai own cb hb ah (I1 s).2/\Wr (λb=>b=cb) w w':=by
 obtain⟨inv,outv,aU,rb,h⟩:=h;obtain⟨A,aA,hi,h1,h2,h3⟩:=id h.inp;unfold I1;cases hs:s.inp with
 |nil=>
  have hl:s.inp.length=0:=by rw[hs];rfl
  rw[hl]at hi;refine(get_nil cb ah s outv A aA w (hi▸h.clk)).mono λe w'⟨he,hb'⟩=>⟨he,gS.below ⟨inv,outv,aU,rb,h⟩ hb',Wr.of_below hb'⟩
 |cons x l=>
  have hl:s.inp.length=l.length+1:=by rw[hs];rfl
  obtain⟨b,off,rfl,hb',hc⟩:=h3 (by omega);rw[hl]at hi h1;have dO:=h.own cb h.yz;have hx:=hc 0 x (by rw[hs];rfl);rw[Nat.add_zero]at hx;refine(RD cb ah s outv b off l.length aA x l w (hi▸h.clk) (by omega) hx.1 h1 h2).mono ?_;rintro e w' ⟨he,B8,hinv,hcs⟩;refine⟨he,⟨B8,outv,aU,rb,?_⟩,hcs.2⟩;have gZ:vE w ai B8 l:=by
   rcases hinv with rfl|⟨hq,rfl⟩
   ·exact vE.tail (x:=x) (λj y hj=>hc j y (by rw[hs];exact hj)) hb' rfl h1 h2
   ·have:l=[]:=List.eq_nil_of_length_eq_zero hq;subst this;exact vE.empty
  exact h.RO hcs gZ rfl rfl
theorem sM(hb n aA B:Nat)(m:Int)(a:V)(A:Option Addr)(M:List MO)(w:World)(hB:B<=w.heap.size)(aZ:hb<w.heap.size)(hc:w.cell? ⟨hb,0,none⟩=some (.slice A n aA))(hM:cB w B A n M)(h0:a.obj≠0)(hk:a.obj<M.length)(hx:0<=a.n/\a.n<=512):
  Calls prog 104 #[.pointer (some ⟨hb,0,none⟩),.agg #[.int .i64 a.obj,.int .i64 a.n],.int .i64 m] w λe w'=>cH (dD M a m) e/\Below w.heap.size w w':=by
 obtain⟨obj,x⟩:=a;rcases obj with _|k
 ·exact absurd rfl h0
 ·simp only at hk hx;show Calls _ _ #[_,.agg #[.int .i64 ((k+1:Nat):Int),.int .i64 x],_] w _;rw[Int.natCast_add,Int.natCast_one];unfold dD;simp only;by_cases hd:(aF M (k+1)).live=true
  ·by_cases h1:m< -x
   ·rw[if_neg (λh=>h.2.1 h1)];exact(NC hb n aA B k x A M w hB aZ hc hM hk hd hx.1 hx.2 m h1).mono λe w'⟨he,aG⟩=>⟨⟨0,0,he⟩,aG⟩
   ·by_cases h2:(aF M (k+1)).bytes-x<m
    ·rw[if_neg (λh=>h.2.2 h2)];exact(K3 hb n aA B k x A M w hB aZ hc hM hk hd hx.1 hx.2 m h1 h2).mono λe w'⟨he,aG⟩=>⟨⟨0,0,he⟩,aG⟩
    ·rw[if_pos ⟨hd,h1,h2⟩];exact(NB hb n aA B k x A M w hB aZ hc hM hk hd hx.1 hx.2 m h1 h2).mono λe w'⟨he,aG⟩=>⟨by show e=_;rw[he];simp[aI],aG⟩
  ·rw[if_neg (λh=>hd h.1)];exact(K4 hb n aA B k x A M w hB aZ hc hM hk (by simpa using hd) hx.1 hx.2 m).mono λe w'⟨he,aG⟩=>⟨⟨0,0,he⟩,aG⟩
def lS(M:List MO)(a:V):Bool:=(aF M a.obj).live && decide (a.n<(aF M a.obj).bytes)
theorem Bp(hb n aA B:Nat)(a:V)(A:Option Addr)(M:List MO)(w:World)(hB:B<=w.heap.size)(aZ:hb<w.heap.size)(hc:w.cell? ⟨hb,0,none⟩=some (.slice A n aA))(hM:cB w B A n M)(h0:a.obj≠0)(hk:a.obj<M.length):
  Calls prog 120 #[.pointer (some ⟨hb,0,none⟩),.agg #[.int .i64 a.obj,.int .i64 a.n]] w λe w'=>e= .returned (.bool (lS M a))/\Below w.heap.size w w':=by
 obtain⟨obj,x⟩:=a;rcases obj with _|k
 ·exact absurd rfl h0
 ·simp only at hk;show Calls _ _ #[_,.agg #[.int .i64 ((k+1:Nat):Int),.int .i64 x]] w _;rw[Int.natCast_add,Int.natCast_one];unfold lS;simp only;by_cases hd:(aF M (k+1)).live=true
  ·by_cases h1:x<(aF M (k+1)).bytes
   ·rw[hd,decide_eq_true h1];exact Jw hb n aA B k x A M w hB aZ hc hM hk hd h1
   ·rw[hd,decide_eq_false h1];exact MC hb n aA B k x A M w hB aZ hc hM hk hd h1
  ·have Yr:(aF M (k+1)).live=false:=by simpa using hd
   rw[Yr,Bool.false_and];exact Jx hb n aA B k x A M w hB aZ hc hM hk Yr
theorem LD(hb:Nat)(op:Int)(a:V)(w:World)(h0:31<=op)(h1:op<=36):
  Calls prog 84 #[.pointer (some ⟨hb,0,none⟩),.int .i64 op,.agg #[.int .i64 a.obj,.int .i64 a.n]] w λe w'=>cH (if a.obj=0 then some ⟨0,EH op a.n⟩else none) e/\Below w.heap.size w w':=by
 have hp:decide ((a.obj:Int)>0)=true/\a.obj≠0\/decide ((a.obj:Int)>0)=false/\a.obj=0:=by
  by_cases h:a.obj=0
  ·exact aT ⟨by simp[h],h⟩
  ·exact aH ⟨by simp;omega,h⟩
 rcases hp with⟨hd,hz⟩|⟨hd,hz⟩
 ·rw[if_neg hz];have zQ:decide ((0:Int)<(a.obj:Int))=true:=hd;have GR:decide (0<a.obj)=true:=by simp;omega
  clear hz;go_enter func84,ntmps84;refine ak λQ HQ=>?_;go_wp2_with fail;refine HQ _ _ _ ?_;refine aR (v:= .tuple #[.agg #[.int .i64 0,.int .i64 0],.bool false]) (by simp[results,results84,go_sem]) rfl ⟨⟨0,0,rfl⟩,?_⟩;exact aJ _ _ _
 ·rw[if_pos hz,hz];clear hd hz;go_enter func84,ntmps84;refine ak λQ HQ=>?_;go_wp2_with fail;refine(FJ _ _ _ h0 h1).mono ?_;rintro e w2 ⟨rfl,hb2⟩;have bL:=ae ((aJ w _ _).trans (hb2.mono (aJ w _ _).size));have hr:=(Row.new' (w:=w.alloc (.cells #[.int .i64 0,.int .i64 a.n] 72)) #[.int .i64 0,.int .i64 0] 72 (g:=w.heap.size+1) (by simp)).below hb2 (by simp);have r0:=hr.cell (j:=0) rfl;have r1:=hr.cell (j:=1) rfl;have f0:=hr.free 0;have f1:=hr.free 1;clear hr hb2;go_wp2_with fail;refine HQ _ _ _ ?_;refine aR (v:= .tuple #[.agg #[.int .i64 0,.int .i64 (EH op a.n)],.bool true]) (by simp[results,results84,go_sem,r0,r1]) rfl ⟨rfl,?_⟩;exact(bL.setCell (by simp) _).setCell (by simp) _
theorem eq_25(a b:Int):bO 25 a b=wT (a==b):=by simp[bO,mR,L8]
theorem E5(a b:Int):bO 26 a b=wT (a !=b):=by simp[bO,mR,L8]
theorem Gl{M:List MO}{op:Int}{a b:V}(ha:a.obj≠0)(hb:b.obj≠0):gR bO M op a b=
  (if op=25\/op=26 then(if nX M a b=false then none else some ⟨0,bO op (if a=b then 1 else 0) 1⟩)
   else if a.obj≠b.obj\/(aF M a.obj).live=false\/(op≠13/\¬(27<=op/\op<=30))then none else some ⟨0,bO op a.n b.n⟩):=by
 unfold gR;rw[if_neg (by omega),if_neg (by omega),if_neg (by omega),if_neg (by omega)];by_cases h:op=25\/op=26
 ·rw[if_pos h,if_pos h,if_neg (by omega)];by_cases hc:nX M a b=false
  ·rw[if_pos ⟨by omega,by omega,hc⟩,if_pos hc]
  ·rw[if_neg (λh=>hc h.2.2),if_neg hc]
 ·rw[if_neg h,if_neg h]
theorem Pl{M:List MO}{op:Int}{a b:V}(ha:a.obj≠0)(hb:b.obj≠0)(hne:a.obj≠b.obj):gR bO M op a b=if(op=25\/op=26)/\lS M a=true/\lS M b=true then some ⟨0,op-25⟩else none:=by
 rw[Gl ha hb];have hab:a≠b:=λh=>hne (by rw[h]);have hc:nX M a b=(lS M a && lS M b):=by
  unfold nX lS;rw[decide_eq_false hne,Bool.false_or];cases (aF M a.obj).live<;>cases (aF M b.obj).live<;>simp
 by_cases h:op=25\/op=26
 ·rw[if_pos h,if_neg hab,hc];cases h1:lS M a<;>cases h2:lS M b<;>simp[h];rcases h with rfl|rfl
  ·rw[eq_25];decide
  ·rw[E5];decide
 ·rw[if_neg h,if_pos (aH hne),if_neg (λhh=>h hh.1)]
theorem My{M:List MO}{op:Int}{a b:V}(ha:a.obj≠0)(heq:a.obj=b.obj):gR bO M op a b=if(aF M a.obj).live=true/\(op=25\/op=26\/op=13\/(27<=op/\op<=30))then some ⟨0,bO op a.n b.n⟩else none:=by
 rw[Gl ha (by omega)];have hc:nX M a b=(aF M a.obj).live:=by
  unfold nX;rw[<-heq,decide_eq_true (rfl:a.obj=a.obj)];cases (aF M a.obj).live<;>simp
 have hab:(a=b)↔a.n=b.n:=by
  constructor
  ·intro h;rw[h]
  ·intro h;cases a;cases b;simp_all
 by_cases hl:(aF M a.obj).live=true
 ·by_cases h:op=25\/op=26
  ·have e1:(if op=25\/op=26 then(if nX M a b=false then none else some (⟨0,bO op (if a=b then 1 else 0) 1⟩:V))else if a.obj≠b.obj\/(aF M a.obj).live=false\/(op≠13/\¬(27<=op/\op<=30))then none else some ⟨0,bO op a.n b.n⟩)=some ⟨0,bO op (if a=b then 1 else 0) 1⟩:=by
    rw[if_pos h,if_neg (by rw[hc,hl];simp)]
   have e2:(if(aF M a.obj).live=true/\(op=25\/op=26\/op=13\/(27<=op/\op<=30))then some (⟨0,bO op a.n b.n⟩:V)else none)=some ⟨0,bO op a.n b.n⟩:=if_pos ⟨hl,by omega⟩;rw[e1,e2];have e3:bO op (if a=b then 1 else 0) 1=bO op a.n b.n:=by
    rcases h with rfl|rfl
    ·rw[eq_25,eq_25];by_cases hn:a.n=b.n
     ·rw[if_pos (hab.2 hn),hn];simp
     ·have:(a.n==b.n)=false:=by simpa using hn
      rw[if_neg (λhh=>hn (hab.1 hh)),this];rfl
    ·rw[E5,E5];by_cases hn:a.n=b.n
     ·rw[if_pos (hab.2 hn),hn];simp
     ·have:(a.n !=b.n)=true:=by simpa using hn
      rw[if_neg (λhh=>hn (hab.1 hh)),this];rfl
   rw[e3]
  ·rw[if_neg h];by_cases h3:op≠13/\¬(27<=op/\op<=30)
   ·rw[if_pos (aT (aT h3)),if_neg (λhh=>by have:=hh.2;omega)]
   ·rw[if_neg (λhh=>by rcases hh with hh|hh|hh;exact hh heq;rw[hl]at hh;cases hh;exact h3 hh),if_pos ⟨hl,by omega⟩]
 ·have hl':(aF M a.obj).live=false:=by simpa using hl
  have e2:(if(aF M a.obj).live=true/\(op=25\/op=26\/op=13\/(27<=op/\op<=30))then some (⟨0,bO op a.n b.n⟩:V)else none)=none:=if_neg (λhh=>hl hh.1);rw[e2];by_cases h:op=25\/op=26
  ·rw[if_pos h,if_pos (by rw[hc,hl'])]
  ·rw[if_neg h,if_pos (aT (aH hl'))]
structure m9 (w W:World) (a b:V):Prop where
 r0:Row W w.heap.size #[.int .i64 a.obj,.int .i64 a.n] 72
 r1:Row W (w.heap.size+1) #[.int .i64 b.obj,.int .i64 b.n] 72
 r2:Row W (w.heap.size+1+1) #[.int .i64 0,.int .i64 0] 72
 below:Below w.heap.size w W
theorem m9.mk'(w:World)(a b:V):m9 w (((w.alloc (.cells #[.int .i64 a.obj,.int .i64 a.n] 72)).alloc (.cells #[.int .i64 b.obj,.int .i64 b.n] 72)).alloc (.cells #[.int .i64 0,.int .i64 0] 72)) a b:=
 ⟨((Row.new _ _ _).alloc _).alloc _,(Row.new' _ _ (by simp)).alloc _,Row.new' _ _ (by simp),aO _ _ _ _⟩
theorem m9.grow{w W W':World}{a b:V}(h:m9 w W a b)(hb:Below W.heap.size W W'):m9 w W' a b:=
 ⟨h.r0.below hb h.r0.lt,h.r1.below hb h.r1.lt,h.r2.below hb h.r2.lt,h.below.trans (hb.mono h.below.size)⟩
theorem Hm(hb n aA B:Nat)(op:Int)(a b:V)(A:Option Addr)(M:List MO)(w:World)(hB:B<=w.heap.size)(aZ:hb<w.heap.size)(hc:w.cell? ⟨hb,0,none⟩=some (.slice A n aA))(hM:cB w B A n M)(ha:a.obj≠0)(hka:a.obj<M.length)(Yw:b.obj≠0)(hkb:b.obj<M.length)(h0:12<=op)(h1:op<=30)(hne:a.obj≠b.obj):
  Calls prog 103 #[.pointer (some ⟨hb,0,none⟩),.int .i64 op,.agg #[.int .i64 a.obj,.int .i64 a.n],.agg #[.int .i64 b.obj,.int .i64 b.n]] w λe w'=>cH (if(op=25\/op=26)/\lS M a=true/\lS M b=true then some ⟨0,op-25⟩else none) e/\Below w.heap.size w w':=by
 have HA:=ae (λW(aG:Below w.heap.size w W)=>Bp hb n aA B a A M W (Nat.le_trans hB aG.size) (kL aZ aG.size) (ag hc aG aZ) (hM.below (aG.mono hB) (aN _)) ha hka);have rG:=ae (λW(aG:Below w.heap.size w W)=>Bp hb n aA B b A M W (Nat.le_trans hB aG.size) (kL aZ aG.size) (ag hc aG aZ) (hM.below (aG.mono hB) (aN _)) Yw hkb);have jw:((a.obj:Int) !=(b.obj:Int))=true:=by simp;omega
 have iD:(a.obj !=b.obj)=true:=by simp;exact hne
 have H3:=ae (m9.mk' w a b);clear hc hM;by_cases hs:op=25\/op=26
 ·obtain⟨qa,Wt⟩:∃q,q=lS M a:=⟨_,rfl⟩
  obtain⟨qb,P4⟩:∃q,q=lS M b:=⟨_,rfl⟩
  rw[<-Wt]at HA ⊢;rw[<-P4]at rG ⊢;clear Wt P4;have hv:(if(op=25\/op=26)/\qa=true/\qb=true then some (⟨0,op-25⟩:V)else none)=if qa && qb then some ⟨0,op-25⟩else none:=by cases qa<;>cases qb<;>simp[hs]
  rw[hv];clear hv;rcases hs with rfl|rfl
  all_goals
   go_enter func103,ntmps103;refine ak λQ HQ=>?_;go_wp2_with fail;refine(HA _ H3.below).mono ?_;rintro e w1 ⟨rfl,hb1⟩;have H4:=ae (H3.grow hb1);have b0:=H4.r1.cell (j:=0) rfl;have b1:=H4.r1.cell (j:=1) rfl;have r0:=H4.r2.cell (j:=0) rfl;have r1:=H4.r2.cell (j:=1) rfl;have f0:=H4.r2.free 0;have f1:=H4.r2.free 1;clear hb1;cases qa with
   |false=>
    go_wp2_with fail;refine HQ _ _ _ ?_;refine aR (v:= .tuple #[.agg #[.int .i64 0,.int .i64 _],.bool false]) (by simp[results,results103,go_sem,r0,r1];rfl) rfl ⟨⟨_,_,rfl⟩,?_⟩;exact(H4.below.setCell (by simp;try omega) _).setCell (by simp;try omega) _
   |true=>
    go_wp2_with fail;refine(rG _ H4.below).mono ?_;rintro e w2 ⟨rfl,hb2⟩;have H5:=ae (H4.grow hb2);clear b0 b1 r0 r1 f0 f1;have r0:=H5.r2.cell (j:=0) rfl;have r1:=H5.r2.cell (j:=1) rfl;have f0:=H5.r2.free 0;have f1:=H5.r2.free 1;clear hb2;cases qb with
    |false=>
     go_wp2_with fail;refine HQ _ _ _ ?_;refine aR (v:= .tuple #[.agg #[.int .i64 0,.int .i64 _],.bool false]) (by simp[results,results103,go_sem,r0,r1];rfl) rfl ⟨⟨_,_,rfl⟩,?_⟩;exact(H5.below.setCell (by simp;try omega) _).setCell (by simp;try omega) _
    |true=>
     go_wp2_with fail;refine HQ _ _ _ ?_;refine aR (v:= .tuple #[.agg #[.int .i64 0,.int .i64 _],.bool true]) (by simp[results,results103,go_sem,r0,r1];rfl) rfl ⟨by simp[cH,aI],?_⟩;exact(H5.below.setCell (by simp;try omega) _).setCell (by simp;try omega) _
 ·rw[if_neg (λh=>hs h.1)];have e1:(op==25)=false:=by simp;omega
  have e2:(op==26)=false:=by simp;omega
  clear hs;go_enter func103,ntmps103;refine ak λQ HQ=>?_;go_wp2_with fail;refine HQ _ _ _ ?_;refine aR (v:= .tuple #[.agg #[.int .i64 0,.int .i64 (op-25)],.bool false]) (by simp[results,results103,go_sem]) rfl ⟨⟨_,_,rfl⟩,?_⟩;exact aO _ _ _ _
end Go.Proofs.YtikbdplllopjlaaGreat
