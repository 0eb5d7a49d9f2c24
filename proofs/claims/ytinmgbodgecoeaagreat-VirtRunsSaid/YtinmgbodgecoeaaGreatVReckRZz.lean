/- virt: the regions of address and reckon that call. Conditions: as stated. -/
import Derived.Test.YtinmgbodgecoeaaGreatQ08Zz
set_option linter.unusedSimpArgs false
set_option linter.unusedVariables false
set_option maxHeartbeats 8000000
set_option maxRecDepth 100000
open Go.Proofs.Tryz
namespace Go.Proofs.YtinmgbodgecoeaaGreat
open Go.RowKit
def Fits(r:Option V)(y0 y1:Int):Prop:=∀x,r=some x->y0=x.obj/\y1=x.n
theorem cN.fits{r:Option V}{e:Ending}(h:cN r e):∃y0 y1,e= .returned (.tuple #[.agg #[.int .i64 y0,.int .i64 y1],.bool r.isSome])/\Fits r y0 y1:=by
 cases r with
 |none=>
  obtain⟨a,b,h⟩:=h;exact⟨a,b,h,λx hx=>by cases hx⟩
 |some v=>exact⟨_,_,h,λx hx=>by cases hx;exact⟨rfl,rfl⟩⟩
theorem Fits.ans{r:Option V}{y0 y1:Int}(h:Fits r y0 y1):cN r (.returned (.tuple #[.agg #[.int .i64 y0,.int .i64 y1],.bool r.isSome])):=by
 cases r with
 |none=>exact⟨y0,y1,rfl⟩
 |some v=>
  obtain⟨rfl,rfl⟩:=h v rfl;rfl
theorem Ar{cs:Array Value}(h:cs.size=2):∃a b,cs=#[a,b]:=by
 obtain⟨l⟩:=cs
 match l,h with
 |[a,b],_=>exact⟨a,b,rfl⟩
def vadL(rb fb ib pw hb tb oG tl tc ma:Nat)(vL mO bv nv:Int)(AV:Value)(va:V)(r:Option V):List (Value->Prop):=[λv=>v= .pointer (some ⟨rb,0,none⟩),
 λv=>v= .pointer (some ⟨rb,0,none⟩),
 λv=>v= .pointer (some ⟨rb,4,none⟩),
 λv=>v= .pointer (some ⟨hb,0,none⟩),
 λv=>v= .pointer (some ⟨fb,0,none⟩),
 λv=>v= .pointer (some ⟨fb,0,none⟩),
 λv=>v= .pointer (some ⟨fb,0,none⟩),
 λv=>v= .slice (some ⟨tb,oG,none⟩) tl tc,
 λv=>v= .pointer (some ⟨ib,2,none⟩),
 λv=>v= .int .i64 (ma:Nat),
 λv=>v= .pointer (some ⟨tb,oG+ma*2,none⟩),
 λv=>v= .agg #[.int .i64 va.obj,.int .i64 va.n],
 λv=>v= .pointer (some ⟨ib,3,none⟩),
 λv=>v= .int .i64 bv,
 λv=>v= .agg #[.int .i64 0,.int .i64 bv],
 λv=>∃y0 y1,v= .tuple #[.agg #[.int .i64 y0,.int .i64 y1],.bool r.isSome]/\Fits r y0 y1,
 λv=>∃y0 y1,v= .agg #[.int .i64 y0,.int .i64 y1]/\Fits r y0 y1,
 λv=>v= .bool r.isSome,
 λ_=>True,
 λv=>v= .bool r.isSome]
def vadC(rb fb ib pw hb tb oG tl tc ma:Nat)(vL mO bv nv:Int)(AV:Value)(va:V)(r:Option V)(i:Nat)(v:Value):Prop:=((vadL rb fb ib pw hb tb oG tl tc ma vL mO bv nv AV va r).getD i (λ_=>True)) v
noncomputable def vadR:Code:=(fU (Tryz.f80.body.getD .skip)).getD 1 .skip
theorem Jg(rb fb ib pw hb tb oG tl tc ma:Nat)(vL mO bv nv:Int)(AV:Value)(va:V)(r:Option V)(w:World)
  (hr4:w.cell? ⟨rb,4,none⟩=some (.pointer (some ⟨hb,0,none⟩)))(wE:rb<w.heap.size)(wA:rb≠pw)(hf0:w.cell? ⟨fb,0,none⟩=some (.slice (some ⟨tb,oG,none⟩) tl tc))(wF:fb<w.heap.size)(wC:fb≠pw)
  (hib:Row w ib #[.int .i64 vL,.int .i64 mO,.int .i64 (ma:Nat),.int .i64 bv,.int .i64 nv,AV] 94)(wB:ib≠pw)(lh:ma<tl)(wD:tb<w.heap.size)(tD:tb≠pw)(vY:w.cell? ⟨tb,oG+ma*2,none⟩=some (.int .i64 va.obj))(vX:w.cell? ⟨tb,oG+ma*2+1,none⟩=some (.int .i64 va.n))(hpw:Row w pw #[.int .i64 0,.int .i64 0] 75)
  (hcall:∀W,Wr (λi=>i=pw) w W->Calls prog 100 #[.pointer (some ⟨hb,0,none⟩),.int .i64 12,.agg #[.int .i64 va.obj,.int .i64 va.n],.agg #[.int .i64 0,.int .i64 bv]] W λe w'=>(∃y0 y1,e= .returned (.tuple #[.agg #[.int .i64 y0,.int .i64 y1],.bool r.isSome])/\Fits r y0 y1)/\Below W.heap.size W w')
  (c2 c3 c4 c7 c8 c9 c10 c11 c12 c13 c14 c15 c16 c17 c18 c19 c20 c21 iU iT iX iW:Value)(Q:Exit->Act->World->Prop)
  (cL:∀(W:World)(y0 y1:Int)(Y:Nat->Value),Wr (λi=>i=pw) w W->Row W pw #[.int .i64 y0,.int .i64 y1] 75->Fits r y0 y1->Q .normal ⟨List.toArray ((Value.pointer (some ⟨rb,0,none⟩))::(Value.pointer (some ⟨fb,0,none⟩))::c2::c3::c4::(Value.pointer (some ⟨ib,0,none⟩))::(Value.pointer (some ⟨pw,0,none⟩))::(Value.bool r.isSome)::Y 0::Y 1::Y 2::Y 3::Y 4::Y 5::Y 6::Y 7::Y 8::Y 9::Y 10::Y 11::Y 12::Y 13::Y 14::Y 15::Y 16::Y 17::[]),[]⟩ W):
  Code.wp prog vadR Q ⟨List.toArray ((Value.pointer (some ⟨rb,0,none⟩))::(Value.pointer (some ⟨fb,0,none⟩))::c2::c3::c4::(Value.pointer (some ⟨ib,0,none⟩))::(Value.pointer (some ⟨pw,0,none⟩))::c7::c8::c9::c10::c11::c12::c13::c14::c15::c16::c17::c18::c19::c20::c21::iU::iT::iX::iW::[]),[]⟩ w:=by
 have zo:(0:Int)<=(ma:Int):=by omega
 have Sm:(ma:Int)<(tl:Int):=by omega
 have K2:=ae hr4;have E4:=ae wE;have E1:=ae wA;have CB:=ae hf0;have E5:=ae wF;have E2:=ae wC;have jh:=ae hib;have u6:=ae wB;have xm:=ae wD;have xk:=ae tD;have Dg:=ae vY;have Df:=ae vX;have Aa:=ae hpw;have iE:=ae hcall;have HOLD:=ae (show∀(W:World)(b j:Nat)(v:Value),w.cell? ⟨b,j,none⟩=some v->Wr (λi=>i=pw) w W->b<w.heap.size->b≠pw->W.cell? ⟨b,j,none⟩=some v from λW b j v h hw hlt hne=>(World.cell?_of_block (a:=⟨b,j,none⟩) (hw.block b hlt hne)).trans h);clear hr4 wE wA hf0 wF wC hib wB lh wD tD vY vX hpw hcall;have uu:=ae cL;clear cL
 conv=>arg 2;whnf
 refine nK (by kernel_rfl) 18 16 pw 2 75 yR (λ_=>vadC rb fb ib pw hb tb oG tl tc ma vL mO bv nv AV va r) (λY=>⟨List.toArray ((Value.pointer (some ⟨rb,0,none⟩))::(Value.pointer (some ⟨fb,0,none⟩))::c2::c3::c4::(Value.pointer (some ⟨ib,0,none⟩))::(Value.pointer (some ⟨pw,0,none⟩))::Y 19::Y 0::Y 1::Y 2::Y 3::Y 4::Y 5::Y 6::Y 7::Y 8::Y 9::Y 10::Y 11::Y 12::Y 13::Y 14::Y 15::Y 16::Y 17::[]),[]⟩) (λi=>if i=0 then c8 else if i=1 then c9 else if i=2 then c10 else if i=3 then c11 else if i=4 then c12 else if i=5 then c13 else if i=6 then c14 else if i=7 then c15 else if i=8 then c16 else if i=9 then c17 else if i=10 then c18 else if i=11 then c19 else if i=12 then c20 else if i=13 then c21 else if i=14 then iU else if i=15 then iT else if i=16 then iX else if i=17 then iW else if i=19 then c7 else undef) rfl (by kernel_rfl) (by simp) (by decide) ⟨_,Aa.out,rfl⟩ ?_ (λ_ _ _ _ _ h=>h) (λ_ _ _ _ _ h=>h) ?_ ?_ ?_
 ·intro o' ho;simp at ho;subst ho;exact⟨{on:=16,ground:=Ground.data},by simp,rfl,rfl⟩
 ·intro i o' Y W h2 ho hb hall K hK;have HW:=ae hb;clear hb;rcases i with _|_|_|_|_|_|_|_|_|_|_|_|_|_|_|_|_|_|_|_|i
  ·simp at ho;subst ho;clear hall;refine ak rfl rfl (λK' hK'=>?_);go_simp;have hh:=hK' _ _ (hK _ _ (aV _ _) rfl);simpa [upd]using hh
  ·simp at ho;subst ho;have d0:Y 0=_:=hall {on:=0,ground:=Ground.data} (by simp) rfl (by decide);clear hall;refine ak rfl rfl (λK' hK'=>?_);go_simp;have hh:=hK' _ _ (hK _ _ (aV _ _) rfl);simpa [upd,d0]using hh
  ·simp at ho;subst ho;have d1:Y 1=_:=hall {on:=1,ground:=Ground.data} (by simp) rfl (by decide);clear hall;refine ak rfl rfl (λK' hK'=>?_);go_simp;have hh:=hK' _ _ (hK _ _ (aV _ _) rfl);simpa [upd,d1]using hh
  ·simp at ho;subst ho;have d2:Y 2=_:=hall {on:=2,ground:=Ground.data} (by simp) rfl (by decide);have q0:=HOLD.out W _ _ _ K2.out HW.out E4.out E1.out;clear hall;refine ak rfl rfl (λK' hK'=>?_);go_simp;have hh:=hK' _ _ (hK _ _ (aV _ _) rfl);simpa [upd,d2]using hh
  ·simp at ho;subst ho;clear hall;refine ak rfl rfl (λK' hK'=>?_);go_simp;have hh:=hK' _ _ (hK _ _ (aV _ _) rfl);simpa [upd]using hh
  ·simp at ho;subst ho;have d4:Y 4=_:=hall {on:=4,ground:=Ground.data} (by simp) rfl (by decide);clear hall;refine ak rfl rfl (λK' hK'=>?_);go_simp;have hh:=hK' _ _ (hK _ _ (aV _ _) rfl);simpa [upd,d4]using hh
  ·simp at ho;subst ho;have d5:Y 5=_:=hall {on:=5,ground:=Ground.data} (by simp) rfl (by decide);clear hall;refine ak rfl rfl (λK' hK'=>?_);go_simp;have hh:=hK' _ _ (hK _ _ (aV _ _) rfl);simpa [upd,d5]using hh
  ·simp at ho;subst ho;have d6:Y 6=_:=hall {on:=6,ground:=Ground.data} (by simp) rfl (by decide);have q0:=HOLD.out W _ _ _ CB.out HW.out E5.out E2.out;clear hall;refine ak rfl rfl (λK' hK'=>?_);go_simp;have hh:=hK' _ _ (hK _ _ (aV _ _) rfl);simpa [upd,d6]using hh
  ·simp at ho;subst ho;clear hall;refine ak rfl rfl (λK' hK'=>?_);go_simp;have hh:=hK' _ _ (hK _ _ (aV _ _) rfl);simpa [upd]using hh
  ·simp at ho;subst ho;have d8:Y 8=_:=hall {on:=8,ground:=Ground.data} (by simp) rfl (by decide);have q0:=HOLD.out W _ _ _ (jh.cell (j:=2) rfl) HW.out jh.lt u6.out;clear hall;refine ak rfl rfl (λK' hK'=>?_);go_simp;have hh:=hK' _ _ (hK _ _ (aV _ _) rfl);simpa [upd,d8]using hh
  ·simp at ho;subst ho;have d7:Y 7=_:=hall {on:=7,ground:=Ground.data} (by simp) rfl (by decide);have d9:Y 9=_:=hall {on:=9,ground:=Ground.data} (by simp) rfl (by decide);clear hall;refine ak rfl rfl (λK' hK'=>?_);go_simp;have hh:=hK' _ _ (hK _ _ (aV _ _) rfl);simpa [upd,d7,d9]using hh
  ·simp at ho;subst ho;have d10:Y 10=_:=hall {on:=10,ground:=Ground.data} (by simp) rfl (by decide);have q0:=HOLD.out W _ _ _ Dg.out HW.out xm.out xk.out;have q1:=HOLD.out W _ _ _ Df.out HW.out xm.out xk.out;clear hall;refine ak rfl rfl (λK' hK'=>?_);go_simp;have hh:=hK' _ _ (hK _ _ (aV _ _) rfl);simpa [upd,d10]using hh
  ·simp at ho;subst ho;clear hall;refine ak rfl rfl (λK' hK'=>?_);go_simp;have hh:=hK' _ _ (hK _ _ (aV _ _) rfl);simpa [upd]using hh
  ·simp at ho;subst ho;have Nl:Y 12=_:=hall {on:=12,ground:=Ground.data} (by simp) rfl (by decide);have q0:=HOLD.out W _ _ _ (jh.cell (j:=3) rfl) HW.out jh.lt u6.out;clear hall;refine ak rfl rfl (λK' hK'=>?_);go_simp;have hh:=hK' _ _ (hK _ _ (aV _ _) rfl);simpa [upd,Nl]using hh
  ·simp at ho;subst ho;have Q8:Y 13=_:=hall {on:=13,ground:=Ground.data} (by simp) rfl (by decide);clear hall;refine ak rfl rfl (λK' hK'=>?_);go_simp;have hh:=hK' _ _ (hK _ _ (aV _ _) rfl);simpa [upd,Q8]using hh
  ·simp at ho;subst ho;have d3:Y 3=_:=hall {on:=3,ground:=Ground.data} (by simp) rfl (by decide);have yN:Y 11=_:=hall {on:=11,ground:=Ground.data} (by simp) rfl (by decide);have d14:Y 14=_:=hall {on:=14,ground:=Ground.data} (by simp) rfl (by decide);clear hall;refine ak rfl rfl (λK' hK'=>?_);go_simp;refine(iE.out W HW.out).mono ?_;rintro e W5 ⟨⟨y0,y1,rfl,hf⟩,hb5⟩;go_simp;have hh:=hK' _ _ (hK (.tuple #[.agg #[.int .i64 y0,.int .i64 y1],.bool r.isSome]) W5 hb5 ⟨y0,y1,rfl,hf⟩);simpa [upd,d3,yN,d14]using hh
  ·simp at ho;subst ho;obtain⟨y0,y1,dT,hf⟩:=hall {on:=15,ground:=Ground.data} (by simp) rfl (by decide);clear hall;refine ak rfl rfl (λK' hK'=>?_);go_simp;have hh:=hK' _ _ (hK (.agg #[.int .i64 y0,.int .i64 y1]) _ (aV _ _) ⟨y0,y1,rfl,hf⟩);simpa [upd,dT]using hh
  ·simp at ho;subst ho;obtain⟨y0,y1,dT,hf⟩:=hall {on:=15,ground:=Ground.data} (by simp) rfl (by decide);clear hall;refine ak rfl rfl (λK' hK'=>?_);go_simp;have hh:=hK' _ _ (hK (.bool r.isSome) _ (aV _ _) rfl);simpa [upd,dT]using hh
  ·exact absurd rfl h2
  ·simp at ho;subst ho;have d17:Y 17=_:=hall {on:=17,ground:=Ground.data} (by simp) rfl (by decide);clear hall;refine ak rfl rfl (λK' hK'=>?_);go_simp;have hh:=hK' _ _ (hK (.bool r.isSome) _ (aV _ _) rfl);simpa [upd,d17]using hh
  ·simp at ho
 ·intro o' Y W cs ho hrow hcs hcl K hK;simp at ho;subst ho;obtain⟨y0,y1,dA,_⟩:=hcl;obtain⟨e0,e1,rfl⟩:=Ar hcs;have q0:=hrow.cell (j:=0) rfl;have q1:=hrow.cell (j:=1) rfl;have k0:=hrow.free 0;have k1:=hrow.free 1;have dI:=ae hrow;clear hrow hcs;refine ak rfl rfl (λK' hK'=>?_);go_simp;have hh:=hK' _ _ (hK _ undef ((((Wr.refl (λi=>i=pw) W).cJ pw _ _ (aK rfl)).cJ pw _ _ (aK rfl))) (by rw[dA];exact((dI.set 0 _).set 1 _)) (by rw[dA];rfl));simpa [upd,dA]using hh
 ·intro Y W hw hrow hall;obtain⟨y0,y1,dA,hf⟩:=hall 16 (by simp) (by decide);have dF:Y 19=_:=hall 19 (by simp) (by decide);rw[dA]at hrow;show Q .normal ⟨List.toArray ((Value.pointer (some ⟨rb,0,none⟩))::(Value.pointer (some ⟨fb,0,none⟩))::c2::c3::c4::(Value.pointer (some ⟨ib,0,none⟩))::(Value.pointer (some ⟨pw,0,none⟩))::Y 19::Y 0::Y 1::Y 2::Y 3::Y 4::Y 5::Y 6::Y 7::Y 8::Y 9::Y 10::Y 11::Y 12::Y 13::Y 14::Y 15::Y 16::Y 17::[]),[]⟩ W;rw[dF];exact uu.out W y0 y1 Y hw hrow hf
def vr5L(mb rb fb ib pw hb tb oG tl tc ma:Nat)(vL mO bv nv:Int)(AV:Value)(va vb:V)(r:Option V):List (Value->Prop):=[λv=>v= .pointer (some ⟨rb,0,none⟩),
 λv=>v= .pointer (some ⟨rb,0,none⟩),
 λv=>v= .pointer (some ⟨rb,4,none⟩),
 λv=>v= .pointer (some ⟨hb,0,none⟩),
 λv=>v= .pointer (some ⟨ib,4,none⟩),
 λv=>v= .int .i64 nv,
 λv=>v= .pointer (some ⟨fb,0,none⟩),
 λv=>v= .pointer (some ⟨fb,0,none⟩),
 λv=>v= .pointer (some ⟨fb,0,none⟩),
 λv=>v= .slice (some ⟨tb,oG,none⟩) tl tc,
 λv=>v= .pointer (some ⟨ib,2,none⟩),
 λv=>v= .int .i64 (ma:Nat),
 λv=>v= .pointer (some ⟨tb,oG+ma*2,none⟩),
 λv=>v= .agg #[.int .i64 va.obj,.int .i64 va.n],
 λv=>v= .pointer (some ⟨fb,0,none⟩),
 λv=>v= .pointer (some ⟨fb,0,none⟩),
 λv=>v= .pointer (some ⟨fb,0,none⟩),
 λv=>v= .slice (some ⟨tb,oG,none⟩) tl tc,
 λv=>v= .pointer (some ⟨ib,3,none⟩),
 λv=>v= .int .i64 (mb:Nat),
 λv=>v= .pointer (some ⟨tb,oG+mb*2,none⟩),
 λv=>v= .agg #[.int .i64 vb.obj,.int .i64 vb.n],
 λv=>∃y0 y1,v= .tuple #[.agg #[.int .i64 y0,.int .i64 y1],.bool r.isSome]/\Fits r y0 y1,
 λv=>∃y0 y1,v= .agg #[.int .i64 y0,.int .i64 y1]/\Fits r y0 y1,
 λv=>v= .bool r.isSome,
 λ_=>True,
 λv=>v= .bool r.isSome]
def vr5C(mb rb fb ib pw hb tb oG tl tc ma:Nat)(vL mO bv nv:Int)(AV:Value)(va vb:V)(r:Option V)(i:Nat)(v:Value):Prop:=((vr5L mb rb fb ib pw hb tb oG tl tc ma vL mO bv nv AV va vb r).getD i (λ_=>True)) v
noncomputable def vr5R:Code:=(fU (Tryz.f85.body.getD .skip)).getD 11 .skip
theorem I3(mb rb fb ib pw hb tb oG tl tc ma:Nat)(vL mO bv nv:Int)(AV:Value)(va vb:V)(r:Option V)(w:World)
  (hr4:w.cell? ⟨rb,4,none⟩=some (.pointer (some ⟨hb,0,none⟩)))(wE:rb<w.heap.size)(wA:rb≠pw)(hf0:w.cell? ⟨fb,0,none⟩=some (.slice (some ⟨tb,oG,none⟩) tl tc))(wF:fb<w.heap.size)(wC:fb≠pw)
  (hib:Row w ib #[.int .i64 vL,.int .i64 mO,.int .i64 (ma:Nat),.int .i64 (mb:Nat),.int .i64 nv,AV] 94)(wB:ib≠pw)(lh:ma<tl)(wD:tb<w.heap.size)(tD:tb≠pw)(vY:w.cell? ⟨tb,oG+ma*2,none⟩=some (.int .i64 va.obj))(vX:w.cell? ⟨tb,oG+ma*2+1,none⟩=some (.int .i64 va.n))(hpw:Row w pw #[.int .i64 0,.int .i64 0] 75)(hmb:mb<tl)(UN:w.cell? ⟨tb,oG+mb*2,none⟩=some (.int .i64 vb.obj))(uj:w.cell? ⟨tb,oG+mb*2+1,none⟩=some (.int .i64 vb.n))
  (hcall:∀W,Wr (λi=>i=pw) w W->Calls prog 100 #[.pointer (some ⟨hb,0,none⟩),.int .i64 nv,.agg #[.int .i64 va.obj,.int .i64 va.n],.agg #[.int .i64 vb.obj,.int .i64 vb.n]] W λe w'=>(∃y0 y1,e= .returned (.tuple #[.agg #[.int .i64 y0,.int .i64 y1],.bool r.isSome])/\Fits r y0 y1)/\Below W.heap.size W w')
  {c2 c3 c4 c7 c8 c9 c10 c11 c12 c13 c14 c15 c16 c17 c18 c19 c20 c21 iU iT iX iW jM jL jK jJ jI jH jG jF jE jD jC jB jA jo jm jy kG kF kE kD kC kB jw c49 kA c51 jY jX jW jV jU jT jS jR jQ jP jO jN kV kU kT kS kR kQ kP kO kN lN kM kL lM lL lK lJ lI lH mY mD mC lG lF lD lC lB lA mX nA nz ny ni m9 m6 mW mV eH eG eF eD ed dZ dY dX dW dV dU dS dR dQ dP dO dN dH dG c119 dD dC eV eU eT eQ eP fC fB fA eZ eY mi lZ lY lX lW:Value}(Q:Exit->Act->World->Prop)
  (cL:∀(W:World)(y0 y1:Int)(Y:Nat->Value),Wr (λi=>i=pw) w W->Row W pw #[.int .i64 y0,.int .i64 y1] 75->Fits r y0 y1->Q .normal ⟨List.toArray ((Value.pointer (some ⟨rb,0,none⟩))::(Value.pointer (some ⟨fb,0,none⟩))::c2::c3::c4::(Value.pointer (some ⟨ib,0,none⟩))::(Value.pointer (some ⟨pw,0,none⟩))::(Value.bool r.isSome)::c8::c9::c10::c11::c12::c13::c14::c15::c16::c17::c18::c19::c20::c21::iU::iT::iX::iW::jM::jL::jK::jJ::jI::jH::jG::jF::jE::jD::jC::jB::jA::jo::jm::jy::kG::kF::kE::kD::kC::kB::jw::Y 0::Y 1::Y 2::Y 3::Y 4::Y 5::Y 6::Y 7::Y 8::Y 9::Y 10::Y 11::Y 12::Y 13::Y 14::Y 15::Y 16::Y 17::Y 18::Y 19::Y 20::Y 21::Y 22::Y 23::Y 24::kM::kL::lM::lL::lK::lJ::lI::lH::mY::mD::mC::lG::lF::lD::lC::lB::lA::mX::nA::nz::ny::ni::m9::m6::mW::mV::eH::eG::eF::eD::ed::dZ::dY::dX::dW::dV::dU::dS::dR::dQ::dP::dO::dN::dH::dG::c119::dD::dC::eV::eU::eT::eQ::eP::fC::fB::fA::eZ::eY::mi::lZ::lY::lX::lW::[]),[]⟩ W):
  Code.wp prog vr5R Q ⟨List.toArray ((Value.pointer (some ⟨rb,0,none⟩))::(Value.pointer (some ⟨fb,0,none⟩))::c2::c3::c4::(Value.pointer (some ⟨ib,0,none⟩))::(Value.pointer (some ⟨pw,0,none⟩))::c7::c8::c9::c10::c11::c12::c13::c14::c15::c16::c17::c18::c19::c20::c21::iU::iT::iX::iW::jM::jL::jK::jJ::jI::jH::jG::jF::jE::jD::jC::jB::jA::jo::jm::jy::kG::kF::kE::kD::kC::kB::jw::c49::kA::c51::jY::jX::jW::jV::jU::jT::jS::jR::jQ::jP::jO::jN::kV::kU::kT::kS::kR::kQ::kP::kO::kN::lN::kM::kL::lM::lL::lK::lJ::lI::lH::mY::mD::mC::lG::lF::lD::lC::lB::lA::mX::nA::nz::ny::ni::m9::m6::mW::mV::eH::eG::eF::eD::ed::dZ::dY::dX::dW::dV::dU::dS::dR::dQ::dP::dO::dN::dH::dG::c119::dD::dC::eV::eU::eT::eQ::eP::fC::fB::fA::eZ::eY::mi::lZ::lY::lX::lW::[]),[]⟩ w:=by
 have zo:(0:Int)<=(ma:Int):=by omega
 have Sm:(ma:Int)<(tl:Int):=by omega
 have K2:=ae hr4;have E4:=ae wE;have E1:=ae wA;have CB:=ae hf0;have E5:=ae wF;have E2:=ae wC;have jh:=ae hib;have u6:=ae wB;have xm:=ae wD;have xk:=ae tD;have Dg:=ae vY;have Df:=ae vX;have Aa:=ae hpw;have iE:=ae hcall;have HOLD:=ae (show∀(W:World)(b j:Nat)(v:Value),w.cell? ⟨b,j,none⟩=some v->Wr (λi=>i=pw) w W->b<w.heap.size->b≠pw->W.cell? ⟨b,j,none⟩=some v from λW b j v h hw hlt hne=>(World.cell?_of_block (a:=⟨b,j,none⟩) (hw.block b hlt hne)).trans h);clear hr4 wE wA hf0 wF wC hib wB lh wD tD vY vX hpw hcall;have hmb0:(0:Int)<=(mb:Int):=by omega
 have hmb1:(mb:Int)<(tl:Int):=by omega
 have HTB0:=ae UN;have HTB1:=ae uj;clear hmb UN uj;have uu:=ae cL;clear cL
 conv=>arg 2;whnf
 refine nK (by kernel_rfl) 25 23 pw 2 75 yR (λ_=>vr5C mb rb fb ib pw hb tb oG tl tc ma vL mO bv nv AV va vb r) (λY=>⟨List.toArray ((Value.pointer (some ⟨rb,0,none⟩))::(Value.pointer (some ⟨fb,0,none⟩))::c2::c3::c4::(Value.pointer (some ⟨ib,0,none⟩))::(Value.pointer (some ⟨pw,0,none⟩))::Y 26::c8::c9::c10::c11::c12::c13::c14::c15::c16::c17::c18::c19::c20::c21::iU::iT::iX::iW::jM::jL::jK::jJ::jI::jH::jG::jF::jE::jD::jC::jB::jA::jo::jm::jy::kG::kF::kE::kD::kC::kB::jw::Y 0::Y 1::Y 2::Y 3::Y 4::Y 5::Y 6::Y 7::Y 8::Y 9::Y 10::Y 11::Y 12::Y 13::Y 14::Y 15::Y 16::Y 17::Y 18::Y 19::Y 20::Y 21::Y 22::Y 23::Y 24::kM::kL::lM::lL::lK::lJ::lI::lH::mY::mD::mC::lG::lF::lD::lC::lB::lA::mX::nA::nz::ny::ni::m9::m6::mW::mV::eH::eG::eF::eD::ed::dZ::dY::dX::dW::dV::dU::dS::dR::dQ::dP::dO::dN::dH::dG::c119::dD::dC::eV::eU::eT::eQ::eP::fC::fB::fA::eZ::eY::mi::lZ::lY::lX::lW::[]),[]⟩) (λi=>if i=0 then c49 else if i=1 then kA else if i=2 then c51 else if i=3 then jY else if i=4 then jX else if i=5 then jW else if i=6 then jV else if i=7 then jU else if i=8 then jT else if i=9 then jS else if i=10 then jR else if i=11 then jQ else if i=12 then jP else if i=13 then jO else if i=14 then jN else if i=15 then kV else if i=16 then kU else if i=17 then kT else if i=18 then kS else if i=19 then kR else if i=20 then kQ else if i=21 then kP else if i=22 then kO else if i=23 then kN else if i=24 then lN else if i=26 then c7 else undef) rfl (by kernel_rfl) (by simp) (by decide) ⟨_,Aa.out,rfl⟩ ?_ (λ_ _ _ _ _ h=>h) (λ_ _ _ _ _ h=>h) ?_ ?_ ?_
 ·intro o' ho;simp at ho;subst ho;exact⟨{on:=23,ground:=Ground.data},by simp,rfl,rfl⟩
 ·intro i o' Y W h2 ho hb hall K hK;have HW:=ae hb;clear hb;rcases i with _|_|_|_|_|_|_|_|_|_|_|_|_|_|_|_|_|_|_|_|_|_|_|_|_|_|_|i
  ·simp at ho;subst ho;clear hall;refine ak rfl rfl (λK' hK'=>?_);go_simp;have hh:=hK' _ _ (hK _ _ (aV _ _) rfl);simpa [upd]using hh
  ·simp at ho;subst ho;have d0:Y 0=_:=hall {on:=0,ground:=Ground.data} (by simp) rfl (by decide);clear hall;refine ak rfl rfl (λK' hK'=>?_);go_simp;have hh:=hK' _ _ (hK _ _ (aV _ _) rfl);simpa [upd,d0]using hh
  ·simp at ho;subst ho;have d1:Y 1=_:=hall {on:=1,ground:=Ground.data} (by simp) rfl (by decide);clear hall;refine ak rfl rfl (λK' hK'=>?_);go_simp;have hh:=hK' _ _ (hK _ _ (aV _ _) rfl);simpa [upd,d1]using hh
  ·simp at ho;subst ho;have d2:Y 2=_:=hall {on:=2,ground:=Ground.data} (by simp) rfl (by decide);have q0:=HOLD.out W _ _ _ K2.out HW.out E4.out E1.out;clear hall;refine ak rfl rfl (λK' hK'=>?_);go_simp;have hh:=hK' _ _ (hK _ _ (aV _ _) rfl);simpa [upd,d2]using hh
  ·simp at ho;subst ho;clear hall;refine ak rfl rfl (λK' hK'=>?_);go_simp;have hh:=hK' _ _ (hK _ _ (aV _ _) rfl);simpa [upd]using hh
  ·simp at ho;subst ho;have d4:Y 4=_:=hall {on:=4,ground:=Ground.data} (by simp) rfl (by decide);have q0:=HOLD.out W _ _ _ (jh.cell (j:=4) rfl) HW.out jh.lt u6.out;clear hall;refine ak rfl rfl (λK' hK'=>?_);go_simp;have hh:=hK' _ _ (hK _ _ (aV _ _) rfl);simpa [upd,d4]using hh
  ·simp at ho;subst ho;clear hall;refine ak rfl rfl (λK' hK'=>?_);go_simp;have hh:=hK' _ _ (hK _ _ (aV _ _) rfl);simpa [upd]using hh
  ·simp at ho;subst ho;have d6:Y 6=_:=hall {on:=6,ground:=Ground.data} (by simp) rfl (by decide);clear hall;refine ak rfl rfl (λK' hK'=>?_);go_simp;have hh:=hK' _ _ (hK _ _ (aV _ _) rfl);simpa [upd,d6]using hh
  ·simp at ho;subst ho;have d7:Y 7=_:=hall {on:=7,ground:=Ground.data} (by simp) rfl (by decide);clear hall;refine ak rfl rfl (λK' hK'=>?_);go_simp;have hh:=hK' _ _ (hK _ _ (aV _ _) rfl);simpa [upd,d7]using hh
  ·simp at ho;subst ho;have d8:Y 8=_:=hall {on:=8,ground:=Ground.data} (by simp) rfl (by decide);have q0:=HOLD.out W _ _ _ CB.out HW.out E5.out E2.out;clear hall;refine ak rfl rfl (λK' hK'=>?_);go_simp;have hh:=hK' _ _ (hK _ _ (aV _ _) rfl);simpa [upd,d8]using hh
  ·simp at ho;subst ho;clear hall;refine ak rfl rfl (λK' hK'=>?_);go_simp;have hh:=hK' _ _ (hK _ _ (aV _ _) rfl);simpa [upd]using hh
  ·simp at ho;subst ho;have d10:Y 10=_:=hall {on:=10,ground:=Ground.data} (by simp) rfl (by decide);have q0:=HOLD.out W _ _ _ (jh.cell (j:=2) rfl) HW.out jh.lt u6.out;clear hall;refine ak rfl rfl (λK' hK'=>?_);go_simp;have hh:=hK' _ _ (hK _ _ (aV _ _) rfl);simpa [upd,d10]using hh
  ·simp at ho;subst ho;have d9:Y 9=_:=hall {on:=9,ground:=Ground.data} (by simp) rfl (by decide);have yN:Y 11=_:=hall {on:=11,ground:=Ground.data} (by simp) rfl (by decide);clear hall;refine ak rfl rfl (λK' hK'=>?_);go_simp;have hh:=hK' _ _ (hK _ _ (aV _ _) rfl);simpa [upd,d9,yN]using hh
  ·simp at ho;subst ho;have Nl:Y 12=_:=hall {on:=12,ground:=Ground.data} (by simp) rfl (by decide);have q0:=HOLD.out W _ _ _ Dg.out HW.out xm.out xk.out;have q1:=HOLD.out W _ _ _ Df.out HW.out xm.out xk.out;clear hall;refine ak rfl rfl (λK' hK'=>?_);go_simp;have hh:=hK' _ _ (hK _ _ (aV _ _) rfl);simpa [upd,Nl]using hh
  ·simp at ho;subst ho;clear hall;refine ak rfl rfl (λK' hK'=>?_);go_simp;have hh:=hK' _ _ (hK _ _ (aV _ _) rfl);simpa [upd]using hh
  ·simp at ho;subst ho;have d14:Y 14=_:=hall {on:=14,ground:=Ground.data} (by simp) rfl (by decide);clear hall;refine ak rfl rfl (λK' hK'=>?_);go_simp;have hh:=hK' _ _ (hK _ _ (aV _ _) rfl);simpa [upd,d14]using hh
  ·simp at ho;subst ho;have d15:Y 15=_:=hall {on:=15,ground:=Ground.data} (by simp) rfl (by decide);clear hall;refine ak rfl rfl (λK' hK'=>?_);go_simp;have hh:=hK' _ _ (hK _ _ (aV _ _) rfl);simpa [upd,d15]using hh
  ·simp at ho;subst ho;have d16:Y 16=_:=hall {on:=16,ground:=Ground.data} (by simp) rfl (by decide);have q0:=HOLD.out W _ _ _ CB.out HW.out E5.out E2.out;clear hall;refine ak rfl rfl (λK' hK'=>?_);go_simp;have hh:=hK' _ _ (hK _ _ (aV _ _) rfl);simpa [upd,d16]using hh
  ·simp at ho;subst ho;clear hall;refine ak rfl rfl (λK' hK'=>?_);go_simp;have hh:=hK' _ _ (hK _ _ (aV _ _) rfl);simpa [upd]using hh
  ·simp at ho;subst ho;have d18:Y 18=_:=hall {on:=18,ground:=Ground.data} (by simp) rfl (by decide);have q0:=HOLD.out W _ _ _ (jh.cell (j:=3) rfl) HW.out jh.lt u6.out;clear hall;refine ak rfl rfl (λK' hK'=>?_);go_simp;have hh:=hK' _ _ (hK _ _ (aV _ _) rfl);simpa [upd,d18]using hh
  ·simp at ho;subst ho;have d17:Y 17=_:=hall {on:=17,ground:=Ground.data} (by simp) rfl (by decide);have d19:Y 19=_:=hall {on:=19,ground:=Ground.data} (by simp) rfl (by decide);clear hall;refine ak rfl rfl (λK' hK'=>?_);go_simp;have hh:=hK' _ _ (hK _ _ (aV _ _) rfl);simpa [upd,d17,d19]using hh
  ·simp at ho;subst ho;have d20:Y 20=_:=hall {on:=20,ground:=Ground.data} (by simp) rfl (by decide);have q0:=HOLD.out W _ _ _ HTB0.out HW.out xm.out xk.out;have q1:=HOLD.out W _ _ _ HTB1.out HW.out xm.out xk.out;clear hall;refine ak rfl rfl (λK' hK'=>?_);go_simp;have hh:=hK' _ _ (hK _ _ (aV _ _) rfl);simpa [upd,d20]using hh
  ·simp at ho;subst ho;have d3:Y 3=_:=hall {on:=3,ground:=Ground.data} (by simp) rfl (by decide);have d5:Y 5=_:=hall {on:=5,ground:=Ground.data} (by simp) rfl (by decide);have Q8:Y 13=_:=hall {on:=13,ground:=Ground.data} (by simp) rfl (by decide);have d21:Y 21=_:=hall {on:=21,ground:=Ground.data} (by simp) rfl (by decide);clear hall;refine ak rfl rfl (λK' hK'=>?_);go_simp;refine(iE.out W HW.out).mono ?_;rintro e W5 ⟨⟨y0,y1,rfl,hf⟩,hb5⟩;go_simp;have hh:=hK' _ _ (hK (.tuple #[.agg #[.int .i64 y0,.int .i64 y1],.bool r.isSome]) W5 hb5 ⟨y0,y1,rfl,hf⟩);simpa [upd,d3,d5,Q8,d21]using hh
  ·simp at ho;subst ho;obtain⟨y0,y1,dT,hf⟩:=hall {on:=22,ground:=Ground.data} (by simp) rfl (by decide);clear hall;refine ak rfl rfl (λK' hK'=>?_);go_simp;have hh:=hK' _ _ (hK (.agg #[.int .i64 y0,.int .i64 y1]) _ (aV _ _) ⟨y0,y1,rfl,hf⟩);simpa [upd,dT]using hh
  ·simp at ho;subst ho;obtain⟨y0,y1,dT,hf⟩:=hall {on:=22,ground:=Ground.data} (by simp) rfl (by decide);clear hall;refine ak rfl rfl (λK' hK'=>?_);go_simp;have hh:=hK' _ _ (hK (.bool r.isSome) _ (aV _ _) rfl);simpa [upd,dT]using hh
  ·exact absurd rfl h2
  ·simp at ho;subst ho;have d24:Y 24=_:=hall {on:=24,ground:=Ground.data} (by simp) rfl (by decide);clear hall;refine ak rfl rfl (λK' hK'=>?_);go_simp;have hh:=hK' _ _ (hK (.bool r.isSome) _ (aV _ _) rfl);simpa [upd,d24]using hh
  ·simp at ho
 ·intro o' Y W cs ho hrow hcs hcl K hK;simp at ho;subst ho;obtain⟨y0,y1,dA,_⟩:=hcl;obtain⟨e0,e1,rfl⟩:=Ar hcs;have q0:=hrow.cell (j:=0) rfl;have q1:=hrow.cell (j:=1) rfl;have k0:=hrow.free 0;have k1:=hrow.free 1;have dI:=ae hrow;clear hrow hcs;refine ak rfl rfl (λK' hK'=>?_);go_simp;have hh:=hK' _ _ (hK _ undef ((((Wr.refl (λi=>i=pw) W).cJ pw _ _ (aK rfl)).cJ pw _ _ (aK rfl))) (by rw[dA];exact((dI.set 0 _).set 1 _)) (by rw[dA];rfl));simpa [upd,dA]using hh
 ·intro Y W hw hrow hall;obtain⟨y0,y1,dA,hf⟩:=hall 23 (by simp) (by decide);have dF:Y 26=_:=hall 26 (by simp) (by decide);rw[dA]at hrow
  show Q .normal ⟨List.toArray ((Value.pointer (some ⟨rb,0,none⟩))::(Value.pointer (some ⟨fb,0,none⟩))::c2::c3::c4::(Value.pointer (some ⟨ib,0,none⟩))::(Value.pointer (some ⟨pw,0,none⟩))::Y 26::c8::c9::c10::c11::c12::c13::c14::c15::c16::c17::c18::c19::c20::c21::iU::iT::iX::iW::jM::jL::jK::jJ::jI::jH::jG::jF::jE::jD::jC::jB::jA::jo::jm::jy::kG::kF::kE::kD::kC::kB::jw::Y 0::Y 1::Y 2::Y 3::Y 4::Y 5::Y 6::Y 7::Y 8::Y 9::Y 10::Y 11::Y 12::Y 13::Y 14::Y 15::Y 16::Y 17::Y 18::Y 19::Y 20::Y 21::Y 22::Y 23::Y 24::kM::kL::lM::lL::lK::lJ::lI::lH::mY::mD::mC::lG::lF::lD::lC::lB::lA::mX::nA::nz::ny::ni::m9::m6::mW::mV::eH::eG::eF::eD::ed::dZ::dY::dX::dW::dV::dU::dS::dR::dQ::dP::dO::dN::dH::dG::c119::dD::dC::eV::eU::eT::eQ::eP::fC::fB::fA::eZ::eY::mi::lZ::lY::lX::lW::[]),[]⟩ W
  rw[dF];exact uu.out W y0 y1 Y hw hrow hf
def vr6L(ab qU an ac rb fb ib pw hb tb oG tl tc ma:Nat)(vL mO bv nv:Int)(xv:Int)(va:V)(r:Option V):List (Value->Prop):=[λv=>v= .pointer (some ⟨rb,0,none⟩),
 λv=>v= .pointer (some ⟨rb,0,none⟩),
 λv=>v= .pointer (some ⟨rb,4,none⟩),
 λv=>v= .pointer (some ⟨hb,0,none⟩),
 λv=>v= .pointer (some ⟨ib,4,none⟩),
 λv=>v= .int .i64 nv,
 λv=>v= .pointer (some ⟨fb,0,none⟩),
 λv=>v= .pointer (some ⟨fb,0,none⟩),
 λv=>v= .pointer (some ⟨fb,0,none⟩),
 λv=>v= .slice (some ⟨tb,oG,none⟩) tl tc,
 λv=>v= .pointer (some ⟨ib,2,none⟩),
 λv=>v= .int .i64 (ma:Nat),
 λv=>v= .pointer (some ⟨tb,oG+ma*2,none⟩),
 λv=>v= .agg #[.int .i64 va.obj,.int .i64 va.n],
 λv=>v= .pointer (some ⟨ib,5,none⟩),
 λv=>v= .slice (some ⟨ab,qU,none⟩) an ac,
 λv=>v= .pointer (some ⟨ab,qU,none⟩),
 λv=>v= .int .i64 xv,
 λv=>v= .agg #[.int .i64 0,.int .i64 xv],
 λv=>∃y0 y1,v= .tuple #[.agg #[.int .i64 y0,.int .i64 y1],.bool r.isSome]/\Fits r y0 y1,
 λv=>∃y0 y1,v= .agg #[.int .i64 y0,.int .i64 y1]/\Fits r y0 y1,
 λv=>v= .bool r.isSome,
 λ_=>True,
 λv=>v= .bool r.isSome]
def vr6C(ab qU an ac rb fb ib pw hb tb oG tl tc ma:Nat)(vL mO bv nv:Int)(xv:Int)(va:V)(r:Option V)(i:Nat)(v:Value):Prop:=((vr6L ab qU an ac rb fb ib pw hb tb oG tl tc ma vL mO bv nv xv va r).getD i (λ_=>True)) v
noncomputable def vr6R:Code:=(fU (Tryz.f85.body.getD .skip)).getD 13 .skip
theorem I2(ab qU an ac rb fb ib pw hb tb oG tl tc ma:Nat)(vL mO bv nv:Int)(xv:Int)(va:V)(r:Option V)(w:World)
  (hr4:w.cell? ⟨rb,4,none⟩=some (.pointer (some ⟨hb,0,none⟩)))(wE:rb<w.heap.size)(wA:rb≠pw)(hf0:w.cell? ⟨fb,0,none⟩=some (.slice (some ⟨tb,oG,none⟩) tl tc))(wF:fb<w.heap.size)(wC:fb≠pw)
  (hib:Row w ib #[.int .i64 vL,.int .i64 mO,.int .i64 (ma:Nat),.int .i64 bv,.int .i64 nv,.slice (some ⟨ab,qU,none⟩) an ac] 94)(wB:ib≠pw)(lh:ma<tl)(wD:tb<w.heap.size)(tD:tb≠pw)(vY:w.cell? ⟨tb,oG+ma*2,none⟩=some (.int .i64 va.obj))(vX:w.cell? ⟨tb,oG+ma*2+1,none⟩=some (.int .i64 va.n))(hpw:Row w pw #[.int .i64 0,.int .i64 0] 75)(GS:0<an)(hlab:ab<w.heap.size)(Zp:ab≠pw)(Ks:w.cell? ⟨ab,qU,none⟩=some (.int .i64 xv))
  (hcall:∀W,Wr (λi=>i=pw) w W->Calls prog 100 #[.pointer (some ⟨hb,0,none⟩),.int .i64 nv,.agg #[.int .i64 va.obj,.int .i64 va.n],.agg #[.int .i64 0,.int .i64 xv]] W λe w'=>(∃y0 y1,e= .returned (.tuple #[.agg #[.int .i64 y0,.int .i64 y1],.bool r.isSome])/\Fits r y0 y1)/\Below W.heap.size W w')
  {c2 c3 c4 c7 c8 c9 c10 c11 c12 c13 c14 c15 c16 c17 c18 c19 c20 c21 iU iT iX iW jM jL jK jJ jI jH jG jF jE jD jC jB jA jo jm jy kG kF kE kD kC kB jw c49 kA c51 jY jX jW jV jU jT jS jR jQ jP jO jN kV kU kT kS kR kQ kP kO kN lN kM kL lM lL lK lJ lI lH mY mD mC lG lF lD lC lB lA mX nA nz ny ni m9 m6 mW mV eH eG eF eD ed dZ dY dX dW dV dU dS dR dQ dP dO dN dH dG c119 dD dC eV eU eT eQ eP fC fB fA eZ eY mi lZ lY lX lW:Value}(Q:Exit->Act->World->Prop)
  (cL:∀(W:World)(y0 y1:Int)(Y:Nat->Value),Wr (λi=>i=pw) w W->Row W pw #[.int .i64 y0,.int .i64 y1] 75->Fits r y0 y1->Q .normal ⟨List.toArray ((Value.pointer (some ⟨rb,0,none⟩))::(Value.pointer (some ⟨fb,0,none⟩))::c2::c3::c4::(Value.pointer (some ⟨ib,0,none⟩))::(Value.pointer (some ⟨pw,0,none⟩))::(Value.bool r.isSome)::c8::c9::c10::c11::c12::c13::c14::c15::c16::c17::c18::c19::c20::c21::iU::iT::iX::iW::jM::jL::jK::jJ::jI::jH::jG::jF::jE::jD::jC::jB::jA::jo::jm::jy::kG::kF::kE::kD::kC::kB::jw::c49::kA::c51::jY::jX::jW::jV::jU::jT::jS::jR::jQ::jP::jO::jN::kV::kU::kT::kS::kR::kQ::kP::kO::kN::lN::kM::kL::Y 0::Y 1::Y 2::Y 3::Y 4::Y 5::Y 6::Y 7::Y 8::Y 9::Y 10::Y 11::Y 12::Y 13::Y 14::Y 15::Y 16::Y 17::Y 18::Y 19::Y 20::Y 21::mW::mV::eH::eG::eF::eD::ed::dZ::dY::dX::dW::dV::dU::dS::dR::dQ::dP::dO::dN::dH::dG::c119::dD::dC::eV::eU::eT::eQ::eP::fC::fB::fA::eZ::eY::mi::lZ::lY::lX::lW::[]),[]⟩ W):
  Code.wp prog vr6R Q ⟨List.toArray ((Value.pointer (some ⟨rb,0,none⟩))::(Value.pointer (some ⟨fb,0,none⟩))::c2::c3::c4::(Value.pointer (some ⟨ib,0,none⟩))::(Value.pointer (some ⟨pw,0,none⟩))::c7::c8::c9::c10::c11::c12::c13::c14::c15::c16::c17::c18::c19::c20::c21::iU::iT::iX::iW::jM::jL::jK::jJ::jI::jH::jG::jF::jE::jD::jC::jB::jA::jo::jm::jy::kG::kF::kE::kD::kC::kB::jw::c49::kA::c51::jY::jX::jW::jV::jU::jT::jS::jR::jQ::jP::jO::jN::kV::kU::kT::kS::kR::kQ::kP::kO::kN::lN::kM::kL::lM::lL::lK::lJ::lI::lH::mY::mD::mC::lG::lF::lD::lC::lB::lA::mX::nA::nz::ny::ni::m9::m6::mW::mV::eH::eG::eF::eD::ed::dZ::dY::dX::dW::dV::dU::dS::dR::dQ::dP::dO::dN::dH::dG::c119::dD::dC::eV::eU::eT::eQ::eP::fC::fB::fA::eZ::eY::mi::lZ::lY::lX::lW::[]),[]⟩ w:=by
 have zo:(0:Int)<=(ma:Int):=by omega
 have Sm:(ma:Int)<(tl:Int):=by omega
 have K2:=ae hr4;have E4:=ae wE;have E1:=ae wA;have CB:=ae hf0;have E5:=ae wF;have E2:=ae wC;have jh:=ae hib;have u6:=ae wB;have xm:=ae wD;have xk:=ae tD;have Dg:=ae vY;have Df:=ae vX;have Aa:=ae hpw;have iE:=ae hcall;have HOLD:=ae (show∀(W:World)(b j:Nat)(v:Value),w.cell? ⟨b,j,none⟩=some v->Wr (λi=>i=pw) w W->b<w.heap.size->b≠pw->W.cell? ⟨b,j,none⟩=some v from λW b j v h hw hlt hne=>(World.cell?_of_block (a:=⟨b,j,none⟩) (hw.block b hlt hne)).trans h);clear hr4 wE wA hf0 wF wC hib wB lh wD tD vY vX hpw hcall;have han1:(0:Int)<(an:Int):=by omega
 have HLab:=ae hlab;have HNab:=ae Zp;have HAB0:=ae Ks;clear hlab Zp Ks;have uu:=ae cL;clear cL
 conv=>arg 2;whnf
 refine nK (by kernel_rfl) 22 20 pw 2 75 yR (λ_=>vr6C ab qU an ac rb fb ib pw hb tb oG tl tc ma vL mO bv nv xv va r) (λY=>⟨List.toArray ((Value.pointer (some ⟨rb,0,none⟩))::(Value.pointer (some ⟨fb,0,none⟩))::c2::c3::c4::(Value.pointer (some ⟨ib,0,none⟩))::(Value.pointer (some ⟨pw,0,none⟩))::Y 23::c8::c9::c10::c11::c12::c13::c14::c15::c16::c17::c18::c19::c20::c21::iU::iT::iX::iW::jM::jL::jK::jJ::jI::jH::jG::jF::jE::jD::jC::jB::jA::jo::jm::jy::kG::kF::kE::kD::kC::kB::jw::c49::kA::c51::jY::jX::jW::jV::jU::jT::jS::jR::jQ::jP::jO::jN::kV::kU::kT::kS::kR::kQ::kP::kO::kN::lN::kM::kL::Y 0::Y 1::Y 2::Y 3::Y 4::Y 5::Y 6::Y 7::Y 8::Y 9::Y 10::Y 11::Y 12::Y 13::Y 14::Y 15::Y 16::Y 17::Y 18::Y 19::Y 20::Y 21::mW::mV::eH::eG::eF::eD::ed::dZ::dY::dX::dW::dV::dU::dS::dR::dQ::dP::dO::dN::dH::dG::c119::dD::dC::eV::eU::eT::eQ::eP::fC::fB::fA::eZ::eY::mi::lZ::lY::lX::lW::[]),[]⟩) (λi=>if i=0 then lM else if i=1 then lL else if i=2 then lK else if i=3 then lJ else if i=4 then lI else if i=5 then lH else if i=6 then mY else if i=7 then mD else if i=8 then mC else if i=9 then lG else if i=10 then lF else if i=11 then lD else if i=12 then lC else if i=13 then lB else if i=14 then lA else if i=15 then mX else if i=16 then nA else if i=17 then nz else if i=18 then ny else if i=19 then ni else if i=20 then m9 else if i=21 then m6 else if i=23 then c7 else undef) rfl (by kernel_rfl) (by simp) (by decide) ⟨_,Aa.out,rfl⟩ ?_ (λ_ _ _ _ _ h=>h) (λ_ _ _ _ _ h=>h) ?_ ?_ ?_
 ·intro o' ho;simp at ho;subst ho;exact⟨{on:=20,ground:=Ground.data},by simp,rfl,rfl⟩
 ·intro i o' Y W h2 ho hb hall K hK;have HW:=ae hb;clear hb;rcases i with _|_|_|_|_|_|_|_|_|_|_|_|_|_|_|_|_|_|_|_|_|_|_|_|i
  ·simp at ho;subst ho;clear hall;refine ak rfl rfl (λK' hK'=>?_);go_simp;have hh:=hK' _ _ (hK _ _ (aV _ _) rfl);simpa [upd]using hh
  ·simp at ho;subst ho;have d0:Y 0=_:=hall {on:=0,ground:=Ground.data} (by simp) rfl (by decide);clear hall;refine ak rfl rfl (λK' hK'=>?_);go_simp;have hh:=hK' _ _ (hK _ _ (aV _ _) rfl);simpa [upd,d0]using hh
  ·simp at ho;subst ho;have d1:Y 1=_:=hall {on:=1,ground:=Ground.data} (by simp) rfl (by decide);clear hall;refine ak rfl rfl (λK' hK'=>?_);go_simp;have hh:=hK' _ _ (hK _ _ (aV _ _) rfl);simpa [upd,d1]using hh
  ·simp at ho;subst ho;have d2:Y 2=_:=hall {on:=2,ground:=Ground.data} (by simp) rfl (by decide);have q0:=HOLD.out W _ _ _ K2.out HW.out E4.out E1.out;clear hall;refine ak rfl rfl (λK' hK'=>?_);go_simp;have hh:=hK' _ _ (hK _ _ (aV _ _) rfl);simpa [upd,d2]using hh
  ·simp at ho;subst ho;clear hall;refine ak rfl rfl (λK' hK'=>?_);go_simp;have hh:=hK' _ _ (hK _ _ (aV _ _) rfl);simpa [upd]using hh
  ·simp at ho;subst ho;have d4:Y 4=_:=hall {on:=4,ground:=Ground.data} (by simp) rfl (by decide);have q0:=HOLD.out W _ _ _ (jh.cell (j:=4) rfl) HW.out jh.lt u6.out;clear hall;refine ak rfl rfl (λK' hK'=>?_);go_simp;have hh:=hK' _ _ (hK _ _ (aV _ _) rfl);simpa [upd,d4]using hh
  ·simp at ho;subst ho;clear hall;refine ak rfl rfl (λK' hK'=>?_);go_simp;have hh:=hK' _ _ (hK _ _ (aV _ _) rfl);simpa [upd]using hh
  ·simp at ho;subst ho;have d6:Y 6=_:=hall {on:=6,ground:=Ground.data} (by simp) rfl (by decide);clear hall;refine ak rfl rfl (λK' hK'=>?_);go_simp;have hh:=hK' _ _ (hK _ _ (aV _ _) rfl);simpa [upd,d6]using hh
  ·simp at ho;subst ho;have d7:Y 7=_:=hall {on:=7,ground:=Ground.data} (by simp) rfl (by decide);clear hall;refine ak rfl rfl (λK' hK'=>?_);go_simp;have hh:=hK' _ _ (hK _ _ (aV _ _) rfl);simpa [upd,d7]using hh
  ·simp at ho;subst ho;have d8:Y 8=_:=hall {on:=8,ground:=Ground.data} (by simp) rfl (by decide);have q0:=HOLD.out W _ _ _ CB.out HW.out E5.out E2.out;clear hall;refine ak rfl rfl (λK' hK'=>?_);go_simp;have hh:=hK' _ _ (hK _ _ (aV _ _) rfl);simpa [upd,d8]using hh
  ·simp at ho;subst ho;clear hall;refine ak rfl rfl (λK' hK'=>?_);go_simp;have hh:=hK' _ _ (hK _ _ (aV _ _) rfl);simpa [upd]using hh
  ·simp at ho;subst ho;have d10:Y 10=_:=hall {on:=10,ground:=Ground.data} (by simp) rfl (by decide);have q0:=HOLD.out W _ _ _ (jh.cell (j:=2) rfl) HW.out jh.lt u6.out;clear hall;refine ak rfl rfl (λK' hK'=>?_);go_simp;have hh:=hK' _ _ (hK _ _ (aV _ _) rfl);simpa [upd,d10]using hh
  ·simp at ho;subst ho;have d9:Y 9=_:=hall {on:=9,ground:=Ground.data} (by simp) rfl (by decide);have yN:Y 11=_:=hall {on:=11,ground:=Ground.data} (by simp) rfl (by decide);clear hall;refine ak rfl rfl (λK' hK'=>?_);go_simp;have hh:=hK' _ _ (hK _ _ (aV _ _) rfl);simpa [upd,d9,yN]using hh
  ·simp at ho;subst ho;have Nl:Y 12=_:=hall {on:=12,ground:=Ground.data} (by simp) rfl (by decide);have q0:=HOLD.out W _ _ _ Dg.out HW.out xm.out xk.out;have q1:=HOLD.out W _ _ _ Df.out HW.out xm.out xk.out;clear hall;refine ak rfl rfl (λK' hK'=>?_);go_simp;have hh:=hK' _ _ (hK _ _ (aV _ _) rfl);simpa [upd,Nl]using hh
  ·simp at ho;subst ho;clear hall;refine ak rfl rfl (λK' hK'=>?_);go_simp;have hh:=hK' _ _ (hK _ _ (aV _ _) rfl);simpa [upd]using hh
  ·simp at ho;subst ho;have d14:Y 14=_:=hall {on:=14,ground:=Ground.data} (by simp) rfl (by decide);have q0:=HOLD.out W _ _ _ (jh.cell (j:=5) rfl) HW.out jh.lt u6.out;clear hall;refine ak rfl rfl (λK' hK'=>?_);go_simp;have hh:=hK' _ _ (hK _ _ (aV _ _) rfl);simpa [upd,d14]using hh
  ·simp at ho;subst ho;have d15:Y 15=_:=hall {on:=15,ground:=Ground.data} (by simp) rfl (by decide);clear hall;refine ak rfl rfl (λK' hK'=>?_);go_simp;have hh:=hK' _ _ (hK _ _ (aV _ _) rfl);simpa [upd,d15]using hh
  ·simp at ho;subst ho;have d16:Y 16=_:=hall {on:=16,ground:=Ground.data} (by simp) rfl (by decide);have q0:=HOLD.out W _ _ _ HAB0.out HW.out HLab.out HNab.out;clear hall;refine ak rfl rfl (λK' hK'=>?_);go_simp;have hh:=hK' _ _ (hK _ _ (aV _ _) rfl);simpa [upd,d16]using hh
  ·simp at ho;subst ho;have d17:Y 17=_:=hall {on:=17,ground:=Ground.data} (by simp) rfl (by decide);clear hall;refine ak rfl rfl (λK' hK'=>?_);go_simp;have hh:=hK' _ _ (hK _ _ (aV _ _) rfl);simpa [upd,d17]using hh
  ·simp at ho;subst ho;have d3:Y 3=_:=hall {on:=3,ground:=Ground.data} (by simp) rfl (by decide);have d5:Y 5=_:=hall {on:=5,ground:=Ground.data} (by simp) rfl (by decide);have Q8:Y 13=_:=hall {on:=13,ground:=Ground.data} (by simp) rfl (by decide);have d18:Y 18=_:=hall {on:=18,ground:=Ground.data} (by simp) rfl (by decide);clear hall;refine ak rfl rfl (λK' hK'=>?_);go_simp;refine(iE.out W HW.out).mono ?_;rintro e W5 ⟨⟨y0,y1,rfl,hf⟩,hb5⟩;go_simp;have hh:=hK' _ _ (hK (.tuple #[.agg #[.int .i64 y0,.int .i64 y1],.bool r.isSome]) W5 hb5 ⟨y0,y1,rfl,hf⟩);simpa [upd,d3,d5,Q8,d18]using hh
  ·simp at ho;subst ho;obtain⟨y0,y1,dT,hf⟩:=hall {on:=19,ground:=Ground.data} (by simp) rfl (by decide);clear hall;refine ak rfl rfl (λK' hK'=>?_);go_simp;have hh:=hK' _ _ (hK (.agg #[.int .i64 y0,.int .i64 y1]) _ (aV _ _) ⟨y0,y1,rfl,hf⟩);simpa [upd,dT]using hh
  ·simp at ho;subst ho;obtain⟨y0,y1,dT,hf⟩:=hall {on:=19,ground:=Ground.data} (by simp) rfl (by decide);clear hall;refine ak rfl rfl (λK' hK'=>?_);go_simp;have hh:=hK' _ _ (hK (.bool r.isSome) _ (aV _ _) rfl);simpa [upd,dT]using hh
  ·exact absurd rfl h2
  ·simp at ho;subst ho;have d21:Y 21=_:=hall {on:=21,ground:=Ground.data} (by simp) rfl (by decide);clear hall;refine ak rfl rfl (λK' hK'=>?_);go_simp;have hh:=hK' _ _ (hK (.bool r.isSome) _ (aV _ _) rfl);simpa [upd,d21]using hh
  ·simp at ho
 ·intro o' Y W cs ho hrow hcs hcl K hK;simp at ho;subst ho;obtain⟨y0,y1,dA,_⟩:=hcl;obtain⟨e0,e1,rfl⟩:=Ar hcs;have q0:=hrow.cell (j:=0) rfl;have q1:=hrow.cell (j:=1) rfl;have k0:=hrow.free 0;have k1:=hrow.free 1;have dI:=ae hrow;clear hrow hcs;refine ak rfl rfl (λK' hK'=>?_);go_simp;have hh:=hK' _ _ (hK _ undef ((((Wr.refl (λi=>i=pw) W).cJ pw _ _ (aK rfl)).cJ pw _ _ (aK rfl))) (by rw[dA];exact((dI.set 0 _).set 1 _)) (by rw[dA];rfl));simpa [upd,dA]using hh
 ·intro Y W hw hrow hall;obtain⟨y0,y1,dA,hf⟩:=hall 20 (by simp) (by decide);have dF:Y 23=_:=hall 23 (by simp) (by decide);rw[dA]at hrow
  show Q .normal ⟨List.toArray ((Value.pointer (some ⟨rb,0,none⟩))::(Value.pointer (some ⟨fb,0,none⟩))::c2::c3::c4::(Value.pointer (some ⟨ib,0,none⟩))::(Value.pointer (some ⟨pw,0,none⟩))::Y 23::c8::c9::c10::c11::c12::c13::c14::c15::c16::c17::c18::c19::c20::c21::iU::iT::iX::iW::jM::jL::jK::jJ::jI::jH::jG::jF::jE::jD::jC::jB::jA::jo::jm::jy::kG::kF::kE::kD::kC::kB::jw::c49::kA::c51::jY::jX::jW::jV::jU::jT::jS::jR::jQ::jP::jO::jN::kV::kU::kT::kS::kR::kQ::kP::kO::kN::lN::kM::kL::Y 0::Y 1::Y 2::Y 3::Y 4::Y 5::Y 6::Y 7::Y 8::Y 9::Y 10::Y 11::Y 12::Y 13::Y 14::Y 15::Y 16::Y 17::Y 18::Y 19::Y 20::Y 21::mW::mV::eH::eG::eF::eD::ed::dZ::dY::dX::dW::dV::dU::dS::dR::dQ::dP::dO::dN::dH::dG::c119::dD::dC::eV::eU::eT::eQ::eP::fC::fB::fA::eZ::eY::mi::lZ::lY::lX::lW::[]),[]⟩ W
  rw[dF];exact uu.out W y0 y1 Y hw hrow hf
def vr7L(rb fb ib pw hb tb oG tl tc ma:Nat)(vL mO bv nv:Int)(AV:Value)(va:V)(r:Option V):List (Value->Prop):=[λv=>v= .pointer (some ⟨rb,0,none⟩),
 λv=>v= .pointer (some ⟨rb,0,none⟩),
 λv=>v= .pointer (some ⟨rb,4,none⟩),
 λv=>v= .pointer (some ⟨hb,0,none⟩),
 λv=>v= .pointer (some ⟨ib,4,none⟩),
 λv=>v= .int .i64 nv,
 λv=>v= .pointer (some ⟨fb,0,none⟩),
 λv=>v= .pointer (some ⟨fb,0,none⟩),
 λv=>v= .pointer (some ⟨fb,0,none⟩),
 λv=>v= .slice (some ⟨tb,oG,none⟩) tl tc,
 λv=>v= .pointer (some ⟨ib,2,none⟩),
 λv=>v= .int .i64 (ma:Nat),
 λv=>v= .pointer (some ⟨tb,oG+ma*2,none⟩),
 λv=>v= .agg #[.int .i64 va.obj,.int .i64 va.n],
 λv=>∃y0 y1,v= .tuple #[.agg #[.int .i64 y0,.int .i64 y1],.bool r.isSome]/\Fits r y0 y1,
 λv=>∃y0 y1,v= .agg #[.int .i64 y0,.int .i64 y1]/\Fits r y0 y1,
 λv=>v= .bool r.isSome,
 λ_=>True,
 λv=>v= .bool r.isSome]
def vr7C(rb fb ib pw hb tb oG tl tc ma:Nat)(vL mO bv nv:Int)(AV:Value)(va:V)(r:Option V)(i:Nat)(v:Value):Prop:=((vr7L rb fb ib pw hb tb oG tl tc ma vL mO bv nv AV va r).getD i (λ_=>True)) v
noncomputable def vr7R:Code:=(fU (Tryz.f85.body.getD .skip)).getD 15 .skip
theorem I1(rb fb ib pw hb tb oG tl tc ma:Nat)(vL mO bv nv:Int)(AV:Value)(va:V)(r:Option V)(w:World)
  (hr4:w.cell? ⟨rb,4,none⟩=some (.pointer (some ⟨hb,0,none⟩)))(wE:rb<w.heap.size)(wA:rb≠pw)(hf0:w.cell? ⟨fb,0,none⟩=some (.slice (some ⟨tb,oG,none⟩) tl tc))(wF:fb<w.heap.size)(wC:fb≠pw)
  (hib:Row w ib #[.int .i64 vL,.int .i64 mO,.int .i64 (ma:Nat),.int .i64 bv,.int .i64 nv,AV] 94)(wB:ib≠pw)(lh:ma<tl)(wD:tb<w.heap.size)(tD:tb≠pw)(vY:w.cell? ⟨tb,oG+ma*2,none⟩=some (.int .i64 va.obj))(vX:w.cell? ⟨tb,oG+ma*2+1,none⟩=some (.int .i64 va.n))(hpw:Row w pw #[.int .i64 0,.int .i64 0] 75)
  (hcall:∀W,Wr (λi=>i=pw) w W->Calls prog 102 #[.pointer (some ⟨hb,0,none⟩),.int .i64 nv,.agg #[.int .i64 va.obj,.int .i64 va.n]] W λe w'=>(∃y0 y1,e= .returned (.tuple #[.agg #[.int .i64 y0,.int .i64 y1],.bool r.isSome])/\Fits r y0 y1)/\Below W.heap.size W w')
  {c2 c3 c4 c7 c8 c9 c10 c11 c12 c13 c14 c15 c16 c17 c18 c19 c20 c21 iU iT iX iW jM jL jK jJ jI jH jG jF jE jD jC jB jA jo jm jy kG kF kE kD kC kB jw c49 kA c51 jY jX jW jV jU jT jS jR jQ jP jO jN kV kU kT kS kR kQ kP kO kN lN kM kL lM lL lK lJ lI lH mY mD mC lG lF lD lC lB lA mX nA nz ny ni m9 m6 mW mV eH eG eF eD ed dZ dY dX dW dV dU dS dR dQ dP dO dN dH dG c119 dD dC eV eU eT eQ eP fC fB fA eZ eY mi lZ lY lX lW:Value}(Q:Exit->Act->World->Prop)
  (cL:∀(W:World)(y0 y1:Int)(Y:Nat->Value),Wr (λi=>i=pw) w W->Row W pw #[.int .i64 y0,.int .i64 y1] 75->Fits r y0 y1->Q .normal ⟨List.toArray ((Value.pointer (some ⟨rb,0,none⟩))::(Value.pointer (some ⟨fb,0,none⟩))::c2::c3::c4::(Value.pointer (some ⟨ib,0,none⟩))::(Value.pointer (some ⟨pw,0,none⟩))::(Value.bool r.isSome)::c8::c9::c10::c11::c12::c13::c14::c15::c16::c17::c18::c19::c20::c21::iU::iT::iX::iW::jM::jL::jK::jJ::jI::jH::jG::jF::jE::jD::jC::jB::jA::jo::jm::jy::kG::kF::kE::kD::kC::kB::jw::c49::kA::c51::jY::jX::jW::jV::jU::jT::jS::jR::jQ::jP::jO::jN::kV::kU::kT::kS::kR::kQ::kP::kO::kN::lN::kM::kL::lM::lL::lK::lJ::lI::lH::mY::mD::mC::lG::lF::lD::lC::lB::lA::mX::nA::nz::ny::ni::m9::m6::mW::mV::Y 0::Y 1::Y 2::Y 3::Y 4::Y 5::Y 6::Y 7::Y 8::Y 9::Y 10::Y 11::Y 12::Y 13::Y 14::Y 15::Y 16::dH::dG::c119::dD::dC::eV::eU::eT::eQ::eP::fC::fB::fA::eZ::eY::mi::lZ::lY::lX::lW::[]),[]⟩ W):
  Code.wp prog vr7R Q ⟨List.toArray ((Value.pointer (some ⟨rb,0,none⟩))::(Value.pointer (some ⟨fb,0,none⟩))::c2::c3::c4::(Value.pointer (some ⟨ib,0,none⟩))::(Value.pointer (some ⟨pw,0,none⟩))::c7::c8::c9::c10::c11::c12::c13::c14::c15::c16::c17::c18::c19::c20::c21::iU::iT::iX::iW::jM::jL::jK::jJ::jI::jH::jG::jF::jE::jD::jC::jB::jA::jo::jm::jy::kG::kF::kE::kD::kC::kB::jw::c49::kA::c51::jY::jX::jW::jV::jU::jT::jS::jR::jQ::jP::jO::jN::kV::kU::kT::kS::kR::kQ::kP::kO::kN::lN::kM::kL::lM::lL::lK::lJ::lI::lH::mY::mD::mC::lG::lF::lD::lC::lB::lA::mX::nA::nz::ny::ni::m9::m6::mW::mV::eH::eG::eF::eD::ed::dZ::dY::dX::dW::dV::dU::dS::dR::dQ::dP::dO::dN::dH::dG::c119::dD::dC::eV::eU::eT::eQ::eP::fC::fB::fA::eZ::eY::mi::lZ::lY::lX::lW::[]),[]⟩ w:=by
 have zo:(0:Int)<=(ma:Int):=by omega
 have Sm:(ma:Int)<(tl:Int):=by omega
 have K2:=ae hr4;have E4:=ae wE;have E1:=ae wA;have CB:=ae hf0;have E5:=ae wF;have E2:=ae wC;have jh:=ae hib;have u6:=ae wB;have xm:=ae wD;have xk:=ae tD;have Dg:=ae vY;have Df:=ae vX;have Aa:=ae hpw;have iE:=ae hcall;have HOLD:=ae (show∀(W:World)(b j:Nat)(v:Value),w.cell? ⟨b,j,none⟩=some v->Wr (λi=>i=pw) w W->b<w.heap.size->b≠pw->W.cell? ⟨b,j,none⟩=some v from λW b j v h hw hlt hne=>(World.cell?_of_block (a:=⟨b,j,none⟩) (hw.block b hlt hne)).trans h);clear hr4 wE wA hf0 wF wC hib wB lh wD tD vY vX hpw hcall;have uu:=ae cL;clear cL
 conv=>arg 2;whnf
 refine nK (by kernel_rfl) 17 15 pw 2 75 yR (λ_=>vr7C rb fb ib pw hb tb oG tl tc ma vL mO bv nv AV va r) (λY=>⟨List.toArray ((Value.pointer (some ⟨rb,0,none⟩))::(Value.pointer (some ⟨fb,0,none⟩))::c2::c3::c4::(Value.pointer (some ⟨ib,0,none⟩))::(Value.pointer (some ⟨pw,0,none⟩))::Y 18::c8::c9::c10::c11::c12::c13::c14::c15::c16::c17::c18::c19::c20::c21::iU::iT::iX::iW::jM::jL::jK::jJ::jI::jH::jG::jF::jE::jD::jC::jB::jA::jo::jm::jy::kG::kF::kE::kD::kC::kB::jw::c49::kA::c51::jY::jX::jW::jV::jU::jT::jS::jR::jQ::jP::jO::jN::kV::kU::kT::kS::kR::kQ::kP::kO::kN::lN::kM::kL::lM::lL::lK::lJ::lI::lH::mY::mD::mC::lG::lF::lD::lC::lB::lA::mX::nA::nz::ny::ni::m9::m6::mW::mV::Y 0::Y 1::Y 2::Y 3::Y 4::Y 5::Y 6::Y 7::Y 8::Y 9::Y 10::Y 11::Y 12::Y 13::Y 14::Y 15::Y 16::dH::dG::c119::dD::dC::eV::eU::eT::eQ::eP::fC::fB::fA::eZ::eY::mi::lZ::lY::lX::lW::[]),[]⟩) (λi=>if i=0 then eH else if i=1 then eG else if i=2 then eF else if i=3 then eD else if i=4 then ed else if i=5 then dZ else if i=6 then dY else if i=7 then dX else if i=8 then dW else if i=9 then dV else if i=10 then dU else if i=11 then dS else if i=12 then dR else if i=13 then dQ else if i=14 then dP else if i=15 then dO else if i=16 then dN else if i=18 then c7 else undef) rfl (by kernel_rfl) (by simp) (by decide) ⟨_,Aa.out,rfl⟩ ?_ (λ_ _ _ _ _ h=>h) (λ_ _ _ _ _ h=>h) ?_ ?_ ?_
 ·intro o' ho;simp at ho;subst ho;exact⟨{on:=15,ground:=Ground.data},by simp,rfl,rfl⟩
 ·intro i o' Y W h2 ho hb hall K hK;have HW:=ae hb;clear hb;rcases i with _|_|_|_|_|_|_|_|_|_|_|_|_|_|_|_|_|_|_|i
  ·simp at ho;subst ho;clear hall;refine ak rfl rfl (λK' hK'=>?_);go_simp;have hh:=hK' _ _ (hK _ _ (aV _ _) rfl);simpa [upd]using hh
  ·simp at ho;subst ho;have d0:Y 0=_:=hall {on:=0,ground:=Ground.data} (by simp) rfl (by decide);clear hall;refine ak rfl rfl (λK' hK'=>?_);go_simp;have hh:=hK' _ _ (hK _ _ (aV _ _) rfl);simpa [upd,d0]using hh
  ·simp at ho;subst ho;have d1:Y 1=_:=hall {on:=1,ground:=Ground.data} (by simp) rfl (by decide);clear hall;refine ak rfl rfl (λK' hK'=>?_);go_simp;have hh:=hK' _ _ (hK _ _ (aV _ _) rfl);simpa [upd,d1]using hh
  ·simp at ho;subst ho;have d2:Y 2=_:=hall {on:=2,ground:=Ground.data} (by simp) rfl (by decide);have q0:=HOLD.out W _ _ _ K2.out HW.out E4.out E1.out;clear hall;refine ak rfl rfl (λK' hK'=>?_);go_simp;have hh:=hK' _ _ (hK _ _ (aV _ _) rfl);simpa [upd,d2]using hh
  ·simp at ho;subst ho;clear hall;refine ak rfl rfl (λK' hK'=>?_);go_simp;have hh:=hK' _ _ (hK _ _ (aV _ _) rfl);simpa [upd]using hh
  ·simp at ho;subst ho;have d4:Y 4=_:=hall {on:=4,ground:=Ground.data} (by simp) rfl (by decide);have q0:=HOLD.out W _ _ _ (jh.cell (j:=4) rfl) HW.out jh.lt u6.out;clear hall;refine ak rfl rfl (λK' hK'=>?_);go_simp;have hh:=hK' _ _ (hK _ _ (aV _ _) rfl);simpa [upd,d4]using hh
  ·simp at ho;subst ho;clear hall;refine ak rfl rfl (λK' hK'=>?_);go_simp;have hh:=hK' _ _ (hK _ _ (aV _ _) rfl);simpa [upd]using hh
  ·simp at ho;subst ho;have d6:Y 6=_:=hall {on:=6,ground:=Ground.data} (by simp) rfl (by decide);clear hall;refine ak rfl rfl (λK' hK'=>?_);go_simp;have hh:=hK' _ _ (hK _ _ (aV _ _) rfl);simpa [upd,d6]using hh
  ·simp at ho;subst ho;have d7:Y 7=_:=hall {on:=7,ground:=Ground.data} (by simp) rfl (by decide);clear hall;refine ak rfl rfl (λK' hK'=>?_);go_simp;have hh:=hK' _ _ (hK _ _ (aV _ _) rfl);simpa [upd,d7]using hh
  ·simp at ho;subst ho;have d8:Y 8=_:=hall {on:=8,ground:=Ground.data} (by simp) rfl (by decide);have q0:=HOLD.out W _ _ _ CB.out HW.out E5.out E2.out;clear hall;refine ak rfl rfl (λK' hK'=>?_);go_simp;have hh:=hK' _ _ (hK _ _ (aV _ _) rfl);simpa [upd,d8]using hh
  ·simp at ho;subst ho;clear hall;refine ak rfl rfl (λK' hK'=>?_);go_simp;have hh:=hK' _ _ (hK _ _ (aV _ _) rfl);simpa [upd]using hh
  ·simp at ho;subst ho;have d10:Y 10=_:=hall {on:=10,ground:=Ground.data} (by simp) rfl (by decide);have q0:=HOLD.out W _ _ _ (jh.cell (j:=2) rfl) HW.out jh.lt u6.out;clear hall;refine ak rfl rfl (λK' hK'=>?_);go_simp;have hh:=hK' _ _ (hK _ _ (aV _ _) rfl);simpa [upd,d10]using hh
  ·simp at ho;subst ho;have d9:Y 9=_:=hall {on:=9,ground:=Ground.data} (by simp) rfl (by decide);have yN:Y 11=_:=hall {on:=11,ground:=Ground.data} (by simp) rfl (by decide);clear hall;refine ak rfl rfl (λK' hK'=>?_);go_simp;have hh:=hK' _ _ (hK _ _ (aV _ _) rfl);simpa [upd,d9,yN]using hh
  ·simp at ho;subst ho;have Nl:Y 12=_:=hall {on:=12,ground:=Ground.data} (by simp) rfl (by decide);have q0:=HOLD.out W _ _ _ Dg.out HW.out xm.out xk.out;have q1:=HOLD.out W _ _ _ Df.out HW.out xm.out xk.out;clear hall;refine ak rfl rfl (λK' hK'=>?_);go_simp;have hh:=hK' _ _ (hK _ _ (aV _ _) rfl);simpa [upd,Nl]using hh
  ·simp at ho;subst ho;have d3:Y 3=_:=hall {on:=3,ground:=Ground.data} (by simp) rfl (by decide);have d5:Y 5=_:=hall {on:=5,ground:=Ground.data} (by simp) rfl (by decide);have Q8:Y 13=_:=hall {on:=13,ground:=Ground.data} (by simp) rfl (by decide);clear hall;refine ak rfl rfl (λK' hK'=>?_);go_simp;refine(iE.out W HW.out).mono ?_;rintro e W5 ⟨⟨y0,y1,rfl,hf⟩,hb5⟩;go_simp;have hh:=hK' _ _ (hK (.tuple #[.agg #[.int .i64 y0,.int .i64 y1],.bool r.isSome]) W5 hb5 ⟨y0,y1,rfl,hf⟩);simpa [upd,d3,d5,Q8]using hh
  ·simp at ho;subst ho;obtain⟨y0,y1,dT,hf⟩:=hall {on:=14,ground:=Ground.data} (by simp) rfl (by decide);clear hall;refine ak rfl rfl (λK' hK'=>?_);go_simp;have hh:=hK' _ _ (hK (.agg #[.int .i64 y0,.int .i64 y1]) _ (aV _ _) ⟨y0,y1,rfl,hf⟩);simpa [upd,dT]using hh
  ·simp at ho;subst ho;obtain⟨y0,y1,dT,hf⟩:=hall {on:=14,ground:=Ground.data} (by simp) rfl (by decide);clear hall;refine ak rfl rfl (λK' hK'=>?_);go_simp;have hh:=hK' _ _ (hK (.bool r.isSome) _ (aV _ _) rfl);simpa [upd,dT]using hh
  ·exact absurd rfl h2
  ·simp at ho;subst ho;have d16:Y 16=_:=hall {on:=16,ground:=Ground.data} (by simp) rfl (by decide);clear hall;refine ak rfl rfl (λK' hK'=>?_);go_simp;have hh:=hK' _ _ (hK (.bool r.isSome) _ (aV _ _) rfl);simpa [upd,d16]using hh
  ·simp at ho
 ·intro o' Y W cs ho hrow hcs hcl K hK;simp at ho;subst ho;obtain⟨y0,y1,dA,_⟩:=hcl;obtain⟨e0,e1,rfl⟩:=Ar hcs;have q0:=hrow.cell (j:=0) rfl;have q1:=hrow.cell (j:=1) rfl;have k0:=hrow.free 0;have k1:=hrow.free 1;have dI:=ae hrow;clear hrow hcs;refine ak rfl rfl (λK' hK'=>?_);go_simp;have hh:=hK' _ _ (hK _ undef ((((Wr.refl (λi=>i=pw) W).cJ pw _ _ (aK rfl)).cJ pw _ _ (aK rfl))) (by rw[dA];exact((dI.set 0 _).set 1 _)) (by rw[dA];rfl));simpa [upd,dA]using hh
 ·intro Y W hw hrow hall;obtain⟨y0,y1,dA,hf⟩:=hall 15 (by simp) (by decide);have dF:Y 18=_:=hall 18 (by simp) (by decide);rw[dA]at hrow
  show Q .normal ⟨List.toArray ((Value.pointer (some ⟨rb,0,none⟩))::(Value.pointer (some ⟨fb,0,none⟩))::c2::c3::c4::(Value.pointer (some ⟨ib,0,none⟩))::(Value.pointer (some ⟨pw,0,none⟩))::Y 18::c8::c9::c10::c11::c12::c13::c14::c15::c16::c17::c18::c19::c20::c21::iU::iT::iX::iW::jM::jL::jK::jJ::jI::jH::jG::jF::jE::jD::jC::jB::jA::jo::jm::jy::kG::kF::kE::kD::kC::kB::jw::c49::kA::c51::jY::jX::jW::jV::jU::jT::jS::jR::jQ::jP::jO::jN::kV::kU::kT::kS::kR::kQ::kP::kO::kN::lN::kM::kL::lM::lL::lK::lJ::lI::lH::mY::mD::mC::lG::lF::lD::lC::lB::lA::mX::nA::nz::ny::ni::m9::m6::mW::mV::Y 0::Y 1::Y 2::Y 3::Y 4::Y 5::Y 6::Y 7::Y 8::Y 9::Y 10::Y 11::Y 12::Y 13::Y 14::Y 15::Y 16::dH::dG::c119::dD::dC::eV::eU::eT::eQ::eP::fC::fB::fA::eZ::eY::mi::lZ::lY::lX::lW::[]),[]⟩ W
  rw[dF];exact uu.out W y0 y1 Y hw hrow hf
def vr8L(vb rb fb ib pw hb tb oG tl tc ma:Nat)(vL mO bv nv:Int)(AV:Value)(va wv:V)(r:Option V):List (Value->Prop):=[λv=>v= .pointer (some ⟨rb,0,none⟩),
 λv=>v= .pointer (some ⟨rb,0,none⟩),
 λv=>v= .pointer (some ⟨rb,4,none⟩),
 λv=>v= .pointer (some ⟨hb,0,none⟩),
 λv=>v= .pointer (some ⟨ib,4,none⟩),
 λv=>v= .int .i64 nv,
 λv=>v= .agg #[.int .i64 wv.obj,.int .i64 wv.n],
 λv=>∃y0 y1,v= .tuple #[.agg #[.int .i64 y0,.int .i64 y1],.bool r.isSome]/\Fits r y0 y1,
 λv=>∃y0 y1,v= .agg #[.int .i64 y0,.int .i64 y1]/\Fits r y0 y1,
 λv=>v= .bool r.isSome,
 λ_=>True,
 λv=>v= .bool r.isSome]
def vr8C(vb rb fb ib pw hb tb oG tl tc ma:Nat)(vL mO bv nv:Int)(AV:Value)(va wv:V)(r:Option V)(i:Nat)(v:Value):Prop:=((vr8L vb rb fb ib pw hb tb oG tl tc ma vL mO bv nv AV va wv r).getD i (λ_=>True)) v
noncomputable def vr8R:Code:=(fU (Tryz.f85.body.getD .skip)).getD 19 .skip
theorem I0(vb rb fb ib pw hb tb oG tl tc ma:Nat)(vL mO bv nv:Int)(AV:Value)(va wv:V)(r:Option V)(w:World)
  (hr4:w.cell? ⟨rb,4,none⟩=some (.pointer (some ⟨hb,0,none⟩)))(wE:rb<w.heap.size)(wA:rb≠pw)(hf0:w.cell? ⟨fb,0,none⟩=some (.slice (some ⟨tb,oG,none⟩) tl tc))(wF:fb<w.heap.size)(wC:fb≠pw)
  (hib:Row w ib #[.int .i64 vL,.int .i64 mO,.int .i64 (ma:Nat),.int .i64 bv,.int .i64 nv,AV] 94)(wB:ib≠pw)(lh:ma<tl)(wD:tb<w.heap.size)(tD:tb≠pw)(vY:w.cell? ⟨tb,oG+ma*2,none⟩=some (.int .i64 va.obj))(vX:w.cell? ⟨tb,oG+ma*2+1,none⟩=some (.int .i64 va.n))(hpw:Row w pw #[.int .i64 0,.int .i64 0] 75)(hvb:Row w vb #[.int .i64 wv.obj,.int .i64 wv.n] 75)(Zn:vb≠pw)
  (hcall:∀W,Wr (λi=>i=pw) w W->Calls prog 103 #[.pointer (some ⟨hb,0,none⟩),.int .i64 nv,.agg #[.int .i64 wv.obj,.int .i64 wv.n]] W λe w'=>(∃y0 y1,e= .returned (.tuple #[.agg #[.int .i64 y0,.int .i64 y1],.bool r.isSome])/\Fits r y0 y1)/\Below W.heap.size W w')
  {c2 c3 c4 c7 c9 c10 c11 c12 c13 c14 c15 c16 c17 c18 c19 c20 c21 iU iT iX iW jM jL jK jJ jI jH jG jF jE jD jC jB jA jo jm jy kG kF kE kD kC kB jw c49 kA c51 jY jX jW jV jU jT jS jR jQ jP jO jN kV kU kT kS kR kQ kP kO kN lN kM kL lM lL lK lJ lI lH mY mD mC lG lF lD lC lB lA mX nA nz ny ni m9 m6 mW mV eH eG eF eD ed dZ dY dX dW dV dU dS dR dQ dP dO dN dH dG c119 dD dC eV eU eT eQ eP fC fB fA eZ eY mi lZ lY lX lW:Value}(Q:Exit->Act->World->Prop)
  (cL:∀(W:World)(y0 y1:Int)(Y:Nat->Value),Wr (λi=>i=pw) w W->Row W pw #[.int .i64 y0,.int .i64 y1] 75->Fits r y0 y1->Q .normal ⟨List.toArray ((Value.pointer (some ⟨rb,0,none⟩))::(Value.pointer (some ⟨fb,0,none⟩))::c2::c3::c4::(Value.pointer (some ⟨ib,0,none⟩))::(Value.pointer (some ⟨pw,0,none⟩))::(Value.bool r.isSome)::(Value.pointer (some ⟨vb,0,none⟩))::c9::c10::c11::c12::c13::c14::c15::c16::c17::c18::c19::c20::c21::iU::iT::iX::iW::jM::jL::jK::jJ::jI::jH::jG::jF::jE::jD::jC::jB::jA::jo::jm::jy::kG::kF::kE::kD::kC::kB::jw::c49::kA::c51::jY::jX::jW::jV::jU::jT::jS::jR::jQ::jP::jO::jN::kV::kU::kT::kS::kR::kQ::kP::kO::kN::lN::kM::kL::lM::lL::lK::lJ::lI::lH::mY::mD::mC::lG::lF::lD::lC::lB::lA::mX::nA::nz::ny::ni::m9::m6::mW::mV::eH::eG::eF::eD::ed::dZ::dY::dX::dW::dV::dU::dS::dR::dQ::dP::dO::dN::dH::dG::c119::dD::dC::eV::eU::eT::eQ::eP::Y 0::Y 1::Y 2::Y 3::Y 4::Y 5::Y 6::Y 7::Y 8::Y 9::[]),[]⟩ W):
  Code.wp prog vr8R Q ⟨List.toArray ((Value.pointer (some ⟨rb,0,none⟩))::(Value.pointer (some ⟨fb,0,none⟩))::c2::c3::c4::(Value.pointer (some ⟨ib,0,none⟩))::(Value.pointer (some ⟨pw,0,none⟩))::c7::(Value.pointer (some ⟨vb,0,none⟩))::c9::c10::c11::c12::c13::c14::c15::c16::c17::c18::c19::c20::c21::iU::iT::iX::iW::jM::jL::jK::jJ::jI::jH::jG::jF::jE::jD::jC::jB::jA::jo::jm::jy::kG::kF::kE::kD::kC::kB::jw::c49::kA::c51::jY::jX::jW::jV::jU::jT::jS::jR::jQ::jP::jO::jN::kV::kU::kT::kS::kR::kQ::kP::kO::kN::lN::kM::kL::lM::lL::lK::lJ::lI::lH::mY::mD::mC::lG::lF::lD::lC::lB::lA::mX::nA::nz::ny::ni::m9::m6::mW::mV::eH::eG::eF::eD::ed::dZ::dY::dX::dW::dV::dU::dS::dR::dQ::dP::dO::dN::dH::dG::c119::dD::dC::eV::eU::eT::eQ::eP::fC::fB::fA::eZ::eY::mi::lZ::lY::lX::lW::[]),[]⟩ w:=by
 have zo:(0:Int)<=(ma:Int):=by omega
 have Sm:(ma:Int)<(tl:Int):=by omega
 have K2:=ae hr4;have E4:=ae wE;have E1:=ae wA;have CB:=ae hf0;have E5:=ae wF;have E2:=ae wC;have jh:=ae hib;have u6:=ae wB;have xm:=ae wD;have xk:=ae tD;have Dg:=ae vY;have Df:=ae vX;have Aa:=ae hpw;have iE:=ae hcall;have HOLD:=ae (show∀(W:World)(b j:Nat)(v:Value),w.cell? ⟨b,j,none⟩=some v->Wr (λi=>i=pw) w W->b<w.heap.size->b≠pw->W.cell? ⟨b,j,none⟩=some v from λW b j v h hw hlt hne=>(World.cell?_of_block (a:=⟨b,j,none⟩) (hw.block b hlt hne)).trans h);clear hr4 wE wA hf0 wF wC hib wB lh wD tD vY vX hpw hcall;have HVB:=ae hvb;have HNvb:=ae Zn;clear hvb Zn;have uu:=ae cL;clear cL
 conv=>arg 2;whnf
 refine nK (by kernel_rfl) 10 8 pw 2 75 yR (λ_=>vr8C vb rb fb ib pw hb tb oG tl tc ma vL mO bv nv AV va wv r) (λY=>⟨List.toArray ((Value.pointer (some ⟨rb,0,none⟩))::(Value.pointer (some ⟨fb,0,none⟩))::c2::c3::c4::(Value.pointer (some ⟨ib,0,none⟩))::(Value.pointer (some ⟨pw,0,none⟩))::Y 11::(Value.pointer (some ⟨vb,0,none⟩))::c9::c10::c11::c12::c13::c14::c15::c16::c17::c18::c19::c20::c21::iU::iT::iX::iW::jM::jL::jK::jJ::jI::jH::jG::jF::jE::jD::jC::jB::jA::jo::jm::jy::kG::kF::kE::kD::kC::kB::jw::c49::kA::c51::jY::jX::jW::jV::jU::jT::jS::jR::jQ::jP::jO::jN::kV::kU::kT::kS::kR::kQ::kP::kO::kN::lN::kM::kL::lM::lL::lK::lJ::lI::lH::mY::mD::mC::lG::lF::lD::lC::lB::lA::mX::nA::nz::ny::ni::m9::m6::mW::mV::eH::eG::eF::eD::ed::dZ::dY::dX::dW::dV::dU::dS::dR::dQ::dP::dO::dN::dH::dG::c119::dD::dC::eV::eU::eT::eQ::eP::Y 0::Y 1::Y 2::Y 3::Y 4::Y 5::Y 6::Y 7::Y 8::Y 9::[]),[]⟩) (λi=>if i=0 then fC else if i=1 then fB else if i=2 then fA else if i=3 then eZ else if i=4 then eY else if i=5 then mi else if i=6 then lZ else if i=7 then lY else if i=8 then lX else if i=9 then lW else if i=11 then c7 else undef) rfl (by kernel_rfl) (by simp) (by decide) ⟨_,Aa.out,rfl⟩ ?_ (λ_ _ _ _ _ h=>h) (λ_ _ _ _ _ h=>h) ?_ ?_ ?_
 ·intro o' ho;simp at ho;subst ho;exact⟨{on:=8,ground:=Ground.data},by simp,rfl,rfl⟩
 ·intro i o' Y W h2 ho hb hall K hK;have HW:=ae hb;clear hb;rcases i with _|_|_|_|_|_|_|_|_|_|_|_|i
  ·simp at ho;subst ho;clear hall;refine ak rfl rfl (λK' hK'=>?_);go_simp;have hh:=hK' _ _ (hK _ _ (aV _ _) rfl);simpa [upd]using hh
  ·simp at ho;subst ho;have d0:Y 0=_:=hall {on:=0,ground:=Ground.data} (by simp) rfl (by decide);clear hall;refine ak rfl rfl (λK' hK'=>?_);go_simp;have hh:=hK' _ _ (hK _ _ (aV _ _) rfl);simpa [upd,d0]using hh
  ·simp at ho;subst ho;have d1:Y 1=_:=hall {on:=1,ground:=Ground.data} (by simp) rfl (by decide);clear hall;refine ak rfl rfl (λK' hK'=>?_);go_simp;have hh:=hK' _ _ (hK _ _ (aV _ _) rfl);simpa [upd,d1]using hh
  ·simp at ho;subst ho;have d2:Y 2=_:=hall {on:=2,ground:=Ground.data} (by simp) rfl (by decide);have q0:=HOLD.out W _ _ _ K2.out HW.out E4.out E1.out;clear hall;refine ak rfl rfl (λK' hK'=>?_);go_simp;have hh:=hK' _ _ (hK _ _ (aV _ _) rfl);simpa [upd,d2]using hh
  ·simp at ho;subst ho;clear hall;refine ak rfl rfl (λK' hK'=>?_);go_simp;have hh:=hK' _ _ (hK _ _ (aV _ _) rfl);simpa [upd]using hh
  ·simp at ho;subst ho;have d4:Y 4=_:=hall {on:=4,ground:=Ground.data} (by simp) rfl (by decide);have q0:=HOLD.out W _ _ _ (jh.cell (j:=4) rfl) HW.out jh.lt u6.out;clear hall;refine ak rfl rfl (λK' hK'=>?_);go_simp;have hh:=hK' _ _ (hK _ _ (aV _ _) rfl);simpa [upd,d4]using hh
  ·simp at ho;subst ho;have q0:=HOLD.out W _ _ _ (HVB.cell (j:=0) rfl) HW.out HVB.lt HNvb.out;have q1:=HOLD.out W _ _ _ (HVB.cell (j:=1) rfl) HW.out HVB.lt HNvb.out;clear hall;refine ak rfl rfl (λK' hK'=>?_);go_simp;have hh:=hK' _ _ (hK _ _ (aV _ _) rfl);simpa [upd]using hh
  ·simp at ho;subst ho;have d3:Y 3=_:=hall {on:=3,ground:=Ground.data} (by simp) rfl (by decide);have d5:Y 5=_:=hall {on:=5,ground:=Ground.data} (by simp) rfl (by decide);have d6:Y 6=_:=hall {on:=6,ground:=Ground.data} (by simp) rfl (by decide);clear hall;refine ak rfl rfl (λK' hK'=>?_);go_simp;refine(iE.out W HW.out).mono ?_;rintro e W5 ⟨⟨y0,y1,rfl,hf⟩,hb5⟩;go_simp;have hh:=hK' _ _ (hK (.tuple #[.agg #[.int .i64 y0,.int .i64 y1],.bool r.isSome]) W5 hb5 ⟨y0,y1,rfl,hf⟩);simpa [upd,d3,d5,d6]using hh
  ·simp at ho;subst ho;obtain⟨y0,y1,dT,hf⟩:=hall {on:=7,ground:=Ground.data} (by simp) rfl (by decide);clear hall;refine ak rfl rfl (λK' hK'=>?_);go_simp;have hh:=hK' _ _ (hK (.agg #[.int .i64 y0,.int .i64 y1]) _ (aV _ _) ⟨y0,y1,rfl,hf⟩);simpa [upd,dT]using hh
  ·simp at ho;subst ho;obtain⟨y0,y1,dT,hf⟩:=hall {on:=7,ground:=Ground.data} (by simp) rfl (by decide);clear hall;refine ak rfl rfl (λK' hK'=>?_);go_simp;have hh:=hK' _ _ (hK (.bool r.isSome) _ (aV _ _) rfl);simpa [upd,dT]using hh
  ·exact absurd rfl h2
  ·simp at ho;subst ho;have d9:Y 9=_:=hall {on:=9,ground:=Ground.data} (by simp) rfl (by decide);clear hall;refine ak rfl rfl (λK' hK'=>?_);go_simp;have hh:=hK' _ _ (hK (.bool r.isSome) _ (aV _ _) rfl);simpa [upd,d9]using hh
  ·simp at ho
 ·intro o' Y W cs ho hrow hcs hcl K hK;simp at ho;subst ho;obtain⟨y0,y1,dA,_⟩:=hcl;obtain⟨e0,e1,rfl⟩:=Ar hcs;have q0:=hrow.cell (j:=0) rfl;have q1:=hrow.cell (j:=1) rfl;have k0:=hrow.free 0;have k1:=hrow.free 1;have dI:=ae hrow;clear hrow hcs;refine ak rfl rfl (λK' hK'=>?_);go_simp;have hh:=hK' _ _ (hK _ undef ((((Wr.refl (λi=>i=pw) W).cJ pw _ _ (aK rfl)).cJ pw _ _ (aK rfl))) (by rw[dA];exact((dI.set 0 _).set 1 _)) (by rw[dA];rfl));simpa [upd,dA]using hh
 ·intro Y W hw hrow hall;obtain⟨y0,y1,dA,hf⟩:=hall 8 (by simp) (by decide);have dF:Y 11=_:=hall 11 (by simp) (by decide);rw[dA]at hrow
  show Q .normal ⟨List.toArray ((Value.pointer (some ⟨rb,0,none⟩))::(Value.pointer (some ⟨fb,0,none⟩))::c2::c3::c4::(Value.pointer (some ⟨ib,0,none⟩))::(Value.pointer (some ⟨pw,0,none⟩))::Y 11::(Value.pointer (some ⟨vb,0,none⟩))::c9::c10::c11::c12::c13::c14::c15::c16::c17::c18::c19::c20::c21::iU::iT::iX::iW::jM::jL::jK::jJ::jI::jH::jG::jF::jE::jD::jC::jB::jA::jo::jm::jy::kG::kF::kE::kD::kC::kB::jw::c49::kA::c51::jY::jX::jW::jV::jU::jT::jS::jR::jQ::jP::jO::jN::kV::kU::kT::kS::kR::kQ::kP::kO::kN::lN::kM::kL::lM::lL::lK::lJ::lI::lH::mY::mD::mC::lG::lF::lD::lC::lB::lA::mX::nA::nz::ny::ni::m9::m6::mW::mV::eH::eG::eF::eD::ed::dZ::dY::dX::dW::dV::dU::dS::dR::dQ::dP::dO::dN::dH::dG::c119::dD::dC::eV::eU::eT::eQ::eP::Y 0::Y 1::Y 2::Y 3::Y 4::Y 5::Y 6::Y 7::Y 8::Y 9::[]),[]⟩ W
  rw[dF];exact uu.out W y0 y1 Y hw hrow hf
end Go.Proofs.YtinmgbodgecoeaaGreat
