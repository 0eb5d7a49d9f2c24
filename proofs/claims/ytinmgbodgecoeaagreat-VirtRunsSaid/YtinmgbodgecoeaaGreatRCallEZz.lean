/- gantletref14: a call's rounds, one an instruction. Conditions: as stated. -/
import Derived.Test.YtinmgbodgecoeaaGreatQ16Zz
set_option linter.unusedSimpArgs false
set_option linter.unusedVariables false
set_option maxHeartbeats 8000000
set_option maxRecDepth 100000
open Go.Proofs.Tryz
namespace Go.Proofs.YtinmgbodgecoeaaGreat
open Go.RowKit
theorem J0{l:List bg}(h:i6 [] l=true):∀(k:Nat),k<=l.length->∀j:Nat,dh (l.take k) j=true->oH l k j=(gG l j:Nat)
 |0,_,j,hj=>by simp[dh]at hj
 |k+1,hk,j,hj=>by
  have hkl:k<l.length:=by omega
  have hx:l[k]? =some (l[k]'hkl):=List.getElem?_eq_getElem hkl;obtain⟨x,J8⟩:∃x,x=l[k]'hkl:=⟨_,rfl⟩
  rw[<-J8]at hx;clear J8;have htk:=bW hx;rw[rD hx j];by_cases hc:x.op=14/\x.n=(j:Int)
  ·rw[if_pos hc];have hlo:=(vR l []).1 h k x hx;rw[List.nil_append]at hlo;unfold xN at hlo;have hno:dh (l.take k) x.n=false:=by
    rw[decide_eq_false (by simp[hc.1]),Bool.false_or]at hlo;simp only[Bool.and_eq_true,Bool.not_eq_true']at hlo;exact hlo.1
   have e1:gG (l.take (k+1)) j=k:=by
    rw[htk,Gs (by rw[<-hc.2];exact hno) hc,List.length_take];omega
   have e2:gG l j=gG (l.take (k+1)) j:=by
    have:=Gr (l:=l.take (k+1)) (r:=l.drop (k+1)) hj;rw[List.take_append_drop]at this;exact this
   rw[e2,e1]
  ·rw[if_neg hc];rw[htk,nP,decide_eq_false hc,Bool.or_false]at hj;exact J0 h k (by omega) j hj
theorem Ge{R:bT}{ah:Int}{lo:List Nat}{l:List bg}{x:bg}{k:Nat}{s:St}{tp:List V}(hy:(aL ah 1 s).1=true)(hs:fF x):bI R ah lo l s tp k x=((aW R lo (aL ah 1 s).2 tp (aT x)).1,((k+1:Nat):Int),(aW R lo (aL ah 1 s).2 tp (aT x)).2.1,(aW R lo (aL ah 1 s).2 tp (aT x)).2.2):=by
 unfold bI;rw[if_neg (by rw[hy];simp),if_neg hs.2.2,if_neg hs.1,if_neg hs.2.1]
theorem gz.CV{ai mc:Nat}{own own':Nat->Prop}{P:Value×Value×Value×Value}{ah d:Int}{ng fb tb nt:Nat}{lv:Value}{lo:List Nat}{gr:Nat}{gc:Array Value}{w wr:World}{st:St}{tp:List V}{v:Value}{p:bB}(h:gz ai mc own P ah d ng fb tb nt lv lo gr gc w wr own' st tp)(hL:mR w own w.heap.size v p):mR wr own' wr.heap.size v p:=
 ((hL.wr h.wr (λ_ hk=>aK hk) (aY _)).up h.down).mono h.wr.size
theorem Ei(ai mc:Nat)(own YL:Nat->Prop)(P:Value×Value×Value×Value)(ah d:Int)(p:bB)(f fb tb nt gr Vo k0:Nat)(g:aR)(LA BA:Option Addr)(bn cI:Nat)(r9:Value)(lo:List Nat)(R:bT)(st0:St)(tp0:List V)(T:Option V×St)(w w3:World)
  (hf:ah<=100000000)(hbs:ai<=w.heap.size)(hP:bP w ai (P.1,P.2.1,P.2.2.1) p)(how:∀k,own k->ai<=k/\k<w.heap.size)(hBS:SliceAt w ai 6 (kI w ai) g.ins (.slice BA g.ins.length cI))(MW:lo.length=g.az.length)(hg:p.funcs[f]? =some g)
  (hB0:gz ai mc own P ah d p.ay.length fb tb nt r9 lo gr #[.int .i64 g.params,.int .i64 nt,.slice LA g.az.length bn,.slice BA g.ins.length cI] w w3 YL st0 tp0)(hk0:k0<g.ins.length)(TI:(ah-st0.steps).toNat<Vo)(hT:bV R ah lo (b9 g.ins) Vo (k0:Nat) st0 tp0=T)(hd0:0<=d)(hd1:d<=64)
  (hins:∀x,x∈g.ins->pP g p.ay.length p.funcs.length (gN p) x)(hlast:nZ g=true)(sN:i6 [] g.ins=true)(hil:g.ins.length<=8000)(hnt:g.regs=nt)(GD:∀c,c∈p.funcs->c.params<=4)(XE:p.ay.length<=1000)
  (tC:∀i,i∈g.ins->In64 i.op/\In64 i.dst/\In64 i.a/\In64 i.b/\In64 i.n/\∀x,x∈i.arg->In64 x)(hL:mR w own w.heap.size P.2.2.2 p)(hC:tY p ah d R)(TJ:∀c,xe (eB p) ah c R)
  {c2 c3 c4 c5 c7 c10 c11 c12 c13 c15 c16 c17 c18 c19 c20 c21 iU iT iX iW jM jL jK jJ jI jH jG jF jE jD jC jB jA jo jm jy kG kF kE kD kC kB jw c49 kA c51 jY jX jW jV jU jT jS jR jQ jP jO jN kV kU kT kS kR kQ kP kO kN lN kM kL lM lL lK lJ lI lH mY mD mC lG lF lD lC lB lA mX nA nz ny ni m9 m6 mW mV eH eG eF eD ed dZ dY dX dW dV dU dS dR dQ dP dO dN dH dG c119 dD dC eV eU eT eQ eP fC fB fA eZ eY mi lZ lY lX lW zN c138 zM zL Cr Cq Co Cn Cm Ck Cj Ci Ch Cg Cf Ce Cc Cb Ca B6 BZ BX BW BU BS BR BQ zK zJ zI c167 zH zG zF zE zD zC zB BP BO BN BM BL BK BJ BI BH BG BF BD BC BB Bz Hz Hy Hx c193 c194 Hw c196 Hv c198 Hu Ht Hs Hr Hq Ho Hn c206 Hm c208 Hl Hk Hj Hi Hh Hg:Value}(Q:Exit->Act->World->Prop)(hQ:∀a w',bodyPost prog Tryz.f32 (λe w'=>jf ai mc own P ah T w e w') Exit.ret a w'->Q Exit.ret a w'):
  Code.wp prog yz Q ⟨List.toArray ((Value.pointer (some ⟨mc,0,none⟩))::(Value.int .i64 (f:Nat))::c2::c3::c4::c5::(Value.pointer (some ⟨w.heap.size,0,none⟩))::c7::(Value.pointer (some ⟨gr,0,none⟩))::(Value.pointer (some ⟨fb,0,none⟩))::c10::c11::c12::c13::(Value.int .i64 (k0:Nat))::c15::c16::c17::c18::c19::c20::c21::iU::iT::iX::iW::jM::jL::jK::jJ::jI::jH::jG::jF::jE::jD::jC::jB::jA::jo::jm::jy::kG::kF::kE::kD::kC::kB::jw::c49::kA::c51::jY::jX::jW::jV::jU::jT::jS::jR::jQ::jP::jO::jN::kV::kU::kT::kS::kR::kQ::kP::kO::kN::lN::kM::kL::lM::lL::lK::lJ::lI::lH::mY::mD::mC::lG::lF::lD::lC::lB::lA::mX::nA::nz::ny::ni::m9::m6::mW::mV::eH::eG::eF::eD::ed::dZ::dY::dX::dW::dV::dU::dS::dR::dQ::dP::dO::dN::dH::dG::c119::dD::dC::eV::eU::eT::eQ::eP::fC::fB::fA::eZ::eY::mi::lZ::lY::lX::lW::zN::c138::zM::zL::Cr::Cq::Co::Cn::Cm::Ck::Cj::Ci::Ch::Cg::Cf::Ce::Cc::Cb::Ca::B6::BZ::BX::BW::BU::BS::BR::BQ::zK::zJ::zI::c167::zH::zG::zF::zE::zD::zC::zB::BP::BO::BN::BM::BL::BK::BJ::BI::BH::BG::BF::BD::BC::BB::Bz::Hz::Hy::Hx::c193::c194::Hw::c196::Hv::c198::Hu::Ht::Hs::Hr::Hq::Ho::Hn::c206::Hm::c208::Hl::Hk::Hj::Hi::Hh::Hg::[]),[]⟩ w3:=by
 have HP:=ae hP;have HOW:=ae how;have X4:=ae hBS;have HQ:=ae hQ;have QJ:=ae hins;have D6:=ae hlast;have qW:=ae sN;have N7:=ae hnt;have WX:=ae GD;have KZ:=ae tC;have HL:=ae hL;have HC:=ae hC;have S5:=ae TJ;have HG:=ae hg;have HLOL:=ae MW;have Rb:=ae (show g.ins.length<=9223372036854775807 from by omega);obtain⟨ab,ac,hat,GS,M3,hlb⟩:=hL.lie;have uw:=ae hat;have hfl:f<p.funcs.length:=(List.getElem?_eq_some_iff.1 hg).1;obtain⟨lb,lc,ZB,PI,Zz,ZA⟩:=hlb f g hg;have HLB0:=ae ZB;have HLB1:=ae PI;have x9:=ae (And.intro GS Zz);have hflen:p.funcs.length<=9223372036854775807:=by
  obtain⟨_,_,_,h,_⟩:=hP.2.1;exact h
 have hT0:=hT;have HT:=ae hT;clear hP how hBS hQ hins hlast sN hnt GD tC hL hC TJ hg MW hat GS hlb ZB PI Zz hT hT0
 conv=>arg 2;whnf
 go_loopw [14] (λa wr=>∃(Qc k:Nat)(own':Nat->Prop)(st:St)(tp:List V),a= .int .i64 k/\k<g.ins.length/\gz ai mc own P ah d p.ay.length fb tb nt r9 lo gr #[.int .i64 g.params,.int .i64 nt,.slice LA g.az.length bn,.slice BA g.ins.length cI] w wr own' st tp/\(ah-st.steps).toNat<Qc/\bV R ah lo (b9 g.ins) Qc (k:Nat) st tp=T) (λa wr=>(ah-intOf ((wr.cell? ⟨mc,9,none⟩).getD undef)).toNat*(g.ins.length+1)+(g.ins.length-(intOf a).toNat))
 case atStart=>exact⟨Vo,k0,YL,st0,tp0,rfl,hk0,hB0,TI,HT.out⟩
 case round=>
  clear hB0 hk0 TI HT;obtain⟨Qc,k,own',st,tp,rfl,hk,hB,hgas,heq⟩:=hrel;obtain⟨qQ,rfl⟩:∃g',Qc=g'+1:=⟨Qc-1,by omega⟩
  have HB:=ae hB;have LN:=ae heq;have PS:=hB.pH.ai;have hBr:Below ai w wr:=hB.wr.below hbs (λi hi=>(HOW.out i hi).1);obtain⟨bb,zO,x,rfl,hbb,hbk,b0,b1,b2,b3,b4,⟨sv,b5,hst⟩,hx0,hx1,hx2,hx3,Fj⟩:=(X4.below hBr (aY _) (λ_ _ h=>h.below hBr (aY _))).get hk;simp only[Nat.add_zero]at b0 b1 b2 b3 b4 b5;obtain⟨SA,scap,vA⟩:∃SA scap,sv= .slice SA x.arg.length scap:=(by obtain⟨A',c',h,_⟩:=hst;exact⟨_,_,h⟩)
  subst vA;have GP:¬gr=mc:=λe=>hB.gn (by rw[e];exact hB.mine);have UR:¬w.heap.size=mc:=λe=>hB.rn.1 (by rw[e];exact hB.mine);have oV:¬bb=mc:=by omega
  have iF:bb<wr.heap.size:=by have:=hBr.size;omega
  have hkb:(k:Int)<(g.ins.length:Int):=by omega
  have hkle:(k:Int)<=8000:=by omega
  have Zo:g.ins.length<=9223372036854775807:=Rb.out;have fD:=ae hbk;have HST2:=ae hst;have HBR:=ae hBr;have HX3:=ae hx3;have HX4:=ae Fj;have Tv:=List.mem_of_getElem? hbk;have HXM:=ae Tv;have GM:=QJ.out x Tv;have yg:=ae GM;have HBSE:=ae PS;have hmcb:=PS.2.1;have PE:=PS.2.2.1;have hcl:=hB.calls;have hlen:=hB.len;have HLEN:=ae hlen;have CJ:=ae hcl;have hop:=GM.ops;have hgrl:=hB.grow.lt;have e3:=hB.grow.cell (j:=3) rfl;by_cases hy:(aL ah 1 st).1=true
  ·obtain⟨hk2,hlt5,hs6⟩:=nJ hy;have HST:=ae (hy▸hs6▸tP ai mc own' P ah 1 st wr hB.pH hB.inv.lo hB.inv.hi (by omega) (by omega) (by omega):Calls prog 53 #[.pointer (some ⟨mc,0,none⟩),.int .i64 1] wr λe w'=>e= .returned (.bool true)/\bG w' ai mc own' P ah {st with steps:=st.steps+1}/\Wr (λb=>b=mc) wr w');have HY:=ae hy;have WQ:=ae hs6;have HK2:=ae hk2;have zt:=Dx (p:=eB p) (nt:=nt) (nl:=g.az.length) (R:=R) (ah:=ah) (lo:=lo) (l:=g.ins) (x:=x) (k:=k) (s:=st) (tp:=tp) S5.out hB.inv hB.Bp HLEN.out HLOL (λhst=>Aq KZ.out N7.out WX.out HXM.out hst yg.out);have TS:=ae zt
   have hb5:∀w5,bG w5 ai mc own' P ah {st with steps:=st.steps+1}->Wr (λb=>b=mc) wr w5->gz ai mc own P ah d p.ay.length fb tb nt r9 lo gr #[.int .i64 g.params,.int .i64 nt,.slice LA g.az.length bn,.slice (some ⟨bb,zO,none⟩) g.ins.length cI] w (w5.alloc (.cells #[.int .i64 x.op,.int .i64 x.dst,.int .i64 x.a,.int .i64 x.b,.int .i64 x.n,.slice SA x.arg.length scap] 94)) own' {st with steps:=st.steps+1} tp:=λw5 hm hw=>
    (hB.YT hw hm (hB.inv.step1 (by omega)) hB.Bp (aY _) hB.calls).below (ax _ _)
   have yh:=ae hb5;clear hB heq hBr hbk hst hx0 hx1 hx2 hx3 Fj Tv GM PS hcl hlen hy hs6 hk2 zt hb5;by_cases p8:x.op=17
   ·obtain⟨ma,lh⟩:=Int.eq_ofNat_of_zero_le (yg.a (by omega)).1;have PG:ma<tp.length:=by have:=(yg.a (by omega)).2;have:=N7.out;have:=HLEN.out;omega
    obtain⟨v,hv,hgd⟩:=oF PG;have HV:=ae hv;have QM:=ae hgd;have D5:=ae lh;clear hv hgd lh;have t17:(x.op==17)=true:=by simp;omega
    have t15:(x.op==15)=false:=by simp;omega
    have t16:(x.op==16)=false:=by simp;omega
    have H17:=ae p8;clear p8;go_wp2_with(go_at_call 53;refine HST.mono ?_;rintro e w5 ⟨rfl,Lv,ji⟩;have q3:=(HB.grow.wr ji GP).cell (j:=3) rfl;have q4:=(HB.grow.wr ji GP).lt;have d0:=aZ b0 ji iF oV;have d1:=aZ b1 ji iF oV;have d2:=aZ b2 ji iF oV;have d3:=aZ b3 ji iF oV;have d4:=aZ b4 ji iF oV;have d5:=aZ b5 ji iF oV;have dl:bb<w5.heap.size:=fQ iF ji.size;have fW:=ae (yh.out w5 Lv ji);have Cy:=ae ji;have Xz:=ji.size;clear Lv ji);have qY:=fW.out
    have Bf:∀z,z∈lo->z<st.mem.length:=λz hz=>by have h2:=qY.many (List.ne_nil_of_mem hz);have h3:=qY.Bp.az z hz;have h4:=JT st.mem;rw[nO (by have h2':2<=(au st.mem).length:=h2;show 0<st.mem.length;omega)]at h3;exact h3
    refine FX ai mc own' P ah {st with steps:=st.steps+1} fb tb tp r9 lo _ qY.pH qY.fr qY.off Bf (qY.inv.mem.Jh.many) _ ?_;intro u16 YC YB YA Yz Yy Yx Yw Yv Yu Yt Yr Yq Yp Yo Yn Ym Yl Yk Yj Yi Yh Yg Yf wk XL hwk;have hxn:¬own' w5.heap.size:=λho=>by have:=(HBSE.2.2.2 _ ho).2;omega
    have hxk:=(Row.new w5 #[.int .i64 x.op,.int .i64 x.dst,.int .i64 x.a,.int .i64 x.b,.int .i64 x.n,.slice SA x.arg.length scap] 94).wr hwk hxn;have hfk:=qY.fr.wr hwk qY.off.fb.1 qY.off.tb.1 (λg' hg'=>(qY.off.lv g' hg').1);have Sg:=qY.zg.wr hwk qY.rn.1;have x2:=hxk.cell (j:=2) rfl;have xl:=hxk.lt;rw[D5.out]at x2;have r0:wk.cell? ⟨w.heap.size,0,none⟩=some (.int .i64 0):=Sg.cell (j:=0) rfl;have r1:wk.cell? ⟨w.heap.size,1,none⟩=some (.int .i64 0):=Sg.cell (j:=1) rfl;have r2:=Sg.free 0;have r3:=Sg.free 1;have r4:=Sg.lt;have ft:=hfk.row.cell (j:=0) rfl;have XN:=hfk.row.lt;obtain⟨cs,htr,gT⟩:=id hfk.bN;obtain⟨lT,lS⟩:=gT.2 ma _ HV.out;have t0:=htr.cell lT;have t1:=htr.cell lS;have htl:=htr.lt;have sO:=hfk.few;have MV:(ma:Int)<(tp.length:Int):=by omega
    have zo:(0:Int)<=(ma:Int):=by omega
    clear htr gT lT lS;obtain⟨inv,outv,aU,rbk,hA⟩:=XL;have e12:wk.cell? ⟨mc,12,none⟩=some (.int .i64 st.calls):=hA.row.cell (j:=12) rfl;have f12:=hA.row.free 12;have e12l:=hA.lt;have HMA2:=ae (hA.calls (st.calls-1));have GF:¬mc=w.heap.size:=λe=>UR e.symm;have CY:¬fb=mc:=λe=>qY.off.fb.1 (by rw[e];exact qY.mine);have hne3:¬tb=mc:=λe=>qY.off.tb.1 (by rw[e];exact qY.mine);have hne4:¬w5.heap.size=mc:=by omega
    have hne5:¬fb=w.heap.size:=(λe=>hfk.row.ne Sg (by decide) e)
    have hne6:¬tb=w.heap.size:=λe=>qY.rn.2 e.symm;have hne7:¬w5.heap.size=w.heap.size:=λe=>by have:=qY.zg.lt;have:=HB.zg.lt;omega
    have hcl0:0<=st.calls:=by rw[CJ.out];exact hd0
    have hcl1:st.calls<=64:=by rw[CJ.out];exact hd1
    have HWK:=ae hwk;have sS:=ae qY;clear hxk hfk Sg hA hwk qY Bf hxn;go_wp2_with fail;refine aX 8 (by kernel_rfl) (by kernel_rfl) ?_;simp only[List.take_succ_cons,List.take_zero,List.drop_succ_cons,List.drop_zero]
    repeat(go_big_quiet_step (fail))
    refine wpQuiet_nil ?_;go_wp2_with fail;refine HQ _ _ ?_;refine aS (v:=aO (some v)) ?_ rfl ?_
    ·simp[results,results32,go_sem,aO,r0,r1,UR,GF]
    ·have zW:bI R ah lo g.ins st tp k x=(true,-1,{st with steps:=st.steps+1},tp):=by unfold bI;rw[if_neg (by rw[HY.out];simp),if_pos H17.out,WQ.out]
     obtain⟨h2,_,_⟩:=LB (R:=R) (ah:=ah) (lo:=lo) (s:=st) (tp:=tp) fD.out qQ H17 (by rw[zW]);rw[zW,D5.out,Int.toNat_natCast,QM.out]at h2;rw[<-LN.out,h2];refine(uI (some v) sS.up sS.down ⟨_,_,_,_,HMA2.out⟩ ((sS.wr.trans HWK (λi hi=>sS.down i hi)).trans (Wr.setCell (F:=λb=>b=mc) wk ⟨mc,12,none⟩ _ rfl) (λi hi=>?_)) sS.rn.1 hbs _ _).below (aV _ _).drew;rcases sS.down mc sS.mine with h|h
     ·exact aK (hi▸h)
     ·exact bu (hi▸h)
   by_cases iC:x.op=15
   ·have t17:(x.op==17)=false:=by simp;omega
    have t15:(x.op==15)=true:=by simp;omega
    have t16:(x.op==16)=false:=by simp;omega
    have H15:=ae iC;clear iC;go_wp2_with(go_at_call 53;refine HST.mono ?_;rintro e w5 ⟨rfl,Lv,ji⟩;have q3:=(HB.grow.wr ji GP).cell (j:=3) rfl;have q4:=(HB.grow.wr ji GP).lt;have d0:=aZ b0 ji iF oV;have d1:=aZ b1 ji iF oV;have d2:=aZ b2 ji iF oV;have d3:=aZ b3 ji iF oV;have d4:=aZ b4 ji iF oV;have d5:=aZ b5 ji iF oV;have dl:bb<w5.heap.size:=fQ iF ji.size;have fW:=ae (yh.out w5 Lv ji);have Cy:=ae ji;have Xz:=ji.size;clear Lv ji);refine cO (λX hX=>?_);have qY:gz ai mc own P ah d p.ay.length fb tb nt r9 lo gr #[.int .i64 g.params,.int .i64 nt,.slice LA g.az.length bn,.slice (some ⟨bb,zO,none⟩) g.ins.length cI] w X own' {st with steps:=st.steps+1} tp:=hX▸fW.out
    have PX:Row X w5.heap.size #[.int .i64 x.op,.int .i64 x.dst,.int .i64 x.a,.int .i64 x.b,.int .i64 x.n,.slice SA x.arg.length scap] 94:=hX▸Row.new _ _ _;have hXl:=PX.lt;clear hX;have zq:dh g.ins x.n=true:=by
     have:=yg.num;simpa [aH,H15.out]using this
    have hrg:=uO qW.out zq;obtain⟨nn,hnn⟩:=Int.eq_ofNat_of_zero_le hrg.1;have hlk:oH g.ins g.ins.length nn=(gG g.ins x.n:Nat):=by
     rw[J0 qW _ (aY _) nn (by rw[List.take_length,<-hnn];exact zq),hnn]
    have hnn8:(nn:Int)<8000:=by omega
    have hnn0:(0:Int)<=(nn:Int):=by omega
    have hkl:=tS zq;have m3:X.cell? ⟨mc,3,none⟩=some (.slice (some ⟨ab,0,none⟩) p.funcs.length ac):=by obtain⟨_,_,_,_,hm⟩:=qY.pH;rw[<-uw.out];exact hm.row.cell (j:=3) rfl
    have m3l:mc<X.heap.size:=qY.pH.ai.2.2.1;have a0:=aZ HLB0.out qY.wr M3 x9.1;have a0l:ab<X.heap.size:=fQ M3 qY.wr.size;obtain⟨cl,Kn,hcls,PO⟩:=HLB1.wr qY.wr x9.2;have l0:=Kn.cell (PO nn (by omega));rw[hlk]at l0;have l0l:=Kn.lt;have x4:=PX.cell (j:=4) rfl;rw[hnn]at x4;have hfl0:(0:Int)<=(f:Int):=by omega
    have hfl1:(f:Int)<(p.funcs.length:Int):=by omega
    have HLI:=ae zq;have XY:=ae hkl;have sS:=ae qY;have HXB:=ae PX;obtain⟨kk,hkk⟩:∃kk:Nat,kk=gG g.ins x.n:=⟨_,rfl⟩
    rw[<-hkk]at l0;have Xe:=ae hkk;clear zq hrg hnn hlk Kn PO hkk hkl qY PX;refine aX 11 (by kernel_rfl) (by kernel_rfl) ?_;simp only[List.take_succ_cons,List.take_zero,List.drop_succ_cons,List.drop_zero]
    repeat(go_big_quiet_step (fail))
    refine wpQuiet_nil ?_;go_wp2_with fail;go_roundw
    case rel=>
     refine⟨qQ,kk,own',{st with steps:=st.steps+1},tp,rfl,by rw[Xe.out];exact XY.out,sS.below (aV _ _).drew,by show(ah-(st.steps+1)).toNat<qQ;omega,?_⟩;have h2:=GZ (R:=R) (ah:=ah) (lo:=lo) (s:=st) (tp:=tp) fD.out H15.out qQ HY.out;rw[WQ.out]at h2;rw[<-LN.out,Xe.out,h2]
    case measure=>
     rw[(sS.below (aV _ _).drew).pH.steps,HB.pH.steps];show(ah-(st.steps+1)).toNat*(g.ins.length+1)+(g.ins.length-(kk:Int).toNat)<(ah-st.steps).toNat*(g.ins.length+1)+(g.ins.length-(k:Int).toNat);have hd:(ah-st.steps).toNat=(ah-(st.steps+1)).toNat+1:=by omega
     rw[hd,Nat.add_mul];omega
   by_cases mL:x.op=16
   ·obtain⟨ma,lh⟩:=Int.eq_ofNat_of_zero_le (yg.a (by omega)).1;have PG:ma<tp.length:=by have:=(yg.a (by omega)).2;have:=N7.out;have:=HLEN.out;omega
    obtain⟨v,hv,hgd⟩:=oF PG;have HV:=ae hv;have QM:=ae hgd;have D5:=ae lh;clear hv hgd lh;have t17:(x.op==17)=false:=by simp;omega
    have t15:(x.op==15)=false:=by simp;omega
    have t16:(x.op==16)=true:=by simp;omega
    have H16:=ae mL;clear mL;go_wp2_with(go_at_call 53;refine HST.mono ?_;rintro e w5 ⟨rfl,Lv,ji⟩;have q3:=(HB.grow.wr ji GP).cell (j:=3) rfl;have q4:=(HB.grow.wr ji GP).lt;have d0:=aZ b0 ji iF oV;have d1:=aZ b1 ji iF oV;have d2:=aZ b2 ji iF oV;have d3:=aZ b3 ji iF oV;have d4:=aZ b4 ji iF oV;have d5:=aZ b5 ji iF oV;have dl:bb<w5.heap.size:=fQ iF ji.size;have fW:=ae (yh.out w5 Lv ji);have Cy:=ae ji;have Xz:=ji.size;clear Lv ji);refine cO (λX hX=>?_);have qY:gz ai mc own P ah d p.ay.length fb tb nt r9 lo gr #[.int .i64 g.params,.int .i64 nt,.slice LA g.az.length bn,.slice (some ⟨bb,zO,none⟩) g.ins.length cI] w X own' {st with steps:=st.steps+1} tp:=hX▸fW.out
    have PX:Row X w5.heap.size #[.int .i64 x.op,.int .i64 x.dst,.int .i64 x.a,.int .i64 x.b,.int .i64 x.n,.slice SA x.arg.length scap] 94:=hX▸Row.new _ _ _;have hXl:=PX.lt;clear hX;have ft:=qY.fr.row.cell (j:=0) rfl;have XN:=qY.fr.row.lt;obtain⟨cs,htr,gT⟩:=id qY.fr.bN;obtain⟨lT,lS⟩:=gT.2 ma _ HV.out;have t0:=htr.cell lT;have t1:=htr.cell lS;have htl:=htr.lt;have sO:=qY.fr.few;have MV:(ma:Int)<(tp.length:Int):=by omega
    have zo:(0:Int)<=(ma:Int):=by omega
    clear htr gT lT lS;have x2:=PX.cell (j:=2) rfl;rw[D5.out]at x2;by_cases hv0:v=⟨0,0⟩
    ·subst hv0;have t0:X.cell? ⟨tb,ma*2,none⟩=some (.int .i64 0):=t0;have t1:X.cell? ⟨tb,ma*2+1,none⟩=some (.int .i64 0):=t1;have sS:=ae qY;clear qY PX;refine wp_region_quiet_lit (by kernel_rfl) (by kernel_rfl) ?_
     repeat(go_big_quiet_step (fail))
     refine wpQuiet_nil ?_;intro Wq Pj;obtain⟨nq,Pj⟩:=Pj;subst Pj;go_wp2_with fail;go_roundw
     case rel=>
      refine⟨qQ,k+1,own',{st with steps:=st.steps+1},tp,by go_num,xM D6.out fD.out iC (by have:=H16.out;omega) p8,sS.below (below_drewN (aV _ _) _),by show(ah-(st.steps+1)).toNat<qQ;omega,?_⟩;have h2:=rU (R:=R) (ah:=ah) (lo:=lo) (s:=st) (tp:=tp) fD.out H16.out qQ HY.out;rw[WQ.out,D5.out,Int.toNat_natCast,QM.out,if_pos rfl]at h2;rw[<-LN.out,h2]
     case measure=>
      rw[(sS.below (below_drewN (aV _ _) _)).pH.steps,HB.pH.steps];show(ah-(st.steps+1)).toNat*(g.ins.length+1)+(g.ins.length-((k:Int)+1).toNat)<(ah-st.steps).toNat*(g.ins.length+1)+(g.ins.length-(k:Int).toNat);have hd:(ah-st.steps).toNat=(ah-(st.steps+1)).toNat+1:=by omega
      rw[hd,Nat.add_mul];omega
    ·have K0:=ae hv0;clear hv0;have zq:dh g.ins x.n=true:=by
      have:=yg.num;simpa [aH,H16.out]using this
     have hrg:=uO qW.out zq;obtain⟨nn,hnn⟩:=Int.eq_ofNat_of_zero_le hrg.1;have hlk:oH g.ins g.ins.length nn=(gG g.ins x.n:Nat):=by
      rw[J0 qW _ (aY _) nn (by rw[List.take_length,<-hnn];exact zq),hnn]
     have hnn8:(nn:Int)<8000:=by omega
     have hnn0:(0:Int)<=(nn:Int):=by omega
     have hkl:=tS zq;have m3:X.cell? ⟨mc,3,none⟩=some (.slice (some ⟨ab,0,none⟩) p.funcs.length ac):=by obtain⟨_,_,_,_,hm⟩:=qY.pH;rw[<-uw.out];exact hm.row.cell (j:=3) rfl
     have m3l:mc<X.heap.size:=qY.pH.ai.2.2.1;have a0:=aZ HLB0.out qY.wr M3 x9.1;have a0l:ab<X.heap.size:=fQ M3 qY.wr.size;obtain⟨cl,Kn,hcls,PO⟩:=HLB1.wr qY.wr x9.2;have l0:=Kn.cell (PO nn (by omega));rw[hlk]at l0;have l0l:=Kn.lt;have x4:=PX.cell (j:=4) rfl;rw[hnn]at x4;have hfl0:(0:Int)<=(f:Int):=by omega
     have hfl1:(f:Int)<(p.funcs.length:Int):=by omega
     have HLI:=ae zq;have XY:=ae hkl;have sS:=ae qY;have HXB:=ae PX;obtain⟨kk,hkk⟩:∃kk:Nat,kk=gG g.ins x.n:=⟨_,rfl⟩
     rw[<-hkk]at l0;have Xe:=ae hkk;clear zq hrg hnn hlk Kn PO hkk hkl qY PX;by_cases ho:v.obj=0
     ·have hn:¬v.n=0:=λe=>K0 (Yc ho e);rw[ho]at t0;have t0:X.cell? ⟨tb,ma*2,none⟩=some (.int .i64 0):=t0;clear ho;refine wp_region_quiet_lit (by kernel_rfl) (by kernel_rfl) ?_
      repeat(go_big_quiet_step (fail))
      refine wpQuiet_nil ?_;intro Wq Pj;obtain⟨nq,Pj⟩:=Pj;subst Pj;go_wp2_with fail;refine aX 11 (by kernel_rfl) (by kernel_rfl) ?_;simp only[List.take_succ_cons,List.take_zero,List.drop_succ_cons,List.drop_zero]
      repeat(go_big_quiet_step (fail))
      refine wpQuiet_nil ?_;go_wp2_with fail;go_roundw
      case rel=>
       refine⟨qQ,kk,own',{st with steps:=st.steps+1},tp,rfl,by rw[Xe.out];exact XY.out,(sS.below (below_drewN (aV _ _) nq)).below (aV _ _).drew,by show(ah-(st.steps+1)).toNat<qQ;omega,?_⟩;have h2:=rU (R:=R) (ah:=ah) (lo:=lo) (s:=st) (tp:=tp) fD.out H16.out qQ HY.out;rw[WQ.out,D5.out,Int.toNat_natCast,QM.out,if_neg K0.out]at h2;rw[<-LN.out,Xe.out,h2]
      case measure=>
       rw[((sS.below (below_drewN (aV _ _) nq)).below (aV _ _).drew).pH.steps,HB.pH.steps];show(ah-(st.steps+1)).toNat*(g.ins.length+1)+(g.ins.length-(kk:Int).toNat)<(ah-st.steps).toNat*(g.ins.length+1)+(g.ins.length-(k:Int).toNat);have hd:(ah-st.steps).toNat=(ah-(st.steps+1)).toNat+1:=by omega
       rw[hd,Nat.add_mul];omega
     ·refine wp_region_quiet_lit (by kernel_rfl) (by kernel_rfl) ?_
      repeat(go_big_quiet_step (fail))
      refine wpQuiet_nil ?_;intro Wq Pj;obtain⟨nq,Pj⟩:=Pj;subst Pj;go_wp2_with fail;refine aX 11 (by kernel_rfl) (by kernel_rfl) ?_;simp only[List.take_succ_cons,List.take_zero,List.drop_succ_cons,List.drop_zero]
      repeat(go_big_quiet_step (fail))
      refine wpQuiet_nil ?_;go_wp2_with fail;go_roundw
      case rel=>
       refine⟨qQ,kk,own',{st with steps:=st.steps+1},tp,rfl,by rw[Xe.out];exact XY.out,(sS.below (below_drewN (aV _ _) nq)).below (aV _ _).drew,by show(ah-(st.steps+1)).toNat<qQ;omega,?_⟩;have h2:=rU (R:=R) (ah:=ah) (lo:=lo) (s:=st) (tp:=tp) fD.out H16.out qQ HY.out;rw[WQ.out,D5.out,Int.toNat_natCast,QM.out,if_neg K0.out]at h2;rw[<-LN.out,Xe.out,h2]
      case measure=>
       rw[((sS.below (below_drewN (aV _ _) nq)).below (aV _ _).drew).pH.steps,HB.pH.steps];show(ah-(st.steps+1)).toNat*(g.ins.length+1)+(g.ins.length-(kk:Int).toNat)<(ah-st.steps).toNat*(g.ins.length+1)+(g.ins.length-(k:Int).toNat);have hd:(ah-st.steps).toNat=(ah-(st.steps+1)).toNat+1:=by omega
       rw[hd,Nat.add_mul];omega
   have t17:(x.op==17)=false:=by simp;omega
   have t15:(x.op==15)=false:=by simp;omega
   have t16:(x.op==16)=false:=by simp;omega
   go_wp2_with(go_at_call 53;refine HST.mono ?_;rintro e w5 ⟨rfl,Lv,ji⟩;have q3:=(HB.grow.wr ji GP).cell (j:=3) rfl;have q4:=(HB.grow.wr ji GP).lt;have d0:=aZ b0 ji iF oV;have d1:=aZ b1 ji iF oV;have d2:=aZ b2 ji iF oV;have d3:=aZ b3 ji iF oV;have d4:=aZ b4 ji iF oV;have d5:=aZ b5 ji iF oV;have dl:bb<w5.heap.size:=fQ iF ji.size;have fW:=ae (yh.out w5 Lv ji);have Cy:=ae ji;have Xz:=ji.size;clear Lv ji);have Vl:=fW.out
   have XK:Below ai w (w5.alloc (.cells #[.int .i64 x.op,.int .i64 x.dst,.int .i64 x.a,.int .i64 x.b,.int .i64 x.n,.slice SA x.arg.length scap] 94)):=HBR.trans ((Cy.below (B:=ai) (by have:=HBR.size;omega) (λi hi=>by have:i=mc:=hi;omega)).trans ((ax w5 (.cells #[.int .i64 x.op,.int .i64 x.dst,.int .i64 x.a,.int .i64 x.b,.int .i64 x.n,.slice SA x.arg.length scap] 94)).mono (by have:=HBR.size;omega)))
   have hD:=Mn ai mc fb tb own' P r9 ah {st with steps:=st.steps+1} tp lo R p g x SA scap (w5.alloc (.cells #[.int .i64 x.op,.int .i64 x.dst,.int .i64 x.a,.int .i64 x.b,.int .i64 x.n,.slice SA x.arg.length scap] 94)) yg.out ⟨iC,mL,p8⟩ (by rw[HLEN.out];exact N7.out) HLOL.symm HX3 ((HST2.below ((Cy.below (B:=ai) (by have:=HBR.size;omega) (λi hi=>by have:i=mc:=hi;omega)).trans ((ax w5 (.cells #[.int .i64 x.op,.int .i64 x.dst,.int .i64 x.a,.int .i64 x.b,.int .i64 x.n,.slice SA x.arg.length scap] 94)).mono (by have:=HBR.size;omega))) (aY _))) WX.out Vl.pH Vl.fr Vl.off Vl.Bp Vl.inv hf XE (HP.below XK) (Vl.CV HL.out) (by show tY p ah st.calls R;rw[CJ.out];exact HC.out);have zt:=TS.out;rw[Ge HY.out ⟨iC,mL,p8⟩,WQ.out]at zt
   have zW:=Ge (R:=R) (lo:=lo) (l:=g.ins) (k:=k) (tp:=tp) HY.out ⟨iC,mL,p8⟩;rw[WQ.out]at zW;obtain⟨ok,st',tp',pK⟩:∃ok st' tp',aW R lo {st with steps:=st.steps+1} tp (aT x)=(ok,st',tp'):=⟨_,_,_,rfl⟩
   rw[pK]at hD zt zW;simp only at hD zt zW;have IJ:=ae zW;have HKP2:=ae zt;clear Vl XK zt zW pK;refine hD.mono ?_;rintro e w7 hS;have he:=hS.1;simp only at he;subst he;have HS:=ae hS;clear hS;cases ok with
   |false=>
    obtain⟨AE,n1,n2,n3,n4,n5,n6⟩:=fW.done HS.out;have r0:w7.cell? ⟨w.heap.size,0,none⟩=some (.int .i64 0):=n5.cell (j:=0) rfl;have r1:w7.cell? ⟨w.heap.size,1,none⟩=some (.int .i64 0):=n5.cell (j:=1) rfl;have r2:=n5.free 0;have r3:=n5.free 1;have r4:=n5.lt;have HN3:=ae n3;have HN4:=ae n4;have HN:=ae (And.intro n1 (And.intro n2 n6));clear n1 n2 n3 n4 n5 n6 HS hD;go_wp2_with fail;refine HQ _ _ ?_;refine aS (v:=aO none) ?_ rfl ?_
    ·simp[results,results32,go_sem,aO,r0,r1,r4]
    ·have h2:=xR (R:=R) (ah:=ah) (lo:=lo) (s:=st) (tp:=tp) fD.out qQ (by rw[IJ.out]);rw[IJ.out]at h2;rw[<-LN.out,h2];exact uI none HN.1 HN.2.1 HN3.out HN4.out HN.2.2 hbs 0 0
   |true=>
    obtain⟨g',k',Vm,gt2,Z5,gt4,SE⟩:=GX (R:=R) (ah:=ah) (lo:=lo) (s:=st) (tp:=tp) fD (λa b c=>xM D6.out fD.out a b c) (λh=>Dz yg.out h) qQ p8 (by rw[IJ.out]);rw[IJ.out]at Vm SE;simp only at Vm SE;obtain⟨rfl,rfl⟩:=Z5 ⟨iC,mL,p8⟩;have zt:=HKP2.out rfl;obtain⟨nL,hB7,_⟩:=fW.does HS.out ⟨zt.1.inv,zt.2.1,zt.1.calls,zt.1.grow,zt.2.2.1⟩ rfl;have HG7:=ae zt.1;have vg:=ae hB7;have Re:=ae (And.intro gt2 SE);clear hB7 Vm gt2 Z5 gt4 SE zt HS hD;go_wp2_with fail;go_roundw
    case rel=>
     refine⟨qQ+1,k+1,nL,st',tp',by go_num,Re.1,vg.out,?_,?_⟩
     ·have h1:=HG7.steps;omega
     ·rw[<-Re.2];exact LN.out
    case measure=>
     rw[vg.pH.steps,HB.pH.steps];show(ah-st'.steps).toNat*(g.ins.length+1)+(g.ins.length-((k:Int)+1).toNat)<(ah-st.steps).toNat*(g.ins.length+1)+(g.ins.length-(k:Int).toNat);have h1:=HG7.steps;have h6:(ah-st'.steps).toNat*(g.ins.length+1)<=(ah-st.steps).toNat*(g.ins.length+1):=Nat.mul_le_mul_right _ (by omega);omega
  ·have hy3:(aL ah 1 st).1=false:=by simpa using hy
   have HST:=ae (hy3▸tP ai mc own' P ah 1 st wr hB.pH hB.inv.lo hB.inv.hi (by omega) (by omega) (by omega):Calls prog 53 #[.pointer (some ⟨mc,0,none⟩),.int .i64 1] wr λe w'=>e= .returned (.bool false)/\bG w' ai mc own' P ah (aL ah 1 st).2/\Wr (λb=>b=mc) wr w');have HY3:=ae hy3;clear hB heq hBr hbk hst hx0 hx1 hx2 hx3 Fj Tv GM PS hcl hlen hy hy3;go_wp2_with fail;refine HST.mono ?_;rintro e w5 ⟨rfl,Lv,ji⟩;have n5:=HB.zg.wr ji UR;have r0:w5.cell? ⟨w.heap.size,0,none⟩=some (.int .i64 0):=n5.cell (j:=0) rfl;have r1:w5.cell? ⟨w.heap.size,1,none⟩=some (.int .i64 0):=n5.cell (j:=1) rfl;have r2:=n5.free 0;have r3:=n5.free 1;have r4:=n5.lt;have HM5:=ae Lv;have Cy:=ae ji;clear Lv ji n5;go_wp2_with fail;refine HQ _ _ ?_
   refine aS (v:=aO none) ?_ rfl ?_
   ·simp[results,results32,go_sem,aO,r0,r1,r4]
   ·have zW:bI R ah lo g.ins st tp k x=(false,0,(aL ah 1 st).2,tp):=by unfold bI;rw[if_pos HY3.out]
    have h2:=xR (R:=R) (ah:=ah) (lo:=lo) (s:=st) (tp:=tp) fD.out qQ (by rw[zW]);rw[zW]at h2;rw[<-LN.out,h2];exact uI none HB.up HB.down HM5 (HB.wr.trans Cy (λi hi=>(by rcases HB.down mc HB.mine with h|h;exact aK (hi▸h);exact bu (hi▸h)))) HB.rn.1 hbs 0 0
end Go.Proofs.YtinmgbodgecoeaaGreat
