/- GraphRuns: its last region, and small calls. Conditions: as stated. step: its loop over a step's trees. Conditions: as stated. step: steps that set a temporary, or read what comes in. Conditions: as stated. end: whether a block that returns may be. Conditions: as stated. -/
import Derived.Test.YtikbdplllopjlaaGreatGRunsRZz
set_option linter.unusedVariables false
set_option linter.unusedSimpArgs false
set_option maxHeartbeats 8000000
set_option maxRecDepth 100000
open Go.Proofs.Tryz
namespace Go.Proofs.YtikbdplllopjlaaGreat
open Go.RowKit
noncomputable def grER:Code:=(mM (Tryz.f3.body.getD .skip)).getD 17 .skip
theorem nK(pb qb gO k pn pc il ic gn gc fn fc:Nat)(IA GA FA:Option Addr)(mn:Int)(pi po pw:Nat)(oK nS nT:Option Addr)(nB gc' nR:Nat)(er af:Int)(o:sX)(v v':Value)(w:World)
  (sW:Row w pb #[.slice (some ⟨qb,gO,none⟩) pn pc,.slice IA il ic,.int .i64 af] 25)(P4:qb<w.heap.size)(hk:k<pn)
  (g0:w.cell? ⟨qb,gO+k*3,none⟩=some (.slice GA gn gc))(g1:w.cell? ⟨qb,gO+k*3+1,none⟩=some (.slice FA fn fc))(g2:w.cell? ⟨qb,gO+k*3+2,none⟩=some (.int .i64 mn))
  (hi:Row w pi #[.slice nS gn gc',.slice nT fn nR,.int .i64 mn] 31)
  (ho:Row w po #[.int .i64 o.kind,.int .i64 o.code,v,.int .i64 o.steps,.int .i64 o.deep] 40)(hw:Row w pw #[.int .i64 o.kind,.int .i64 o.code,v',.int .i64 o.steps,.int .i64 o.deep] 40)
  (hv:fU w v o.out)(hv':fU w v' o.out)
  (heq:∀W,Below w.heap.size w W->Calls prog 15 #[.agg #[.slice nS gn gc',.slice nT fn nR,.int .i64 mn],.agg #[.slice GA gn gc,.slice FA fn fc,.int .i64 mn]] W λe w'=>e= .returned (.bool true)/\Below W.heap.size W w')
  (Fw:∀W,Below w.heap.size w W->Calls prog 16 #[.slice oK il nB,.slice IA il ic] W λe w'=>e= .returned (.bool true)/\Below W.heap.size W w')
  (c0 c2 c4 c5 c6 c13 c14 c15 c16 c17 c18 c19 c20 uI uH uG uF uE uD uC uB uA uz uy uw uu uq uo um uk uj ui uh ug wP wO wN wM wL wK uf tZ tY tX tW tV tU tT tS tR tQ tP tO tN tM tL wJ wI wH wG wF wE wD wC wB wA wz wu vZ vY vX vW vV vU vT tK tJ tI tH tG tF tE tD tC vS vR vQ vP vO vN vM vL j8 j7 j6 j5 jQ jP jO jN jM jL jK jJ jI jH jG jF lu lq lh kZ kY kX kW kV kU kT kR kQ kP kO kN kH:Value)(Q:Exit->Act->World->Prop)
  (mB:∀(W:World)(y104 y105 y106 y107 y108 y109 y110 y111 y112 y113 y114 y115 y116 y117 y118 y119 y120 y121 y122 y123 y124 y125 y126 y127 y128 y129:Value),Below w.heap.size w W->Q .normal ⟨List.toArray (c0::(Value.pointer (some ⟨pb,0,none⟩))::c2::(Value.int .i64 (k:Nat))::c4::c5::c6::(Value.pointer (some ⟨pi,0,none⟩))::(Value.slice oK il nB)::(Value.pointer (some ⟨po,0,none⟩))::(Value.int .i64 er)::(Value.int .i64 er)::(Value.pointer (some ⟨pw,0,none⟩))::c13::c14::c15::c16::c17::c18::c19::c20::uI::uH::uG::uF::uE::uD::uC::uB::uA::uz::uy::uw::uu::uq::uo::um::uk::uj::ui::uh::ug::wP::wO::wN::wM::wL::wK::uf::tZ::tY::tX::tW::tV::tU::tT::tS::tR::tQ::tP::tO::tN::tM::tL::wJ::wI::wH::wG::wF::wE::wD::wC::wB::wA::wz::wu::vZ::vY::vX::vW::vV::vU::vT::tK::tJ::tI::tH::tG::tF::tE::tD::tC::vS::vR::vQ::vP::vO::vN::vM::vL::j8::j7::j6::j5::y104::y105::y106::y107::y108::y109::y110::y111::y112::y113::y114::y115::y116::y117::y118::y119::y120::y121::y122::y123::y124::y125::y126::y127::y128::y129::(Value.bool false)::kH::[]),[]⟩ W):
  Code.wp prog grER Q ⟨List.toArray (c0::(Value.pointer (some ⟨pb,0,none⟩))::c2::(Value.int .i64 (k:Nat))::c4::c5::c6::(Value.pointer (some ⟨pi,0,none⟩))::(Value.slice oK il nB)::(Value.pointer (some ⟨po,0,none⟩))::(Value.int .i64 er)::(Value.int .i64 er)::(Value.pointer (some ⟨pw,0,none⟩))::c13::c14::c15::c16::c17::c18::c19::c20::uI::uH::uG::uF::uE::uD::uC::uB::uA::uz::uy::uw::uu::uq::uo::um::uk::uj::ui::uh::ug::wP::wO::wN::wM::wL::wK::uf::tZ::tY::tX::tW::tV::tU::tT::tS::tR::tQ::tP::tO::tN::tM::tL::wJ::wI::wH::wG::wF::wE::wD::wC::wB::wA::wz::wu::vZ::vY::vX::vW::vV::vU::vT::tK::tJ::tI::tH::tG::tF::tE::tD::tC::vS::vR::vQ::vP::vO::vN::vM::vL::j8::j7::j6::j5::jQ::jP::jO::jN::jM::jL::jK::jJ::jI::jH::jG::jF::lu::lq::lh::kZ::kY::kX::kW::kV::kU::kT::kR::kQ::kP::kO::kN::kH::[]),[]⟩ w:=by
 have iZ:(0:Int)<=(k:Int):=by omega
 have bA:(k:Int)<(pn:Int):=by omega
 have hee:(er !=er)=false:=by simp
 have yU:=ae (λW(hb:Below w.heap.size w W)=>Ja o v v' W (hv.below hb) (hv'.below hb));obtain⟨OA,oc,Z4,_⟩:=id hv;obtain⟨OA',oc',hve',_⟩:=id hv';subst Z4 hve';have b0:=sW.cell (j:=0) rfl;have b1:=sW.cell (j:=1) rfl;have bl:=sW.lt;have i0:=hi.cell (j:=0) rfl;have i1:=hi.cell (j:=1) rfl;have i2:=hi.cell (j:=2) rfl;have il':=hi.lt;have o0:=ho.cell (j:=0) rfl;have o1:=ho.cell (j:=1) rfl;have o2:=ho.cell (j:=2) rfl;have o3:=ho.cell (j:=3) rfl;have o4:=ho.cell (j:=4) rfl;have ol:=ho.lt;have w0:=hw.cell (j:=0) rfl;have w1:=hw.cell (j:=1) rfl;have w2:=hw.cell (j:=2) rfl;have w3:=hw.cell (j:=3) rfl;have w4:=hw.cell (j:=4) rfl;have wl:=hw.lt;have jC:=ae heq;have V5:=ae Fw;have MQ:=ae mB;clear mB sW hi ho hw hv hv' heq Fw
 conv=>arg 2;whnf
 refine cP (by kernel_rfl) (by kernel_rfl) (λhG=>?_)
 repeat(go_big_quiet_step (first|(go_at_call 6;exact iH (sH _ _))|(go_at_call 14;exact eP (yU _ (bY (bI _ _) (aN _) _)))|(go_at_call 15;exact eP (jC _ (bY (bI _ _) (aN _) _)))|(go_at_call 16;exact eP (V5 _ (bY (bI _ _) (aN _) _)))))
 refine wpQuiet_nil ?_;rintro⟨W,hb⟩;exact MQ.out W _ _ _ _ _ _ _ _ _ _ _ _ _ _ _ _ _ _ _ _ _ _ _ _ _ _ hb
theorem gH{na nb nc:Int}:∀{l:List T}{n:Int},(eR na nb nc l n).2=false->eR na nb nc l n=(0,false)
 |[],n,h=>by simp[eR]at h
 |t::l,n,h=>by
  unfold eR at h ⊢;split at h
  ·rename_i h1;rw[if_pos h1]
  ·rename_i h1;rw[if_neg h1];exact gH h
noncomputable def Nj:Code:=(mV (Tryz.f35.body.getD .skip)).getD 0 .skip
theorem lH(na:Int)(nb nc pb gb sb B len:Nat)(ks:List T)(A GA LA:Option Addr)(aA gc lc:Nat)(w:World)
  (hB:B<=w.heap.size)(hk:bC w B ks A len)(hlen:len<=200000000000000)(sL:nb<=9223372036854775807)(hnc:nc<=9223372036854775807)
  (p0:w.cell? ⟨pb,0,none⟩=some (.slice GA nc gc))(g1:w.cell? ⟨gb,1,none⟩=some (.int .i64 na))(g2:w.cell? ⟨gb,2,none⟩=some (.slice LA nb lc))(s4:w.cell? ⟨sb,4,none⟩=some (.slice A len aA))(aZ:pb<w.heap.size)(hgb:gb<w.heap.size)(GI:sb<w.heap.size)
  (c0 c1 c2 c6 c7 c8 c9 c12 c13 c14 c15 c16 c17 c18 c19 c20 uI uH uG uF uE uD uC uB uA uz uy uw uu uq uo um uk uj ui uh ug wP wO wN wM wL wK uf tZ tY tX tW tV tU tT tS tR tQ tP tO tN tM tL wJ wI wH wG wF wE wD wC wB wA wz wu vZ vY vX vW vV vU vT tK tJ tI tH tG tF tE tD tC vS vR vQ vP vO vN vM vL j8 j7 j6 j5 jQ jP jO jN jM jL jK jJ jI jH jG jF lu lq lh kZ kY kX kW kV kU kT kR kQ kP kO kN kH Mo Mn Mm Ml Mk Mj Mi Mh Mg Mf Me Md Mc D3:Value)(Q:Exit->Act->World->Prop)
  (Ds:(eR na nb nc ks 0).2=true->∀(u6 u7 BM BX BW pL pK pJ pI pH pG pF pE pD pC pB pA pz pq pg o9 o8 oZ oY oX oW oV u138 oU oT oQ oP oO oN:Value)(w':World),Below w.heap.size w w'->Q (.exit 1) ⟨List.toArray (c0::c1::c2::(Value.pointer (some ⟨pb,0,none⟩))::(Value.pointer (some ⟨gb,0,none⟩))::(Value.pointer (some ⟨sb,0,none⟩))::u6::u7::c8::c9::(Value.int .i64 (eR na nb nc ks 0).1)::BM::BX::BW::c14::c15::c16::c17::c18::c19::c20::uI::uH::uG::uF::uE::uD::uC::uB::uA::uz::uy::uw::uu::uq::uo::um::uk::uj::ui::uh::ug::wP::wO::wN::wM::wL::wK::uf::tZ::tY::tX::tW::tV::tU::tT::tS::tR::tQ::tP::tO::tN::tM::tL::wJ::wI::wH::wG::wF::wE::wD::wC::wB::wA::wz::wu::vZ::vY::vX::vW::vV::vU::vT::tK::tJ::tI::tH::tG::tF::tE::tD::tC::vS::vR::vQ::vP::vO::vN::vM::vL::j8::j7::j6::j5::jQ::jP::jO::jN::jM::jL::jK::jJ::jI::jH::jG::jF::pL::pK::pJ::pI::pH::pG::pF::pE::pD::pC::pB::pA::pz::pq::pg::o9::o8::oZ::oY::oX::oW::oV::u138::oU::oT::oQ::oP::oO::oN::D3::[]),[]⟩ w')
  (hno:(eR na nb nc ks 0).2=false->∀(BM BX BW pL pK pJ pI pH pG pF pE pD pC pB pA pz pq pg o9 o8 oZ oY oX oW oV u138 oU oT oQ oP oO oN Tf:Value)(w':World),Below w.heap.size w w'->Q .ret ⟨List.toArray (c0::c1::c2::(Value.pointer (some ⟨pb,0,none⟩))::(Value.pointer (some ⟨gb,0,none⟩))::(Value.pointer (some ⟨sb,0,none⟩))::(Value.int .i64 0)::(Value.bool false)::c8::c9::Tf::BM::BX::BW::c14::c15::c16::c17::c18::c19::c20::uI::uH::uG::uF::uE::uD::uC::uB::uA::uz::uy::uw::uu::uq::uo::um::uk::uj::ui::uh::ug::wP::wO::wN::wM::wL::wK::uf::tZ::tY::tX::tW::tV::tU::tT::tS::tR::tQ::tP::tO::tN::tM::tL::wJ::wI::wH::wG::wF::wE::wD::wC::wB::wA::wz::wu::vZ::vY::vX::vW::vV::vU::vT::tK::tJ::tI::tH::tG::tF::tE::tD::tC::vS::vR::vQ::vP::vO::vN::vM::vL::j8::j7::j6::j5::jQ::jP::jO::jN::jM::jL::jK::jJ::jI::jH::jG::jF::pL::pK::pJ::pI::pH::pG::pF::pE::pD::pC::pB::pA::pz::pq::pg::o9::o8::oZ::oY::oX::oW::oV::u138::oU::oT::oQ::oP::oO::oN::D3::[]),[]⟩ w'):
  Code.wp prog Nj Q ⟨List.toArray (c0::c1::c2::(Value.pointer (some ⟨pb,0,none⟩))::(Value.pointer (some ⟨gb,0,none⟩))::(Value.pointer (some ⟨sb,0,none⟩))::c6::c7::c8::c9::(Value.int .i64 0)::(Value.int .i64 0)::c12::c13::c14::c15::c16::c17::c18::c19::c20::uI::uH::uG::uF::uE::uD::uC::uB::uA::uz::uy::uw::uu::uq::uo::um::uk::uj::ui::uh::ug::wP::wO::wN::wM::wL::wK::uf::tZ::tY::tX::tW::tV::tU::tT::tS::tR::tQ::tP::tO::tN::tM::tL::wJ::wI::wH::wG::wF::wE::wD::wC::wB::wA::wz::wu::vZ::vY::vX::vW::vV::vU::vT::tK::tJ::tI::tH::tG::tF::tE::tD::tC::vS::vR::vQ::vP::vO::vN::vM::vL::j8::j7::j6::j5::jQ::jP::jO::jN::jM::jL::jK::jJ::jI::jH::jG::jF::lu::lq::lh::kZ::kY::kX::kW::kV::kU::kT::kR::kQ::kP::kO::kN::kH::Mo::Mn::Mm::Ml::Mk::Mj::Mi::Mh::Mg::Mf::Me::Md::Mc::D3::[]),[]⟩ w:=by
 have HK:=ae hk;have Y3:=ae Ds;have Kk:=ae hno;have qg:=hk.1;have Lm:=hk.2.1;clear hk Ds hno
 conv=>arg 2;whnf
 go_loopw [10,11] (λa i wr=>∃(k:Nat)(m:Int),k<=len/\i= .int .i64 k/\a= .int .i64 m/\0<=m/\m<=300*k/\eR na nb nc (ks.drop k) m=eR na nb nc ks 0/\Below w.heap.size w wr) (λ_ i _=>len-(intOf i).toNat)
 case atStart=>exact⟨0,0,by omega,rfl,rfl,by omega,by omega,rfl,bI _ _⟩
 case round=>
  obtain⟨k,m,hk,rfl,rfl,mX,mr,hcs,aG⟩:=hrel;have gV:=ae hcs;have fV:=aG.size;have q0:=ag p0 aG aZ;have q1:=ag g1 aG hgb;have q2:=ag g2 aG hgb;have q3:=ag s4 aG GI;clear hcs;by_cases hlt:k<len
  ·obtain⟨b,off,t,v0,v1,v2,rfl,hb,bA,c0,c1,c2,ht⟩:=(HK.below (aG.mono hB) (aN _)).get hlt;have eY:(k:Int)<(len:Int):=by omega
   have hbl:b<wr.heap.size:=by omega
   have hpb':pb<wr.heap.size:=by omega
   have hgb':gb<wr.heap.size:=by omega
   have hsb':sb<wr.heap.size:=by omega
   have dO:=yN t 0 (by omega) (by omega);have HC:=ae (λW(hb:Below wr.heap.size wr W)=>nD na nb nc t B W v0 v1 v2 (by have:=hb.size;omega) (ht.below (hb.mono (by omega)) (aN _)));have HD:=ae (show eR na nb nc (ks.drop k) m=if(fK na nb nc t).2=false then(0,false)else eR na nb nc (ks.drop (k+1)) (m+(fK na nb nc t).1)from by rw[b8 bA];rfl);obtain⟨⟨q,ok⟩,hq⟩:∃q,q=fK na nb nc t:=⟨_,rfl⟩
   have jZ:0<=q/\q<=201:=(by have e:q=(cnt t 0).1:=(by have:=congrArg Prod.fst hq;exact this);rw[e];exact⟨dO.1,dO.2.1⟩)
   rw[<-hq]at HC HD;obtain⟨hq10,hq11⟩:=jZ;obtain⟨a0,b0,A0,n0,Qg,rfl,rfl,rfl⟩:=ht.eH;clear bA ht hq dO;cases ok with
   |false=>
    go_wp2_with fail;refine cP (by kernel_rfl) (by kernel_rfl) (λhG=>?_)
    repeat(go_big_quiet_step ((go_at_call 56;exact eP (HC _ (bY (bI _ _) (aN _) _)))))
    refine wpQuiet_nil ?_;rintro⟨w1,hb1⟩;simp only[];have bn:=ae hb1;clear hG hb1;go_wp2_with fail;refine Kk (by rw[<-gV.out,HD.out];simp) _ _ _ _ _ _ _ _ _ _ _ _ _ _ _ _ _ _ _ _ _ _ _ _ _ _ _ _ _ _ _ _ _ _ (aG.trans (bn.mono fV))
   |true=>
    go_wp2_with fail;refine cP (by kernel_rfl) (by kernel_rfl) (λhG=>?_)
    repeat(go_big_quiet_step ((go_at_call 56;exact eP (HC _ (bY (bI _ _) (aN _) _)))))
    refine wpQuiet_nil ?_;rintro⟨w1,hb1⟩;simp only[];have bn:=ae hb1;clear hG hb1;go_wp2_with fail;go_roundw
    case rel=>
     refine⟨k+1,m+q,by omega,by go_num,rfl,by omega,by omega,?_,aG.trans (bn.mono fV)⟩;rw[<-gV.out,HD.out];simp
    case measure=>simp[intOf];omega
  ·obtain rfl:k=len:=by omega
   have he:eR na nb nc ks 0=(m,true):=by rw[<-gV.out,bD (by omega)];rfl
   have HE:=ae (show∀(u6 u7 BM BX BW pL pK pJ pI pH pG pF pE pD pC pB pA pz pq pg o9 o8 oZ oY oX oW oV u138 oU oT oQ oP oO oN:Value),Below w.heap.size w wr->Q (.exit 1) ⟨List.toArray (c0::c1::c2::(Value.pointer (some ⟨pb,0,none⟩))::(Value.pointer (some ⟨gb,0,none⟩))::(Value.pointer (some ⟨sb,0,none⟩))::u6::u7::c8::c9::(Value.int .i64 (eR na nb nc ks 0).1)::BM::BX::BW::c14::c15::c16::c17::c18::c19::c20::uI::uH::uG::uF::uE::uD::uC::uB::uA::uz::uy::uw::uu::uq::uo::um::uk::uj::ui::uh::ug::wP::wO::wN::wM::wL::wK::uf::tZ::tY::tX::tW::tV::tU::tT::tS::tR::tQ::tP::tO::tN::tM::tL::wJ::wI::wH::wG::wF::wE::wD::wC::wB::wA::wz::wu::vZ::vY::vX::vW::vV::vU::vT::tK::tJ::tI::tH::tG::tF::tE::tD::tC::vS::vR::vQ::vP::vO::vN::vM::vL::j8::j7::j6::j5::jQ::jP::jO::jN::jM::jL::jK::jJ::jI::jH::jG::jF::pL::pK::pJ::pI::pH::pG::pF::pE::pD::pC::pB::pA::pz::pq::pg::o9::o8::oZ::oY::oX::oW::oV::u138::oU::oT::oQ::oP::oO::oN::D3::[]),[]⟩ wr from λu6 u7 BM BX BW pL pK pJ pI pH pG pF pE pD pC pB pA pz pq pg o9 o8 oZ oY oX oW oV u138 oU oT oQ oP oO oN h=>Y3 (by rw[he]) u6 u7 BM BX BW pL pK pJ pI pH pG pF pE pD pC pB pA pz pq pg o9 o8 oZ oY oX oW oV u138 oU oT oQ oP oO oN wr h)
   clear Y3 Kk;rw[he]at HE;clear he;go_wp2_with fail;exact HE _ _ _ _ _ _ _ _ _ _ _ _ _ _ _ _ _ _ _ _ _ _ _ _ _ _ _ _ _ _ _ _ _ _ aG
theorem bN(w:World)(o1 o2 o3 o4:Obj):Below w.heap.size w ((((w.alloc o1).alloc o2).alloc o3).alloc o4):=(aO w o1 o2 o3).alloc (by simp<;>omega) o4
noncomputable def fO(p:aM)(g:aP)(b:bW):Int×Bool:=
 if b.fin=1 then(0,yes (b.els=0/\b.cond= .node 0 0 [])&& fN b.next ((g.blocks.length:Int)-1)&& fN b.els ((g.blocks.length:Int)-1))
 else if b.fin=2 then((fK g.ay g.az.length p.ax.length b.cond).1,(fK g.ay g.az.length p.ax.length b.cond).2 && fN b.next ((g.blocks.length:Int)-1)&& fN b.els ((g.blocks.length:Int)-1))
 else if b.fin=3 then((fK g.ay g.az.length p.ax.length b.cond).1,(fK g.ay g.az.length p.ax.length b.cond).2 && yes (b.next=0/\b.els=0)&& fN b.next ((g.blocks.length:Int)-1)&& fN b.els ((g.blocks.length:Int)-1))
 else(0,false)
def sQ(p:aM)(g:aP)(b:bW):Prop:=∀(P:Value×Value×Value)(LV BV:Value)(A:Option Addr)(n aA B:Nat)(v0 v1 v2:Value)(w:World),B<=w.heap.size->uK w B P p->sB w B g LV BV->aX w (dP B) b.cond v0 v1 v2->
  Calls prog 36 #[.agg #[P.1,P.2.1,P.2.2],.agg #[.int .i64 g.params,.int .i64 g.ay,LV,BV],.agg #[.slice A n aA,.int .i64 b.fin,v0,v1,v2,.int .i64 b.next,.int .i64 b.els]] w λe w'=>e= .returned (.tuple #[.int .i64 (fO p g b).1,.bool (fO p g b).2])/\Below w.heap.size w w'
end Go.Proofs.YtikbdplllopjlaaGreat
