/- GraphRuns: its regions that draw their order. Conditions: as stated. -/
import Derived.Test.YtikbdplllopjlaaGreatRunGZz
set_option linter.unusedVariables false
set_option linter.unusedSimpArgs false
set_option maxHeartbeats 8000000
set_option maxRecDepth 100000
open Go.Proofs.Tryz
namespace Go.Proofs.YtikbdplllopjlaaGreat
open Go.RowKit
theorem Ug{cs:Array Value}(h:cs.size=3):∃a b c,cs=#[a,b,c]:=by
 obtain⟨l⟩:=cs
 match l,h with
 |[a,b,c],_=>exact⟨a,b,c,rfl⟩
def grAC(N pb:Nat)(fu wv:Int)(W:World):Nat->Value->Prop
 |0,v|2,v=>v= .pointer (some ⟨pb,2,none⟩)
 |1,v|3,v=>v= .int .i64 fu
 |4,v=>v= .int .i64 wv
 |5,v|6,v=>∃g,v= .slice (some ⟨g,0,none⟩) 3 3/\N<=g/\Row W g #[.int .i64 fu,.int .i64 wv,.int .i64 3000] 3
 |_,_=>True
noncomputable def grAR:Code:=(mM (Tryz.f3.body.getD .skip)).getD 8 .skip
theorem Bl(pb:Nat)(a0 a1:Value)(fu wv:Int)(w:World)(sW:Row w pb #[a0,a1,.int .i64 fu] 25)(Tn:∀W,Calls prog 8 #[.int .i64 fu,.int .i64 300] W λe w'=>e= .returned (.int .i64 wv)/\W=w')
  (c0 c2 c3 c4 c5 c6 c7 c8 c9 c10 c11 c12 c13 c14 c15 c16 c17 c18 c19 c20 uI uH uG uF uE uD uC uB uA uz uy uw uu uq uo um uk uj ui uh ug wP wO wN wM wL wK uf tZ tY tX tW tV tU tT tS tR tQ tP tO tN tM tL wJ wI wH wG wF wE wD wC wB wA wz wu vZ vY vX vW vV vU vT tK tJ tI tH tG tF tE tD tC vS vR vQ vP vO vN vM vL j8 j7 j6 j5 jQ jP jO jN jM jL jK jJ jI jH jG jF lu lq lh kZ kY kX kW kV kU kT kR kQ kP kO kN kH:Value)(Q:Exit->Act->World->Prop)
  (mB:∀(W:World)(g:Nat)(Y:Nat->Value),Below w.heap.size w W->w.heap.size<=g->Row W g #[.int .i64 fu,.int .i64 wv,.int .i64 3000] 3->Q .normal ⟨List.toArray (c0::(Value.pointer (some ⟨pb,0,none⟩))::c2::c3::c4::(Value.slice (some ⟨g,0,none⟩) 3 3)::c6::c7::c8::c9::c10::c11::c12::c13::c14::c15::c16::c17::c18::c19::c20::uI::uH::uG::uF::uE::uD::uC::uB::uA::uz::uy::uw::uu::uq::uo::um::uk::uj::ui::uh::ug::Y 0::Y 1::Y 2::Y 3::Y 4::Y 5::uf::tZ::tY::tX::tW::tV::tU::tT::tS::tR::tQ::tP::tO::tN::tM::tL::wJ::wI::wH::wG::wF::wE::wD::wC::wB::wA::wz::wu::vZ::vY::vX::vW::vV::vU::vT::tK::tJ::tI::tH::tG::tF::tE::tD::tC::vS::vR::vQ::vP::vO::vN::vM::vL::j8::j7::j6::j5::jQ::jP::jO::jN::jM::jL::jK::jJ::jI::jH::jG::jF::lu::lq::lh::kZ::kY::kX::kW::kV::kU::kT::kR::kQ::kP::kO::kN::kH::[]),[]⟩ W):
  Code.wp prog grAR Q ⟨List.toArray (c0::(Value.pointer (some ⟨pb,0,none⟩))::c2::c3::c4::c5::c6::c7::c8::c9::c10::c11::c12::c13::c14::c15::c16::c17::c18::c19::c20::uI::uH::uG::uF::uE::uD::uC::uB::uA::uz::uy::uw::uu::uq::uo::um::uk::uj::ui::uh::ug::wP::wO::wN::wM::wL::wK::uf::tZ::tY::tX::tW::tV::tU::tT::tS::tR::tQ::tP::tO::tN::tM::tL::wJ::wI::wH::wG::wF::wE::wD::wC::wB::wA::wz::wu::vZ::vY::vX::vW::vV::vU::vT::tK::tJ::tI::tH::tG::tF::tE::tD::tC::vS::vR::vQ::vP::vO::vN::vM::vL::j8::j7::j6::j5::jQ::jP::jO::jN::jM::jL::jK::jJ::jI::jH::jG::jF::lu::lq::lh::kZ::kY::kX::kW::kV::kU::kT::kR::kQ::kP::kO::kN::kH::[]),[]⟩ w:=by
 have qc:=ae sW;have Y4:=ae Tn;clear sW Tn;have MQ:=ae mB;clear mB
 conv=>arg 2;whnf
 refine KM (by kernel_rfl) (grAC w.heap.size pb fu wv) (λY=>⟨List.toArray (c0::(Value.pointer (some ⟨pb,0,none⟩))::c2::c3::c4::Y 6::c6::c7::c8::c9::c10::c11::c12::c13::c14::c15::c16::c17::c18::c19::c20::uI::uH::uG::uF::uE::uD::uC::uB::uA::uz::uy::uw::uu::uq::uo::um::uk::uj::ui::uh::ug::Y 0::Y 1::Y 2::Y 3::Y 4::Y 5::uf::tZ::tY::tX::tW::tV::tU::tT::tS::tR::tQ::tP::tO::tN::tM::tL::wJ::wI::wH::wG::wF::wE::wD::wC::wB::wA::wz::wu::vZ::vY::vX::vW::vV::vU::vT::tK::tJ::tI::tH::tG::tF::tE::tD::tC::vS::vR::vQ::vP::vO::vN::vM::vL::j8::j7::j6::j5::jQ::jP::jO::jN::jM::jL::jK::jJ::jI::jH::jG::jF::lu::lq::lh::kZ::kY::kX::kW::kV::kU::kT::kR::kQ::kP::kO::kN::kH::[]),[]⟩) (λi=>if i=0 then wP else if i=1 then wO else if i=2 then wN else if i=3 then wM else if i=4 then wL else if i=5 then wK else if i=6 then c5 else undef) rfl (by kernel_rfl) ?_ ?_ ?_
 ·intro W W' i v hb h;rcases i with _|_|_|_|_|_|_|i
  ·exact h
  ·exact h
  ·exact h
  ·exact h
  ·exact h
  ·obtain⟨g,h1,h2,h3⟩:=h;exact⟨g,h1,h2,h3.below hb h3.lt⟩
  ·obtain⟨g,h1,h2,h3⟩:=h;exact⟨g,h1,h2,h3.below hb h3.lt⟩
  ·trivial
 ·intro i o' Y W ho hb hall K hK;have HW:=ae hb;clear hb;rcases i with _|_|_|_|_|_|_|i
  ·simp at ho;subst ho;clear hall;refine aQ rfl rfl (λK' hK'=>?_);go_simp;have hh:=hK' _ _ (hK _ _ (bI _ _) rfl);simpa [upd]using hh
  ·simp at ho;subst ho;have d0:Y 0=_:=hall {on:=0,ground:=Ground.data} (by simp) rfl;have q0:=ag (qc.cell (j:=2) rfl) HW.out qc.lt;clear hall;refine aQ rfl rfl (λK' hK'=>?_);go_simp;have hh:=hK' _ _ (hK _ _ (bI _ _) rfl);simpa [upd,d0]using hh
  ·simp at ho;subst ho;clear hall;refine aQ rfl rfl (λK' hK'=>?_);go_simp;have hh:=hK' _ _ (hK _ _ (bI _ _) rfl);simpa [upd]using hh
  ·simp at ho;subst ho;have d2:Y 2=_:=hall {on:=2,ground:=Ground.data} (by simp) rfl;have q0:=ag (qc.cell (j:=2) rfl) HW.out qc.lt;clear hall;refine aQ rfl rfl (λK' hK'=>?_);go_simp;have hh:=hK' _ _ (hK _ _ (bI _ _) rfl);simpa [upd,d2]using hh
  ·simp at ho;subst ho;have d3:Y 3=_:=hall {on:=3,ground:=Ground.data} (by simp) rfl;clear hall;refine aQ rfl rfl (λK' hK'=>?_);go_simp;refine(Y4.out W).mono ?_;rintro e W5 ⟨rfl,rfl⟩;go_simp;have hh:=hK' _ _ (hK _ _ (bI _ _) rfl);simpa [upd,d3]using hh
  ·simp at ho;subst ho;have d1:Y 1=_:=hall {on:=1,ground:=Ground.data} (by simp) rfl;have d4:Y 4=_:=hall {on:=4,ground:=Ground.data} (by simp) rfl;clear hall;refine aQ rfl rfl (λK' hK'=>?_);go_simp;have hh:=hK' _ _ (hK _ _ (aj W (.cells #[.int .i64 fu,.int .i64 wv,.int .i64 3000] 3)) ⟨W.heap.size,rfl,HW.size,Row.new' _ _ rfl⟩);simpa [upd,d1,d4]using hh
  ·simp at ho;subst ho;obtain⟨g,d5,hg1,hg2⟩:=hall {on:=5,ground:=Ground.data} (by simp) rfl;clear hall;refine aQ rfl rfl (λK' hK'=>?_);go_simp;have hh:=hK' _ _ (hK _ _ (bI _ _) ⟨g,rfl,hg1,hg2⟩);simpa [upd,d5]using hh
  ·simp at ho
 ·intro Y W hb hall;obtain⟨g,d6,hg1,hg2⟩:=hall 6 (by simp)
  show Q .normal ⟨List.toArray (c0::(Value.pointer (some ⟨pb,0,none⟩))::c2::c3::c4::Y 6::c6::c7::c8::c9::c10::c11::c12::c13::c14::c15::c16::c17::c18::c19::c20::uI::uH::uG::uF::uE::uD::uC::uB::uA::uz::uy::uw::uu::uq::uo::um::uk::uj::ui::uh::ug::Y 0::Y 1::Y 2::Y 3::Y 4::Y 5::uf::tZ::tY::tX::tW::tV::tU::tT::tS::tR::tQ::tP::tO::tN::tM::tL::wJ::wI::wH::wG::wF::wE::wD::wC::wB::wA::wz::wu::vZ::vY::vX::vW::vV::vU::vT::tK::tJ::tI::tH::tG::tF::tE::tD::tC::vS::vR::vQ::vP::vO::vN::vM::vL::j8::j7::j6::j5::jQ::jP::jO::jN::jM::jL::jK::jJ::jI::jH::jG::jF::lu::lq::lh::kZ::kY::kX::kW::kV::kU::kT::kR::kQ::kP::kO::kN::kH::[]),[]⟩ W
  rw[d6];exact MQ.out W g Y hb hg1 hg2
def grBC(pb qb gO k pn pc:Nat)(IA:Option Addr)(ic:Nat)(GA FA:Option Addr)(gc fc:Nat)(p:aM)(inp:List Int)(W:World):Nat->Value->(Nat->Prop)->Prop
 |0,v,_=>v= .pointer (some ⟨pb,0,none⟩)
 |1,v,_=>v= .slice (some ⟨qb,gO,none⟩) pn pc
 |2,v,_=>v= .int .i64 (k:Nat)
 |3,v,_=>v= .pointer (some ⟨qb,gO+k*3,none⟩)
 |4,v,_=>v= .agg #[.slice GA p.ax.length gc,.slice FA p.funcs.length fc,.int .i64 p.main]
 |5,v,S=>∃nS gc' nT nR,v= .agg #[.slice nS p.ax.length gc',.slice nT p.funcs.length nR,.int .i64 p.main]/\bH (only W S) W.heap.size (.slice nS p.ax.length gc',.slice nT p.funcs.length nR,.int .i64 p.main) p
 |6,v,_=>v= .pointer (some ⟨pb,1,none⟩)
 |7,v,_=>v= .slice IA inp.length ic
 |8,v,S|11,v,S=>∃oK nB,v= .slice oK inp.length nB/\inp.length<=nB/\nB<=9223372036854775807/\bE (only W S) W.heap.size inp (.slice oK inp.length nB)
 |_,_,_=>True
noncomputable def grBR:Code:=(mM (Tryz.f3.body.getD .skip)).getD 12 .skip
theorem nM(pb qb gO k pn pc:Nat)(IA:Option Addr)(ic:Nat)(GA FA:Option Addr)(gc fc:Nat)(p:aM)(inp:List Int)(af:Int)(w:World)(sW:Row w pb #[.slice (some ⟨qb,gO,none⟩) pn pc,.slice IA inp.length ic,.int .i64 af] 25)(P4:qb<w.heap.size)(hk:k<pn)
  (g0:w.cell? ⟨qb,gO+k*3,none⟩=some (.slice GA p.ax.length gc))(g1:w.cell? ⟨qb,gO+k*3+1,none⟩=some (.slice FA p.funcs.length fc))(g2:w.cell? ⟨qb,gO+k*3+2,none⟩=some (.int .i64 p.main))
  (hcp:∀W,Below w.heap.size w W->Calls prog 9 #[.agg #[.slice GA p.ax.length gc,.slice FA p.funcs.length fc,.int .i64 p.main]] W λe w'=>∃nS gc' nT nR,e= .returned (.agg #[.slice nS p.ax.length gc',.slice nT p.funcs.length nR,.int .i64 p.main])/\bH (only w' (From W.heap.size)) w'.heap.size (.slice nS p.ax.length gc',.slice nT p.funcs.length nR,.int .i64 p.main) p/\Below W.heap.size W w')
  (Ln:∀W,Below w.heap.size w W->Calls prog 10 #[.slice IA inp.length ic] W (gM uM 1 inp W))
  (c0 c2 c4 c5 c6 c7 c8 c9 c10 c11 c12 c13 c14 c15 c16 c17 c18 c19 c20 uI uH uG uF uE uD uC uB uA uz uy uw uu uq uo um uk uj ui uh ug wP wO wN wM wL wK uf tZ tY tX tW tV tU tT tS tR tQ tP tO tN tM tL wJ wI wH wG wF wE wD wC wB wA wz wu vZ vY vX vW vV vU vT tK tJ tI tH tG tF tE tD tC vS vR vQ vP vO vN vM vL j8 j7 j6 j5 jQ jP jO jN jM jL jK jJ jI jH jG jF lu lq lh kZ kY kX kW kV kU kT kR kQ kP kO kN kH:Value)(Q:Exit->Act->World->Prop)
  (mB:∀(W:World)(p':Nat)(nS:Option Addr)(gc':Nat)(nT:Option Addr)(nR:Nat)(oK:Option Addr)(nB:Nat)(Y:Nat->Value),Below w.heap.size w W->w.heap.size<=p'->Row W p' #[.slice nS p.ax.length gc',.slice nT p.funcs.length nR,.int .i64 p.main] 31->bH W W.heap.size (.slice nS p.ax.length gc',.slice nT p.funcs.length nR,.int .i64 p.main) p->inp.length<=nB->nB<=9223372036854775807->bE W W.heap.size inp (.slice oK inp.length nB)->Q .normal ⟨List.toArray (c0::(Value.pointer (some ⟨pb,0,none⟩))::c2::(Value.int .i64 (k:Nat))::c4::c5::c6::(Value.pointer (some ⟨p',0,none⟩))::(Value.slice oK inp.length nB)::c9::c10::c11::c12::c13::c14::c15::c16::c17::c18::c19::c20::uI::uH::uG::uF::uE::uD::uC::uB::uA::uz::uy::uw::uu::uq::uo::um::uk::uj::ui::uh::ug::wP::wO::wN::wM::wL::wK::uf::tZ::tY::tX::tW::tV::tU::tT::tS::tR::tQ::tP::tO::tN::tM::tL::Y 0::Y 1::Y 2::Y 3::Y 4::Y 5::Y 6::Y 7::Y 8::wA::wz::wu::vZ::vY::vX::vW::vV::vU::vT::tK::tJ::tI::tH::tG::tF::tE::tD::tC::vS::vR::vQ::vP::vO::vN::vM::vL::j8::j7::j6::j5::jQ::jP::jO::jN::jM::jL::jK::jJ::jI::jH::jG::jF::lu::lq::lh::kZ::kY::kX::kW::kV::kU::kT::kR::kQ::kP::kO::kN::kH::[]),[]⟩ W):
  Code.wp prog grBR Q ⟨List.toArray (c0::(Value.pointer (some ⟨pb,0,none⟩))::c2::(Value.int .i64 (k:Nat))::c4::c5::c6::c7::c8::c9::c10::c11::c12::c13::c14::c15::c16::c17::c18::c19::c20::uI::uH::uG::uF::uE::uD::uC::uB::uA::uz::uy::uw::uu::uq::uo::um::uk::uj::ui::uh::ug::wP::wO::wN::wM::wL::wK::uf::tZ::tY::tX::tW::tV::tU::tT::tS::tR::tQ::tP::tO::tN::tM::tL::wJ::wI::wH::wG::wF::wE::wD::wC::wB::wA::wz::wu::vZ::vY::vX::vW::vV::vU::vT::tK::tJ::tI::tH::tG::tF::tE::tD::tC::vS::vR::vQ::vP::vO::vN::vM::vL::j8::j7::j6::j5::jQ::jP::jO::jN::jM::jL::jK::jJ::jI::jH::jG::jF::lu::lq::lh::kZ::kY::kX::kW::kV::kU::kT::kR::kQ::kP::kO::kN::kH::[]),[]⟩ w:=by
 have iZ:(0:Int)<=(k:Int):=by omega
 have bA:(k:Int)<(pn:Int):=by omega
 have qc:=ae sW;have VQ:=ae P4;have BH:=ae g0;have Ko:=ae g1;have TU:=ae g2;have V6:=ae hcp;have ED:=ae Ln;clear sW P4 g0 g1 g2 hcp Ln;have MQ:=ae mB;clear mB
 conv=>arg 2;whnf
 refine EP (by kernel_rfl) 9 10 5 3 31 Pq (grBC pb qb gO k pn pc IA ic GA FA gc fc p inp) (λY=>⟨List.toArray (c0::(Value.pointer (some ⟨pb,0,none⟩))::c2::(Value.int .i64 (k:Nat))::c4::c5::c6::Y 9::Y 11::c9::c10::c11::c12::c13::c14::c15::c16::c17::c18::c19::c20::uI::uH::uG::uF::uE::uD::uC::uB::uA::uz::uy::uw::uu::uq::uo::um::uk::uj::ui::uh::ug::wP::wO::wN::wM::wL::wK::uf::tZ::tY::tX::tW::tV::tU::tT::tS::tR::tQ::tP::tO::tN::tM::tL::Y 0::Y 1::Y 2::Y 3::Y 4::Y 5::Y 6::Y 7::Y 8::wA::wz::wu::vZ::vY::vX::vW::vV::vU::vT::tK::tJ::tI::tH::tG::tF::tE::tD::tC::vS::vR::vQ::vP::vO::vN::vM::vL::j8::j7::j6::j5::jQ::jP::jO::jN::jM::jL::jK::jJ::jI::jH::jG::jF::lu::lq::lh::kZ::kY::kX::kW::kV::kU::kT::kR::kQ::kP::kO::kN::kH::[]),[]⟩) (λi=>if i=0 then wJ else if i=1 then wI else if i=2 then wH else if i=3 then wG else if i=4 then wF else if i=5 then wE else if i=6 then wD else if i=7 then wC else if i=8 then wB else if i=9 then c7 else if i=11 then c8 else undef) rfl (by kernel_rfl) (by simp) (by simp) (by decide) (by decide) (by decide) ?_ ?_ ?_ ?_ ?_ ?_
 ·intro o' ho;simp at ho;subst ho;exact⟨⟨{on:=9,ground:=Ground.data},by simp,rfl,rfl⟩,⟨{on:=5,ground:=Ground.data},by simp,rfl,rfl⟩⟩
 ·intro F W W' i v S hw hS h;have sub:Sub (only W S) (only W' S):=lI λk hk hk2=>⟨hk,hw.block k hk2 (hS k hk)⟩
  rcases i with _|_|_|_|_|_|_|_|_|_|_|_|i
  ·exact h
  ·exact h
  ·exact h
  ·exact h
  ·exact h
  ·obtain⟨nS,gc',nT,nR,h1,h2⟩:=h;exact⟨nS,gc',nT,nR,h1,h2.sub sub hw.size⟩
  ·exact h
  ·exact h
  ·obtain⟨oK,nB,h1,h2,h3,h4⟩:=h;exact⟨oK,nB,h1,h2,h3,h4.sub sub hw.size⟩
  ·trivial
  ·trivial
  ·obtain⟨oK,nB,h1,h2,h3,h4⟩:=h;exact⟨oK,nB,h1,h2,h3,h4.sub sub hw.size⟩
  ·trivial
 ·intro i o' Y Z W h1 h2 ho hb hall K hK;have HW:=ae hb;clear hb;rcases i with _|_|_|_|_|_|_|_|_|_|_|_|i
  ·simp at ho;subst ho;clear hall;refine aQ rfl rfl (λK' hK'=>?_);go_simp;have hh:=hK' _ _ (hK _ (λ_=>False) _ (bI _ _) rfl (λk hk=>hk.elim));simpa [upd]using hh
  ·simp at ho;subst ho;have d0:Y 0=_:=hall {on:=0,ground:=Ground.data} (by simp) rfl (by decide) (by decide);have q0:=ag (qc.cell (j:=0) rfl) HW.out qc.lt;clear hall;refine aQ rfl rfl (λK' hK'=>?_);go_simp;have hh:=hK' _ _ (hK _ (λ_=>False) _ (bI _ _) rfl (λk hk=>hk.elim));simpa [upd,d0]using hh
  ·simp at ho;subst ho;clear hall;refine aQ rfl rfl (λK' hK'=>?_);go_simp;have hh:=hK' _ _ (hK _ (λ_=>False) _ (bI _ _) rfl (λk hk=>hk.elim));simpa [upd]using hh
  ·simp at ho;subst ho;have d1:Y 1=_:=hall {on:=1,ground:=Ground.data} (by simp) rfl (by decide) (by decide);have d2:Y 2=_:=hall {on:=2,ground:=Ground.data} (by simp) rfl (by decide) (by decide);clear hall;refine aQ rfl rfl (λK' hK'=>?_);go_simp;have hh:=hK' _ _ (hK _ (λ_=>False) _ (bI _ _) rfl (λk hk=>hk.elim));simpa [upd,d1,d2]using hh
  ·simp at ho;subst ho;have d3:Y 3=_:=hall {on:=3,ground:=Ground.data} (by simp) rfl (by decide) (by decide);have q0:=ag BH.out HW.out VQ.out;have q1:=ag Ko.out HW.out VQ.out;have q2:=ag TU.out HW.out VQ.out;clear hall;refine aQ rfl rfl (λK' hK'=>?_);go_simp;have hh:=hK' _ _ (hK _ (λ_=>False) _ (bI _ _) rfl (λk hk=>hk.elim));simpa [upd,d3]using hh
  ·simp at ho;subst ho;have d4:Y 4=_:=hall {on:=4,ground:=Ground.data} (by simp) rfl (by decide) (by decide);clear hall;refine aQ rfl rfl (λK' hK'=>?_);go_simp;refine(V6.out W HW.out).mono ?_;rintro e W5 ⟨nS,gc',nT,nR,rfl,hat,vk⟩;go_simp;have hh:=hK' _ _ (hK _ (λk=>W.heap.size<=k/\k<W5.heap.size) W5 vk ⟨nS,gc',nT,nR,rfl,hat.sub (lI λk hk hk2=>⟨⟨hk,hk2⟩,rfl⟩) (aN _)⟩ (λk hk=>aH hk));simpa [upd,d4]using hh
  ·simp at ho;subst ho;clear hall;refine aQ rfl rfl (λK' hK'=>?_);go_simp;have hh:=hK' _ _ (hK _ (λ_=>False) _ (bI _ _) rfl (λk hk=>hk.elim));simpa [upd]using hh
  ·simp at ho;subst ho;have d6:Y 6=_:=hall {on:=6,ground:=Ground.data} (by simp) rfl (by decide) (by decide);have q0:=ag (qc.cell (j:=1) rfl) HW.out qc.lt;clear hall;refine aQ rfl rfl (λK' hK'=>?_);go_simp;have hh:=hK' _ _ (hK _ (λ_=>False) _ (bI _ _) rfl (λk hk=>hk.elim));simpa [upd,d6]using hh
  ·simp at ho;subst ho;have d7:Y 7=_:=hall {on:=7,ground:=Ground.data} (by simp) rfl (by decide) (by decide);clear hall;refine aQ rfl rfl (λK' hK'=>?_);go_simp;refine(ED.out W HW.out).mono ?_;rintro e W5 ⟨oK,nB,rfl,hat,⟨hc1,hc2⟩,vk⟩;go_simp;have hh:=hK' _ _ (hK _ (λk=>W.heap.size<=k/\k<W5.heap.size) W5 vk ⟨oK,nB,rfl,hc1,hc2,bE.sub (w:=only W5 _) hat (lI λk hk hk2=>⟨⟨hk,hk2⟩,rfl⟩) (aN _)⟩ (λk hk=>aH hk));simpa [upd,d7]using hh
  ·exact absurd rfl h1
  ·exact absurd rfl h2
  ·simp at ho;subst ho;obtain⟨oK,nB,d8,hc1,hc2,hat⟩:=hall {on:=8,ground:=Ground.data} (by simp) rfl (by decide) (by decide);clear hall;refine aQ rfl rfl (λK' hK'=>?_);go_simp;have hh:=hK' _ _ (hK _ (Z 8) _ (bI _ _) ⟨oK,nB,rfl,hc1,hc2,hat⟩ (λk hk=>aT ⟨{on:=8,ground:=Ground.data},by simp,rfl,by decide,by decide,hk⟩));simpa [upd,d8]using hh
  ·simp at ho
 ·intro o' Y W ho hb K hK;simp at ho;subst ho;clear hb;refine aQ rfl rfl (λK' hK'=>?_);go_simp;have hh:=hK' _ _ (hK #[.slice none 0 0,.slice none 0 0,.int .i64 0] rfl);simpa [upd]using hh
 ·intro o' Y S W p' cs ho hp hrow hcs Ln K hK;simp at ho;subst ho;obtain⟨nS,gc',nT,nR,dA,_⟩:=Ln;obtain⟨e0,e1,e2,rfl⟩:=Ug hcs;have q0:=hrow.cell (j:=0) rfl;have q1:=hrow.cell (j:=1) rfl;have q2:=hrow.cell (j:=2) rfl;have k0:=hrow.free 0;have k1:=hrow.free 1;have k2:=hrow.free 2;have yS:=ae hrow;clear hrow hcs;refine aQ rfl rfl (λK' hK'=>?_);go_simp;have hh:=hK' _ _ (hK _ undef (((((Wr.refl (λi=>i=p') W).iO p' _ _ (aH rfl)).iO p' _ _ (aH rfl)).iO p' _ _ (aH rfl))) (by rw[dA];exact(((yS.set 0 _).set 1 _).set 2 _)) (by rw[dA];rfl));simpa [upd,hp,dA]using hh
 ·intro Y Z W p' hb Dy hp hrow hall;obtain⟨⟨nS,gc',nT,nR,d5,h5⟩,_⟩:=hall 5 (by simp) (by decide) (by decide);obtain⟨⟨oK,nB,d11,hc1,hc2,h11⟩,_⟩:=hall 11 (by simp) (by decide) (by decide);rw[d5]at hrow
  show Q .normal ⟨List.toArray (c0::(Value.pointer (some ⟨pb,0,none⟩))::c2::(Value.int .i64 (k:Nat))::c4::c5::c6::Y 9::Y 11::c9::c10::c11::c12::c13::c14::c15::c16::c17::c18::c19::c20::uI::uH::uG::uF::uE::uD::uC::uB::uA::uz::uy::uw::uu::uq::uo::um::uk::uj::ui::uh::ug::wP::wO::wN::wM::wL::wK::uf::tZ::tY::tX::tW::tV::tU::tT::tS::tR::tQ::tP::tO::tN::tM::tL::Y 0::Y 1::Y 2::Y 3::Y 4::Y 5::Y 6::Y 7::Y 8::wA::wz::wu::vZ::vY::vX::vW::vV::vU::vT::tK::tJ::tI::tH::tG::tF::tE::tD::tC::vS::vR::vQ::vP::vO::vN::vM::vL::j8::j7::j6::j5::jQ::jP::jO::jN::jM::jL::jK::jJ::jI::jH::jG::jF::lu::lq::lh::kZ::kY::kX::kW::kV::kU::kT::kR::kQ::kP::kO::kN::kH::[]),[]⟩ W
  rw[hp,d11];exact MQ.out W p' nS gc' nT nR oK nB Y hb Dy hrow (h5.sub (EZ _ _) (aN _)) hc1 hc2 (h11.sub (EZ _ _) (aN _))
def Cu(pi:Nat)(GA FA IA:Option Addr)(gn gc fn fc il ic:Nat)(mn:Int)(fb lN k2:Nat)(fu:Int):Nat->Value
 |0=> .agg #[.slice GA gn gc,.slice FA fn fc,.int .i64 mn]
 |1=> .slice IA il ic
 |2=> .slice (some ⟨fb,lN,none⟩) 3 3
 |3=> .int .i64 (k2:Nat)
 |4=> .pointer (some ⟨fb,lN+k2,none⟩)
 |5=> .int .i64 fu
 |_=>undef
noncomputable def grCR:Code:=(mM (Tryz.f3.body.getD .skip)).getD 13 .skip
theorem nL(pi:Nat)(GA FA IA:Option Addr)(gn gc fn fc il ic:Nat)(mn:Int)(fb lN k2:Nat)(fu:Int)(w:World)(o:sX)(er:Int)(sW:Row w pi #[.slice GA gn gc,.slice FA fn fc,.int .i64 mn] 31)(hk:k2<3)(x8:fb<w.heap.size)(UT:w.cell? ⟨fb,lN+k2,none⟩=some (.int .i64 fu))
  (hrun:∀W,Below w.heap.size w W->Calls prog 11 #[.agg #[.slice GA gn gc,.slice FA fn fc,.int .i64 mn],.slice IA il ic,.int .i64 fu] W λe w'=>YX o er W e w')
  (c0 c1 c2 c3 c4 c9 c10 c11 c12 c13 c14 c15 c16 c17 c18 c19 c20 uI uH uG uF uE uD uC uB uA uz uy uw uu uq uo um uk uj ui uh ug wP wO wN wM wL wK uf tZ tY tX tW tV tU tT tS tR tQ tP tO tN tM tL wJ wI wH wG wF wE wD wC wB wA wz wu vZ vY vX vW vV vU vT tK tJ tI tH tG tF tE tD tC vS vR vQ vP vO vN vM vL j8 j7 j6 j5 jQ jP jO jN jM jL jK jJ jI jH jG jF lu lq lh kZ kY kX kW kV kU kT kR kQ kP kO kN kH:Value)(Q:Exit->Act->World->Prop)
  (mB:∀(W:World)(p':Nat)(u:Value)(Y:Nat->Value),Below w.heap.size w W->w.heap.size<=p'->Row W p' #[.int .i64 o.kind,.int .i64 o.code,u,.int .i64 o.steps,.int .i64 o.deep] 40->W.ownsRow w.heap.size 2 1 u o.out.length (o.out.map (Value.int .i64))->
   Q .normal ⟨List.toArray (c0::c1::c2::c3::c4::(Value.slice (some ⟨fb,lN,none⟩) 3 3)::(Value.int .i64 (k2:Nat))::(Value.pointer (some ⟨pi,0,none⟩))::(Value.slice IA il ic)::(Value.pointer (some ⟨p',0,none⟩))::(Value.int .i64 er)::c11::c12::c13::c14::c15::c16::c17::c18::c19::c20::uI::uH::uG::uF::uE::uD::uC::uB::uA::uz::uy::uw::uu::uq::uo::um::uk::uj::ui::uh::ug::wP::wO::wN::wM::wL::wK::uf::tZ::tY::tX::tW::tV::tU::tT::tS::tR::tQ::tP::tO::tN::tM::tL::wJ::wI::wH::wG::wF::wE::wD::wC::wB::Y 7::Y 0::Y 1::Y 2::Y 3::Y 4::Y 5::Y 6::Y 8::Y 9::tK::tJ::tI::tH::tG::tF::tE::tD::tC::vS::vR::vQ::vP::vO::vN::vM::vL::j8::j7::j6::j5::jQ::jP::jO::jN::jM::jL::jK::jJ::jI::jH::jG::jF::lu::lq::lh::kZ::kY::kX::kW::kV::kU::kT::kR::kQ::kP::kO::kN::kH::[]),[]⟩ W):
  Code.wp prog grCR Q ⟨List.toArray (c0::c1::c2::c3::c4::(Value.slice (some ⟨fb,lN,none⟩) 3 3)::(Value.int .i64 (k2:Nat))::(Value.pointer (some ⟨pi,0,none⟩))::(Value.slice IA il ic)::c9::c10::c11::c12::c13::c14::c15::c16::c17::c18::c19::c20::uI::uH::uG::uF::uE::uD::uC::uB::uA::uz::uy::uw::uu::uq::uo::um::uk::uj::ui::uh::ug::wP::wO::wN::wM::wL::wK::uf::tZ::tY::tX::tW::tV::tU::tT::tS::tR::tQ::tP::tO::tN::tM::tL::wJ::wI::wH::wG::wF::wE::wD::wC::wB::wA::wz::wu::vZ::vY::vX::vW::vV::vU::vT::tK::tJ::tI::tH::tG::tF::tE::tD::tC::vS::vR::vQ::vP::vO::vN::vM::vL::j8::j7::j6::j5::jQ::jP::jO::jN::jM::jL::jK::jJ::jI::jH::jG::jF::lu::lq::lh::kZ::kY::kX::kW::kV::kU::kT::kR::kQ::kP::kO::kN::kH::[]),[]⟩ w:=by
 have iZ:(0:Int)<=(k2:Int):=by omega
 have bA:(k2:Int)<3:=by omega
 have qc:=ae sW;have Zx:=ae x8;have HFU:=ae UT;have Px:=ae hrun;clear sW x8 UT hrun;have MQ:=ae mB;clear mB
 conv=>arg 2;whnf
 refine Hh (by kernel_rfl) 10 11 8 5 40 Pq (fW 2 w.heap.size 6 (Cu pi GA FA IA gn gc fn fc il ic mn fb lN k2 fu) o er) (fT 6 o er) (λY=>⟨List.toArray (c0::c1::c2::c3::c4::(Value.slice (some ⟨fb,lN,none⟩) 3 3)::(Value.int .i64 (k2:Nat))::(Value.pointer (some ⟨pi,0,none⟩))::(Value.slice IA il ic)::Y 10::Y 12::c11::c12::c13::c14::c15::c16::c17::c18::c19::c20::uI::uH::uG::uF::uE::uD::uC::uB::uA::uz::uy::uw::uu::uq::uo::um::uk::uj::ui::uh::ug::wP::wO::wN::wM::wL::wK::uf::tZ::tY::tX::tW::tV::tU::tT::tS::tR::tQ::tP::tO::tN::tM::tL::wJ::wI::wH::wG::wF::wE::wD::wC::wB::Y 7::Y 0::Y 1::Y 2::Y 3::Y 4::Y 5::Y 6::Y 8::Y 9::tK::tJ::tI::tH::tG::tF::tE::tD::tC::vS::vR::vQ::vP::vO::vN::vM::vL::j8::j7::j6::j5::jQ::jP::jO::jN::jM::jL::jK::jJ::jI::jH::jG::jF::lu::lq::lh::kZ::kY::kX::kW::kV::kU::kT::kR::kQ::kP::kO::kN::kH::[]),[]⟩) (λi=>if i=0 then wz else if i=1 then wu else if i=2 then vZ else if i=3 then vY else if i=4 then vX else if i=5 then vW else if i=6 then vV else if i=7 then wA else if i=8 then vU else if i=9 then vT else if i=10 then c9 else if i=12 then c10 else undef) rfl (by kernel_rfl) (by simp) (by simp) (by decide) (by decide) (by decide) ?_ (λ_ _ _ _ hb h=>h.below hb) (λW W' i v p _ hw A6 h=>h.wr hw (λg hg u=>by subst hg;exact⟨λhi e=>A6.1 hi u e,λhi e=>A6.2 hi u e⟩)) (λW i v _ h=>h.fresh) ?_ ?_ ?_ ?_
 ·intro o' ho;simp at ho;subst ho;exact⟨⟨{on:=10,ground:=Ground.data},by simp,rfl,rfl⟩,⟨{on:=8,ground:=Ground.data},by simp,rfl,rfl⟩⟩
 ·intro i o' Y W h1 h2 ho hb hall K hK;have HW:=ae hb;clear hb;rcases i with _|_|_|_|_|_|_|_|_|_|_|_|_|i
  ·simp at ho;subst ho;have q0:=ag (qc.cell (j:=0) rfl) HW.out qc.lt;have q1:=ag (qc.cell (j:=1) rfl) HW.out qc.lt;have q2:=ag (qc.cell (j:=2) rfl) HW.out qc.lt;clear hall;refine aQ rfl rfl (λK' hK'=>?_);go_simp;have hh:=hK' _ _ (hK _ _ (bI _ _) (fW.const (by decide)) (λp _ _ _=>fT.const (by decide) p));simpa [upd,Cu]using hh
  ·simp at ho;subst ho;clear hall;refine aQ rfl rfl (λK' hK'=>?_);go_simp;have hh:=hK' _ _ (hK _ _ (bI _ _) (fW.const (by decide)) (λp _ _ _=>fT.const (by decide) p));simpa [upd,Cu]using hh
  ·simp at ho;subst ho;clear hall;refine aQ rfl rfl (λK' hK'=>?_);go_simp;have hh:=hK' _ _ (hK _ _ (bI _ _) (fW.const (by decide)) (λp _ _ _=>fT.const (by decide) p));simpa [upd,Cu]using hh
  ·simp at ho;subst ho;clear hall;refine aQ rfl rfl (λK' hK'=>?_);go_simp;have hh:=hK' _ _ (hK _ _ (bI _ _) (fW.const (by decide)) (λp _ _ _=>fT.const (by decide) p));simpa [upd,Cu]using hh
  ·simp at ho;subst ho;have d2:Y 2=_:=(hall {on:=2,ground:=Ground.data} (by simp) rfl (by decide) (by decide)).c (by decide);have d3:Y 3=_:=(hall {on:=3,ground:=Ground.data} (by simp) rfl (by decide) (by decide)).c (by decide);simp only[Cu]at d2 d3;clear hall;refine aQ rfl rfl (λK' hK'=>?_);go_simp;have hh:=hK' _ _ (hK _ _ (bI _ _) (fW.const (by decide)) (λp _ _ _=>fT.const (by decide) p));simpa [upd,Cu,d2,d3]using hh
  ·simp at ho;subst ho;have d4:Y 4=_:=(hall {on:=4,ground:=Ground.data} (by simp) rfl (by decide) (by decide)).c (by decide);simp only[Cu]at d4;have q0:=ag HFU.out HW.out Zx.out;clear hall;refine aQ rfl rfl (λK' hK'=>?_);go_simp;have hh:=hK' _ _ (hK _ _ (bI _ _) (fW.const (by decide)) (λp _ _ _=>fT.const (by decide) p));simpa [upd,Cu,d4]using hh
  ·simp at ho;subst ho;have d0:Y 0=_:=(hall {on:=0,ground:=Ground.data} (by simp) rfl (by decide) (by decide)).c (by decide);have d1:Y 1=_:=(hall {on:=1,ground:=Ground.data} (by simp) rfl (by decide) (by decide)).c (by decide);have d5:Y 5=_:=(hall {on:=5,ground:=Ground.data} (by simp) rfl (by decide) (by decide)).c (by decide);simp only[Cu]at d0 d1 d5;clear hall;refine aQ rfl rfl (λK' hK'=>?_);go_simp;refine(Px.out W HW.out).mono ?_;rintro e W5 ⟨u,rfl,hu,vk⟩;go_simp;have hh:=hK' _ _ (hK (outT o er u) W5 vk (fW.call (aH rfl) (eX hu HW.size)) (λp _ hp _=>fT.call (aH rfl) (λh=>by have:=(hu.lt _ h).1;omega)));simpa [upd,outT,nU,d0,d1,d5]using hh
  ·simp at ho;subst ho;obtain⟨u,dT,hu⟩:=(hall {on:=6,ground:=Ground.data} (by simp) rfl (by decide) (by decide)).t (aH rfl);clear hall;refine aQ rfl rfl (λK' hK'=>?_);go_simp;have hh:=hK' _ _ (hK (outT o er u) _ (bI _ _) (fW.call (aT rfl) hu) (λp _ _ A6=>fT.call (aT rfl) ((A6 {on:=6,ground:=Ground.data} (by simp) rfl (by decide) (by decide)).1 (aH rfl) u dT)));simpa [upd,outT,nU,dT]using hh
  ·simp at ho;subst ho;obtain⟨u,dT,hu⟩:=(hall {on:=7,ground:=Ground.data} (by simp) rfl (by decide) (by decide)).t (aT rfl);clear hall;refine aQ rfl rfl (λK' hK'=>?_);simp only[outT,nU]at dT;go_simp;have hh:=hK' _ _ (hK (nU o u) _ (bI _ _) (fW.part rfl hu) (λp _ _ A6=>fT.part rfl ((A6 {on:=7,ground:=Ground.data} (by simp) rfl (by decide) (by decide)).1 (aT rfl) u dT)));simpa [upd,outT,nU,dT]using hh
  ·simp at ho;subst ho;obtain⟨u,dT,hu⟩:=(hall {on:=7,ground:=Ground.data} (by simp) rfl (by decide) (by decide)).t (aT rfl);clear hall;refine aQ rfl rfl (λK' hK'=>?_);simp only[outT,nU]at dT;go_simp;have hh:=hK' _ _ (hK (.int .i64 er) _ (bI _ _) (fW.err (aH rfl)) (λp _ _ _=>fT.err (aH rfl) p));simpa [upd,outT,nU,dT]using hh
  ·exact absurd rfl h1
  ·exact absurd rfl h2
  ·simp at ho;subst ho;have dE:=(hall {on:=9,ground:=Ground.data} (by simp) rfl (by decide) (by decide)).e (aH rfl);clear hall;refine aQ rfl rfl (λK' hK'=>?_);go_simp;have hh:=hK' _ _ (hK (.int .i64 er) _ (bI _ _) (fW.err (aT rfl)) (λp _ _ _=>fT.err (aT rfl) p));simpa [upd,dE]using hh
  ·simp at ho
 ·intro o' Y W ho hb K hK;simp at ho;subst ho;clear hb;refine aQ rfl rfl (λK' hK'=>?_);go_simp;have hh:=hK' _ _ (hK #[.int .i64 0,.int .i64 0,.slice none 0 0,.int .i64 0,.int .i64 0] rfl);simpa [upd]using hh
 ·intro o' Y W p cs ho hp hrow hcs Ln K hK;simp at ho;subst ho;obtain⟨u,dA,hu⟩:=Ln.a rfl;obtain⟨UA,uc,rfl⟩:=mU hu;obtain⟨e0,e1,e2,e3,e4,rfl⟩:=Tg hcs;have q0:=hrow.cell (j:=0) rfl;have q1:=hrow.cell (j:=1) rfl;have q2:=hrow.cell (j:=2) rfl;have q3:=hrow.cell (j:=3) rfl;have q4:=hrow.cell (j:=4) rfl;have k0:=hrow.free 0;have k1:=hrow.free 1;have k2:=hrow.free 2;have k3:=hrow.free 3;have k4:=hrow.free 4;have yS:=ae hrow;clear hrow hcs Ln;simp only[nU]at dA;refine aQ rfl rfl (λK' hK'=>?_);go_simp;have hh:=hK' _ _ (hK _ undef (((((((Wr.refl (λi=>i=p) W).iO p _ _ (aH rfl)).iO p _ _ (aH rfl)).iO p _ _ (aH rfl)).iO p _ _ (aH rfl)).iO p _ _ (aH rfl))) (by rw[dA];exact(((((yS.set 0 _).set 1 _).set 2 _).set 3 _).set 4 _)) (by rw[dA];rfl))
  simpa [upd,hp,dA]using hh
 ·intro Y W p hb Dy hp hrow hall;obtain⟨u,dA,hu⟩:=(hall 8 (by simp) (by decide) (by decide)).1.a rfl;have dE:=(hall 12 (by simp) (by decide) (by decide)).1.e (aT rfl);rw[dA]at hrow
  show Q .normal ⟨List.toArray (c0::c1::c2::c3::c4::(Value.slice (some ⟨fb,lN,none⟩) 3 3)::(Value.int .i64 (k2:Nat))::(Value.pointer (some ⟨pi,0,none⟩))::(Value.slice IA il ic)::Y 10::Y 12::c11::c12::c13::c14::c15::c16::c17::c18::c19::c20::uI::uH::uG::uF::uE::uD::uC::uB::uA::uz::uy::uw::uu::uq::uo::um::uk::uj::ui::uh::ug::wP::wO::wN::wM::wL::wK::uf::tZ::tY::tX::tW::tV::tU::tT::tS::tR::tQ::tP::tO::tN::tM::tL::wJ::wI::wH::wG::wF::wE::wD::wC::wB::Y 7::Y 0::Y 1::Y 2::Y 3::Y 4::Y 5::Y 6::Y 8::Y 9::tK::tJ::tI::tH::tG::tF::tE::tD::tC::vS::vR::vQ::vP::vO::vN::vM::vL::j8::j7::j6::j5::jQ::jP::jO::jN::jM::jL::jK::jJ::jI::jH::jG::jF::lu::lq::lh::kZ::kY::kX::kW::kV::kU::kT::kR::kQ::kP::kO::kN::kH::[]),[]⟩ W
  rw[hp,dE];exact MQ.out W p u Y hb Dy hrow hu
def grDC(N pb qb gO k pn pc il ic gn gc fn fc:Nat)(IA GA FA:Option Addr)(mn:Int)(fb lN k2:Nat)(fu:Int)(o:sX)(W:World):Nat->Value->Prop
 |0,v=>v= .pointer (some ⟨pb,0,none⟩)
 |1,v=>v= .slice (some ⟨qb,gO,none⟩) pn pc
 |2,v=>v= .int .i64 (k:Nat)
 |3,v=>v= .pointer (some ⟨qb,gO+k*3,none⟩)
 |4,v=>v= .agg #[.slice GA gn gc,.slice FA fn fc,.int .i64 mn]
 |5,v=>v= .pointer (some ⟨pb,1,none⟩)
 |6,v=>v= .slice IA il ic
 |7,v=>v= .slice (some ⟨fb,lN,none⟩) 3 3
 |8,v=>v= .int .i64 (k2:Nat)
 |9,v=>v= .pointer (some ⟨fb,lN+k2,none⟩)
 |10,v=>v= .int .i64 fu
 |11,v=>∃u,v=nU o u/\W.ownsRow N 2 1 u o.out.length (o.out.map (Value.int .i64))
 |12,v=>v= .int .i64 0
 |_,_=>True
noncomputable def grDR:Code:=(mM (Tryz.f3.body.getD .skip)).getD 16 .skip
theorem IW(pb qb gO k pn pc il ic gn gc fn fc:Nat)(IA GA FA:Option Addr)(mn:Int)(fb lN k2:Nat)(fu:Int)(o:sX)(pw:Nat)(cw:Array Value)(af:Int)(w:World)(sW:Row w pb #[.slice (some ⟨qb,gO,none⟩) pn pc,.slice IA il ic,.int .i64 af] 25)(sL:pb≠pw)(P4:qb<w.heap.size)(hnq:qb≠pw)(hk:k<pn)(hk2:k2<3)(x8:fb<w.heap.size)(Ww:fb≠pw)
  (g0:w.cell? ⟨qb,gO+k*3,none⟩=some (.slice GA gn gc))(g1:w.cell? ⟨qb,gO+k*3+1,none⟩=some (.slice FA fn fc))(g2:w.cell? ⟨qb,gO+k*3+2,none⟩=some (.int .i64 mn))(UT:w.cell? ⟨fb,lN+k2,none⟩=some (.int .i64 fu))
  (aG:Row w pw cw 40)(hcw:cw.size=5)
  (hrun:∀W,Wr (λi=>i=pw) w W->Calls prog 13 #[.agg #[.slice GA gn gc,.slice FA fn fc,.int .i64 mn],.slice IA il ic,.int .i64 fu] W λe w'=>Ec o W.heap.size W e w')
  (c0 c2 c4 c7 c8 c9 c10 c11 c13 c14 c15 c16 c17 c18 c19 c20 uI uH uG uF uE uD uC uB uA uz uy uw uu uq uo um uk uj ui uh ug wP wO wN wM wL wK uf tZ tY tX tW tV tU tT tS tR tQ tP tO tN tM tL wJ wI wH wG wF wE wD wC wB wA wz wu vZ vY vX vW vV vU vT tK tJ tI tH tG tF tE tD tC vS vR vQ vP vO vN vM vL j8 j7 j6 j5 jQ jP jO jN jM jL jK jJ jI jH jG jF lu lq lh kZ kY kX kW kV kU kT kR kQ kP kO kN kH:Value)(Q:Exit->Act->World->Prop)
  (mB:∀(W:World)(u:Value)(Y:Nat->Value),Wr (λi=>i=pw) w W->Row W pw #[.int .i64 o.kind,.int .i64 o.code,u,.int .i64 o.steps,.int .i64 o.deep] 40->W.ownsRow w.heap.size 2 1 u o.out.length (o.out.map (Value.int .i64))->Q .normal ⟨List.toArray (c0::(Value.pointer (some ⟨pb,0,none⟩))::c2::(Value.int .i64 (k:Nat))::c4::(Value.slice (some ⟨fb,lN,none⟩) 3 3)::(Value.int .i64 (k2:Nat))::c7::c8::c9::c10::(Value.int .i64 0)::(Value.pointer (some ⟨pw,0,none⟩))::c13::c14::c15::c16::c17::c18::c19::c20::uI::uH::uG::uF::uE::uD::uC::uB::uA::uz::uy::uw::uu::uq::uo::um::uk::uj::ui::uh::ug::wP::wO::wN::wM::wL::wK::uf::tZ::tY::tX::tW::tV::tU::tT::tS::tR::tQ::tP::tO::tN::tM::tL::wJ::wI::wH::wG::wF::wE::wD::wC::wB::wA::wz::wu::vZ::vY::vX::vW::vV::vU::vT::tK::tJ::tI::tH::tG::tF::tE::tD::tC::Y 0::Y 1::Y 2::Y 3::Y 4::Y 5::Y 6::Y 7::Y 8::Y 9::Y 10::Y 11::jQ::jP::jO::jN::jM::jL::jK::jJ::jI::jH::jG::jF::lu::lq::lh::kZ::kY::kX::kW::kV::kU::kT::kR::kQ::kP::kO::kN::kH::[]),[]⟩ W):
  Code.wp prog grDR Q ⟨List.toArray (c0::(Value.pointer (some ⟨pb,0,none⟩))::c2::(Value.int .i64 (k:Nat))::c4::(Value.slice (some ⟨fb,lN,none⟩) 3 3)::(Value.int .i64 (k2:Nat))::c7::c8::c9::c10::c11::(Value.pointer (some ⟨pw,0,none⟩))::c13::c14::c15::c16::c17::c18::c19::c20::uI::uH::uG::uF::uE::uD::uC::uB::uA::uz::uy::uw::uu::uq::uo::um::uk::uj::ui::uh::ug::wP::wO::wN::wM::wL::wK::uf::tZ::tY::tX::tW::tV::tU::tT::tS::tR::tQ::tP::tO::tN::tM::tL::wJ::wI::wH::wG::wF::wE::wD::wC::wB::wA::wz::wu::vZ::vY::vX::vW::vV::vU::vT::tK::tJ::tI::tH::tG::tF::tE::tD::tC::vS::vR::vQ::vP::vO::vN::vM::vL::j8::j7::j6::j5::jQ::jP::jO::jN::jM::jL::jK::jJ::jI::jH::jG::jF::lu::lq::lh::kZ::kY::kX::kW::kV::kU::kT::kR::kQ::kP::kO::kN::kH::[]),[]⟩ w:=by
 have iZ:(0:Int)<=(k:Int):=by omega
 have bA:(k:Int)<(pn:Int):=by omega
 have Ya:(0:Int)<=(k2:Int):=by omega
 have Rg:(k2:Int)<3:=by omega
 have qc:=ae sW;have Kl:=ae sL;have VQ:=ae P4;have HNQ:=ae hnq;have Zx:=ae x8;have HNF:=ae Ww;have HFU:=ae UT;have cV:=ae aG;have HCW:=ae hcw;have Px:=ae hrun;have BH:=ae g0;have Ko:=ae g1;have TU:=ae g2;have HOLD:=ae (show∀(W:World)(b j:Nat)(v:Value),w.cell? ⟨b,j,none⟩=some v->Wr (λi=>i=pw) w W->b<w.heap.size->b≠pw->W.cell? ⟨b,j,none⟩=some v from λW b j v h hw hlt hne=>(World.cell?_of_block (a:=⟨b,j,none⟩) (hw.block b hlt hne)).trans h);clear sW sL P4 hnq x8 Ww g0 g1 g2 UT aG hcw hrun;have MQ:=ae mB;clear mB
 conv=>arg 2;whnf
 refine Hg (by kernel_rfl) 13 11 pw 5 40 Pq (grDC w.heap.size pb qb gO k pn pc il ic gn gc fn fc IA GA FA mn fb lN k2 fu o) (λY=>⟨List.toArray (c0::(Value.pointer (some ⟨pb,0,none⟩))::c2::(Value.int .i64 (k:Nat))::c4::(Value.slice (some ⟨fb,lN,none⟩) 3 3)::(Value.int .i64 (k2:Nat))::c7::c8::c9::c10::Y 12::(Value.pointer (some ⟨pw,0,none⟩))::c13::c14::c15::c16::c17::c18::c19::c20::uI::uH::uG::uF::uE::uD::uC::uB::uA::uz::uy::uw::uu::uq::uo::um::uk::uj::ui::uh::ug::wP::wO::wN::wM::wL::wK::uf::tZ::tY::tX::tW::tV::tU::tT::tS::tR::tQ::tP::tO::tN::tM::tL::wJ::wI::wH::wG::wF::wE::wD::wC::wB::wA::wz::wu::vZ::vY::vX::vW::vV::vU::vT::tK::tJ::tI::tH::tG::tF::tE::tD::tC::Y 0::Y 1::Y 2::Y 3::Y 4::Y 5::Y 6::Y 7::Y 8::Y 9::Y 10::Y 11::jQ::jP::jO::jN::jM::jL::jK::jJ::jI::jH::jG::jF::lu::lq::lh::kZ::kY::kX::kW::kV::kU::kT::kR::kQ::kP::kO::kN::kH::[]),[]⟩) (λi=>if i=0 then vS else if i=1 then vR else if i=2 then vQ else if i=3 then vP else if i=4 then vO else if i=5 then vN else if i=6 then vM else if i=7 then vL else if i=8 then j8 else if i=9 then j7 else if i=10 then j6 else if i=11 then j5 else if i=12 then c11 else undef) rfl (by kernel_rfl) (by simp) (by decide) ⟨cw,cV.out,HCW.out⟩ ?_ ?_ ?_ ?_ ?_ ?_
 ·intro o' ho;simp at ho;subst ho;exact⟨{on:=11,ground:=Ground.data},by simp,rfl,rfl⟩
 ·intro W W' i v hb h;rcases i with _|_|_|_|_|_|_|_|_|_|_|_|_|i
  all_goals first|(with_reducible exact h)|trivial|skip
  obtain⟨u,h1,h2⟩:=h;exact⟨u,h1,aB h2 (di hb) (λ_ _ h=>h)⟩
 ·intro W W' i v hw h;rcases i with _|_|_|_|_|_|_|_|_|_|_|_|_|i
  all_goals first|(with_reducible exact h)|trivial|skip
  obtain⟨u,h1,h2⟩:=h;refine⟨u,h1,aB h2 hw (λg hg e=>?_)⟩;have:=(h2.lt _ hg).1;have hlt:=cV.lt;omega
 ·intro i o' Y W h2 ho hb hall K hK;have HW:=ae hb;clear hb;rcases i with _|_|_|_|_|_|_|_|_|_|_|_|_|_|i
  ·simp at ho;subst ho;clear hall;refine aQ rfl rfl (λK' hK'=>?_);go_simp;have hh:=hK' _ _ (hK _ _ (bI _ _) rfl);simpa [upd]using hh
  ·simp at ho;subst ho;have d0:Y 0=_:=hall {on:=0,ground:=Ground.data} (by simp) rfl (by decide);have q0:=HOLD.out W _ _ _ (qc.cell (j:=0) rfl) HW.out qc.lt Kl.out;clear hall;refine aQ rfl rfl (λK' hK'=>?_);go_simp;have hh:=hK' _ _ (hK _ _ (bI _ _) rfl);simpa [upd,d0]using hh
  ·simp at ho;subst ho;clear hall;refine aQ rfl rfl (λK' hK'=>?_);go_simp;have hh:=hK' _ _ (hK _ _ (bI _ _) rfl);simpa [upd]using hh
  ·simp at ho;subst ho;have d1:Y 1=_:=hall {on:=1,ground:=Ground.data} (by simp) rfl (by decide);have d2:Y 2=_:=hall {on:=2,ground:=Ground.data} (by simp) rfl (by decide);clear hall;refine aQ rfl rfl (λK' hK'=>?_);go_simp;have hh:=hK' _ _ (hK _ _ (bI _ _) rfl);simpa [upd,d1,d2]using hh
  ·simp at ho;subst ho;have d3:Y 3=_:=hall {on:=3,ground:=Ground.data} (by simp) rfl (by decide);have q0:=HOLD.out W _ _ _ BH.out HW.out VQ.out HNQ.out;have q1:=HOLD.out W _ _ _ Ko.out HW.out VQ.out HNQ.out;have q2:=HOLD.out W _ _ _ TU.out HW.out VQ.out HNQ.out;clear hall;refine aQ rfl rfl (λK' hK'=>?_);go_simp;have hh:=hK' _ _ (hK _ _ (bI _ _) rfl);simpa [upd,d3]using hh
  ·simp at ho;subst ho;clear hall;refine aQ rfl rfl (λK' hK'=>?_);go_simp;have hh:=hK' _ _ (hK _ _ (bI _ _) rfl);simpa [upd]using hh
  ·simp at ho;subst ho;have d5:Y 5=_:=hall {on:=5,ground:=Ground.data} (by simp) rfl (by decide);have q0:=HOLD.out W _ _ _ (qc.cell (j:=1) rfl) HW.out qc.lt Kl.out;clear hall;refine aQ rfl rfl (λK' hK'=>?_);go_simp;have hh:=hK' _ _ (hK _ _ (bI _ _) rfl);simpa [upd,d5]using hh
  ·simp at ho;subst ho;clear hall;refine aQ rfl rfl (λK' hK'=>?_);go_simp;have hh:=hK' _ _ (hK _ _ (bI _ _) rfl);simpa [upd]using hh
  ·simp at ho;subst ho;clear hall;refine aQ rfl rfl (λK' hK'=>?_);go_simp;have hh:=hK' _ _ (hK _ _ (bI _ _) rfl);simpa [upd]using hh
  ·simp at ho;subst ho;have d7:Y 7=_:=hall {on:=7,ground:=Ground.data} (by simp) rfl (by decide);have d8:Y 8=_:=hall {on:=8,ground:=Ground.data} (by simp) rfl (by decide);clear hall;refine aQ rfl rfl (λK' hK'=>?_);go_simp;have hh:=hK' _ _ (hK _ _ (bI _ _) rfl);simpa [upd,d7,d8]using hh
  ·simp at ho;subst ho;have d9:Y 9=_:=hall {on:=9,ground:=Ground.data} (by simp) rfl (by decide);have q0:=HOLD.out W _ _ _ HFU.out HW.out Zx.out HNF.out;clear hall;refine aQ rfl rfl (λK' hK'=>?_);go_simp;have hh:=hK' _ _ (hK _ _ (bI _ _) rfl);simpa [upd,d9]using hh
  ·simp at ho;subst ho;have d4:Y 4=_:=hall {on:=4,ground:=Ground.data} (by simp) rfl (by decide);have d6:Y 6=_:=hall {on:=6,ground:=Ground.data} (by simp) rfl (by decide);have d10:Y 10=_:=hall {on:=10,ground:=Ground.data} (by simp) rfl (by decide);clear hall;refine aQ rfl rfl (λK' hK'=>?_);go_simp;refine(Px.out W HW.out).mono ?_;rintro e W5 ⟨u,rfl,hu,vk⟩;go_simp;have hh:=hK' _ _ (hK (nU o u) W5 vk ⟨u,rfl,eX hu HW.size⟩);simpa [upd,nU,d4,d6,d10]using hh
  ·simp at ho;subst ho;clear hall;refine aQ rfl rfl (λK' hK'=>?_);go_simp;have hh:=hK' _ _ (hK _ _ (bI _ _) rfl);simpa [upd]using hh
  ·exact absurd rfl h2
  ·simp at ho
 ·intro o' Y W cs ho hrow hcs Ln K hK;simp at ho;subst ho;obtain⟨u,dA,hu⟩:=Ln;obtain⟨UA,uc,rfl⟩:=mU hu;obtain⟨e0,e1,e2,e3,e4,rfl⟩:=Tg hcs;have q0:=hrow.cell (j:=0) rfl;have q1:=hrow.cell (j:=1) rfl;have q2:=hrow.cell (j:=2) rfl;have q3:=hrow.cell (j:=3) rfl;have q4:=hrow.cell (j:=4) rfl;have k0:=hrow.free 0;have k1:=hrow.free 1;have k2:=hrow.free 2;have k3:=hrow.free 3;have k4:=hrow.free 4;have yS:=ae hrow;clear hrow hcs;simp only[nU]at dA;refine aQ rfl rfl (λK' hK'=>?_);go_simp;have hh:=hK' _ _ (hK _ undef (((((((Wr.refl (λi=>i=pw) W).iO pw _ _ (aH rfl)).iO pw _ _ (aH rfl)).iO pw _ _ (aH rfl)).iO pw _ _ (aH rfl)).iO pw _ _ (aH rfl))) (by rw[dA];exact(((((yS.set 0 _).set 1 _).set 2 _).set 3 _).set 4 _)) (by rw[dA];rfl));simpa [upd,dA]using hh
 ·intro Y W hw hrow hall;obtain⟨u,dA,hu⟩:=hall 11 (by simp) (by decide);have d12:Y 12=_:=hall 12 (by simp) (by decide);rw[dA]at hrow
  show Q .normal ⟨List.toArray (c0::(Value.pointer (some ⟨pb,0,none⟩))::c2::(Value.int .i64 (k:Nat))::c4::(Value.slice (some ⟨fb,lN,none⟩) 3 3)::(Value.int .i64 (k2:Nat))::c7::c8::c9::c10::Y 12::(Value.pointer (some ⟨pw,0,none⟩))::c13::c14::c15::c16::c17::c18::c19::c20::uI::uH::uG::uF::uE::uD::uC::uB::uA::uz::uy::uw::uu::uq::uo::um::uk::uj::ui::uh::ug::wP::wO::wN::wM::wL::wK::uf::tZ::tY::tX::tW::tV::tU::tT::tS::tR::tQ::tP::tO::tN::tM::tL::wJ::wI::wH::wG::wF::wE::wD::wC::wB::wA::wz::wu::vZ::vY::vX::vW::vV::vU::vT::tK::tJ::tI::tH::tG::tF::tE::tD::tC::Y 0::Y 1::Y 2::Y 3::Y 4::Y 5::Y 6::Y 7::Y 8::Y 9::Y 10::Y 11::jQ::jP::jO::jN::jM::jL::jK::jJ::jI::jH::jG::jF::lu::lq::lh::kZ::kY::kX::kW::kV::kU::kT::kR::kQ::kP::kO::kN::kH::[]),[]⟩ W
  rw[d12];exact MQ.out W u Y hw hrow hu
end Go.Proofs.YtikbdplllopjlaaGreat
