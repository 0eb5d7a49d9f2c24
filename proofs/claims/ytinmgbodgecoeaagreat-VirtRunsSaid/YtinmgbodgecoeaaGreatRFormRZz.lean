/- The page's Form: its last region. Conditions: as stated. -/
import Derived.Test.YtinmgbodgecoeaaGreatRFormZz
import Derived.Test.YtinmgbodgecoeaaGreatQ15Zz
set_option linter.unusedSimpArgs false
set_option linter.unusedVariables false
set_option maxHeartbeats 8000000
set_option maxRecDepth 100000
open Go.Proofs.Tryz
namespace Go.Proofs.YtinmgbodgecoeaaGreat
open Go.RowKit
def di(xb:Nat)(x y:bg)(A:Option Addr)(c:Nat)(s0 s1 s2 s3 E L O:Bool)(ar:Int):Nat->Value
 |0=> .agg #[.bool s0,.bool s1,.bool s2,.bool s3]
 |1=> .agg #[.int .i64 x.op,.int .i64 x.dst,.int .i64 x.a,.int .i64 x.b,.int .i64 x.n,.slice A x.arg.length c]
 |2=> .agg #[.int .i64 y.op,.int .i64 y.dst,.int .i64 y.a,.int .i64 y.b,.int .i64 y.n,.slice A x.arg.length c]
 |3|4=> .bool E
 |5=>if E then .pointer (some ⟨xb,5,none⟩)else undef
 |6=>if E then .slice A x.arg.length c else undef
 |7=>if E then .int .i64 x.arg.length else undef
 |8=>if E then .int .i64 ar else undef
 |9=>if E then .bool L else undef
 |10|11=> .bool (E && L)
 |12=>if E && L then .agg #[.int .i64 x.op,.int .i64 x.dst,.int .i64 x.a,.int .i64 x.b,.int .i64 x.n,.slice A x.arg.length c]else undef
 |13=>if E && L then .bool O else undef
 |14=> .bool (E && (L && O))
 |_=>undef
noncomputable def rfeR:Code:=(fU (Tryz.f36.body.getD .skip)).getD 55 .skip
theorem cC(xb yb sb rb:Nat)(x y:bg)(A:Option Addr)(c:Nat)(s0 s1 s2 s3 E L O:Bool)(ar:Int)(w:World)
  (hx:Row w xb #[.int .i64 x.op,.int .i64 x.dst,.int .i64 x.a,.int .i64 x.b,.int .i64 x.n,.slice A x.arg.length c] 94)(hy:Row w yb #[.int .i64 y.op,.int .i64 y.dst,.int .i64 y.a,.int .i64 y.b,.int .i64 y.n,.slice A x.arg.length c] 94)(hs:Row w sb #[.bool s0,.bool s1,.bool s2,.bool s3] 98)(hr:Row w rb #[.bool false,.bool false,.bool false,.bool false] 98)
  (hE:∀W,Below w.heap.size w W->Calls prog 58 #[.agg #[.int .i64 x.op,.int .i64 x.dst,.int .i64 x.a,.int .i64 x.b,.int .i64 x.n,.slice A x.arg.length c],.agg #[.int .i64 y.op,.int .i64 y.dst,.int .i64 y.a,.int .i64 y.b,.int .i64 y.n,.slice A x.arg.length c]] W λe w'=>e= .returned (.bool E)/\Below W.heap.size W w')
  (hO:∀W,Below w.heap.size w W->Calls prog 59 #[.agg #[.int .i64 x.op,.int .i64 x.dst,.int .i64 x.a,.int .i64 x.b,.int .i64 x.n,.slice A x.arg.length c]] W λe w'=>e= .returned (.bool O)/\Below W.heap.size W w')
  (hL:((x.arg.length:Int)==ar)=L)
  {c0 c1 c2 c3 c5 c6 c7 c9 c13 c14 c15 c16 c17 c18 c19 c20 c21 iU iT iX iW jM jL jK jJ jI jH jG jF jE jD jC jB jA jo jm jy kG kF kE kD kC kB jw c49 kA c51 jY jX jW jV jU jT jS jR jQ jP jO jN kV kU kT kS kR kQ kP kO kN lN kM kL lM lL lK lJ lI lH mY mD mC lG lF lD lC lB lA mX nA nz ny ni m9 m6 mW mV eH eG eF eD ed dZ dY dX dW dV dU dS dR dQ dP dO dN dH dG c119 dD dC eV eU eT eQ eP fC fB fA eZ eY mi lZ lY lX lW zN c138 zM zL Cr Cq Co Cn Cm Ck Cj Ci Ch Cg Cf Ce Cc Cb Ca B6 BZ BX BW BU BS BR BQ zK zJ zI c167 zH zG zF zE zD zC zB BP BO BN BM BL BK BJ BI BH BG BF BD BC BB Bz:Value}(Q:Exit->Act->World->Prop)
  (cL:∀(W:World)(Y:Nat->Value),Wr (λi=>i=rb) w W->Row W rb #[.bool s0,.bool s1,.bool s2,.bool s3] 98->Q .normal ⟨List.toArray (c0::c1::c2::c3::(Value.pointer (some ⟨xb,0,none⟩))::c5::c6::c7::(Value.pointer (some ⟨rb,0,none⟩))::(Value.bool (E && (L && O)))::(Value.pointer (some ⟨yb,0,none⟩))::(Value.pointer (some ⟨sb,0,none⟩))::(Value.int .i64 ar)::c13::c14::c15::c16::c17::c18::c19::c20::c21::iU::iT::iX::iW::jM::jL::jK::jJ::jI::jH::jG::jF::jE::jD::jC::jB::jA::jo::jm::jy::kG::kF::kE::kD::kC::kB::jw::c49::kA::c51::jY::jX::jW::jV::jU::jT::jS::jR::jQ::jP::jO::jN::kV::kU::kT::kS::kR::kQ::kP::kO::kN::lN::kM::kL::lM::lL::lK::lJ::lI::lH::mY::mD::mC::lG::lF::lD::lC::lB::lA::mX::nA::nz::ny::ni::m9::m6::mW::mV::eH::eG::eF::eD::ed::dZ::dY::dX::dW::dV::dU::dS::dR::dQ::dP::dO::dN::dH::dG::c119::dD::dC::eV::eU::eT::eQ::eP::fC::fB::fA::eZ::eY::mi::lZ::lY::lX::lW::zN::c138::zM::zL::Cr::Cq::Co::Cn::Cm::Ck::Cj::Ci::Ch::Cg::Cf::Ce::Cc::Cb::Ca::B6::BZ::BX::BW::BU::BS::BR::BQ::zK::zJ::zI::c167::zH::zG::zF::zE::zD::zC::zB::Y 0::Y 1::Y 2::Y 3::Y 4::Y 5::Y 6::Y 7::Y 8::Y 9::Y 10::Y 11::Y 12::Y 13::Y 14::[]),[]⟩ W):
  Code.wp prog rfeR Q ⟨List.toArray (c0::c1::c2::c3::(Value.pointer (some ⟨xb,0,none⟩))::c5::c6::c7::(Value.pointer (some ⟨rb,0,none⟩))::c9::(Value.pointer (some ⟨yb,0,none⟩))::(Value.pointer (some ⟨sb,0,none⟩))::(Value.int .i64 ar)::c13::c14::c15::c16::c17::c18::c19::c20::c21::iU::iT::iX::iW::jM::jL::jK::jJ::jI::jH::jG::jF::jE::jD::jC::jB::jA::jo::jm::jy::kG::kF::kE::kD::kC::kB::jw::c49::kA::c51::jY::jX::jW::jV::jU::jT::jS::jR::jQ::jP::jO::jN::kV::kU::kT::kS::kR::kQ::kP::kO::kN::lN::kM::kL::lM::lL::lK::lJ::lI::lH::mY::mD::mC::lG::lF::lD::lC::lB::lA::mX::nA::nz::ny::ni::m9::m6::mW::mV::eH::eG::eF::eD::ed::dZ::dY::dX::dW::dV::dU::dS::dR::dQ::dP::dO::dN::dH::dG::c119::dD::dC::eV::eU::eT::eQ::eP::fC::fB::fA::eZ::eY::mi::lZ::lY::lX::lW::zN::c138::zM::zL::Cr::Cq::Co::Cn::Cm::Ck::Cj::Ci::Ch::Cg::Cf::Ce::Cc::Cb::Ca::B6::BZ::BX::BW::BU::BS::BR::BQ::zK::zJ::zI::c167::zH::zG::zF::zE::zD::zC::zB::BP::BO::BN::BM::BL::BK::BJ::BI::BH::BG::BF::BD::BC::BB::Bz::[]),[]⟩ w:=by
 have HX:=ae hx;have HY:=ae hy;have HS:=ae hs;have HR:=ae hr;have HE:=ae hE;have HO:=ae hO;have HL:=ae hL;have uu:=ae cL;clear hx hy hs hr hE hO hL cL
 conv=>arg 2;whnf
 refine Az 15 (λi=>decide (i=14)) (by kernel_rfl) (by kernel_rfl) (by kernel_rfl) (λi v=>v=di xb x y A c s0 s1 s2 s3 E L O ar i) (λW=>Wr (λi=>i=rb) w W/\Row W rb #[.bool s0,.bool s1,.bool s2,.bool s3] 98) (λY=>⟨List.toArray (c0::c1::c2::c3::(Value.pointer (some ⟨xb,0,none⟩))::c5::c6::c7::(Value.pointer (some ⟨rb,0,none⟩))::c9::(Value.pointer (some ⟨yb,0,none⟩))::(Value.pointer (some ⟨sb,0,none⟩))::(Value.int .i64 ar)::c13::c14::c15::c16::c17::c18::c19::c20::c21::iU::iT::iX::iW::jM::jL::jK::jJ::jI::jH::jG::jF::jE::jD::jC::jB::jA::jo::jm::jy::kG::kF::kE::kD::kC::kB::jw::c49::kA::c51::jY::jX::jW::jV::jU::jT::jS::jR::jQ::jP::jO::jN::kV::kU::kT::kS::kR::kQ::kP::kO::kN::lN::kM::kL::lM::lL::lK::lJ::lI::lH::mY::mD::mC::lG::lF::lD::lC::lB::lA::mX::nA::nz::ny::ni::m9::m6::mW::mV::eH::eG::eF::eD::ed::dZ::dY::dX::dW::dV::dU::dS::dR::dQ::dP::dO::dN::dH::dG::c119::dD::dC::eV::eU::eT::eQ::eP::fC::fB::fA::eZ::eY::mi::lZ::lY::lX::lW::zN::c138::zM::zL::Cr::Cq::Co::Cn::Cm::Ck::Cj::Ci::Ch::Cg::Cf::Ce::Cc::Cb::Ca::B6::BZ::BX::BW::BU::BS::BR::BQ::zK::zJ::zI::c167::zH::zG::zF::zE::zD::zC::zB::Y 0::Y 1::Y 2::Y 3::Y 4::Y 5::Y 6::Y 7::Y 8::Y 9::Y 10::Y 11::Y 12::Y 13::Y 14::[]),[]⟩) (λi=>if i=0 then BP else if i=1 then BO else if i=2 then BN else if i=3 then BM else if i=4 then BL else if i=5 then BK else if i=6 then BJ else if i=7 then BI else if i=8 then BH else if i=9 then BG else if i=10 then BF else if i=11 then BD else if i=12 then BC else if i=13 then BB else if i=14 then Bz else undef) rfl ?_ ?_ ?_ ?_
 ·intro i o' Y W hin hnl ho hb hall K hK;have HW:=ae hb;clear hb;rcases i with _|_|_|_|_|_|_|_|_|_|_|_|_|_|_|i
  ·simp at ho;subst ho;have q0:=ag (HS.cell (j:=0) rfl) HW.out HS.lt;have q1:=ag (HS.cell (j:=1) rfl) HW.out HS.lt;have q2:=ag (HS.cell (j:=2) rfl) HW.out HS.lt;have q3:=ag (HS.cell (j:=3) rfl) HW.out HS.lt;have ql:=fQ HS.lt HW.size;clear hall;refine ak rfl rfl (λK' hK'=>?_);go_simp;have hh:=hK' _ _ (hK _ _ (aV _ _) rfl);simpa [upd,di]using hh
  ·simp at ho;subst ho;have q0:=ag (HX.cell (j:=0) rfl) HW.out HX.lt;have q1:=ag (HX.cell (j:=1) rfl) HW.out HX.lt;have q2:=ag (HX.cell (j:=2) rfl) HW.out HX.lt;have q3:=ag (HX.cell (j:=3) rfl) HW.out HX.lt;have q4:=ag (HX.cell (j:=4) rfl) HW.out HX.lt;have q5:=ag (HX.cell (j:=5) rfl) HW.out HX.lt;have ql:=fQ HX.lt HW.size;clear hall;refine ak rfl rfl (λK' hK'=>?_);go_simp;have hh:=hK' _ _ (hK _ _ (aV _ _) rfl);simpa [upd,di]using hh
  ·simp at ho;subst ho;have q0:=ag (HY.cell (j:=0) rfl) HW.out HY.lt;have q1:=ag (HY.cell (j:=1) rfl) HW.out HY.lt;have q2:=ag (HY.cell (j:=2) rfl) HW.out HY.lt;have q3:=ag (HY.cell (j:=3) rfl) HW.out HY.lt;have q4:=ag (HY.cell (j:=4) rfl) HW.out HY.lt;have q5:=ag (HY.cell (j:=5) rfl) HW.out HY.lt;have ql:=fQ HY.lt HW.size;clear hall;refine ak rfl rfl (λK' hK'=>?_);go_simp;have hh:=hK' _ _ (hK _ _ (aV _ _) rfl);simpa [upd,di]using hh
  ·simp at ho;subst ho;have d1:Y 1=_:=hall {on:=1,ground:=Ground.data} (by simp) rfl;have d2:Y 2=_:=hall {on:=2,ground:=Ground.data} (by simp) rfl;simp only[di]at d1 d2;clear hall;refine ak rfl rfl (λK' hK'=>?_);go_simp;refine(HE.out W HW.out).mono ?_;rintro e W5 ⟨rfl,hb5⟩;have yh:=ae hb5;clear hb5;go_simp;have hh:=hK' _ _ (hK _ _ (yh.out) rfl);simpa [upd,di,d1,d2]using hh
  ·simp at ho;subst ho;have d3:Y 3=_:=hall {on:=3,ground:=Ground.data} (by simp) rfl;simp only[di]at d3;clear hall;refine ak rfl rfl (λK' hK'=>?_);go_simp;have hh:=hK' _ _ (hK _ _ (aV _ _) rfl);simpa [upd,di,d3]using hh
  ·simp at ho;subst ho;have d4:Y 4=_:=hall {on:=4,ground:=Ground.guard} (by simp) rfl;clear hall;obtain hE|hE:E=true\/E=false:=by cases E<;>simp
   ·simp[di,hE]at d4;refine nD rfl (by simp[Region.wanted,yielded,d4]) (λK' hK'=>?_);go_simp;have hh:=hK' _ _ (hK (di xb x y A c s0 s1 s2 s3 E L O ar 5) _ (aV _ _) rfl);simpa [upd,di,hE,d4]using hh
   ·simp[di,hE]at d4;refine nE rfl (by simp[Region.wanted,yielded,d4]) ?_;have hh:=hK (di xb x y A c s0 s1 s2 s3 E L O ar 5) _ (aV _ _) rfl;simpa [upd,Act.put,di,hE]using hh
  ·simp at ho;subst ho;have d4:Y 4=_:=hall {on:=4,ground:=Ground.guard} (by simp) rfl;have d5:Y 5=_:=hall {on:=5,ground:=Ground.data} (by simp) rfl;have q0:=ag (HX.cell (j:=0) rfl) HW.out HX.lt;have q1:=ag (HX.cell (j:=1) rfl) HW.out HX.lt;have q2:=ag (HX.cell (j:=2) rfl) HW.out HX.lt;have q3:=ag (HX.cell (j:=3) rfl) HW.out HX.lt;have q4:=ag (HX.cell (j:=4) rfl) HW.out HX.lt;have q5:=ag (HX.cell (j:=5) rfl) HW.out HX.lt;have ql:=fQ HX.lt HW.size;clear hall;obtain hE|hE:E=true\/E=false:=by cases E<;>simp
   ·simp[di,hE]at d4 d5;refine nD rfl (by simp[Region.wanted,yielded,d4]) (λK' hK'=>?_);go_simp;have hh:=hK' _ _ (hK (di xb x y A c s0 s1 s2 s3 E L O ar 6) _ (aV _ _) rfl);simpa [upd,di,hE,d4,d5]using hh
   ·simp[di,hE]at d4 d5;refine nE rfl (by simp[Region.wanted,yielded,d4]) ?_;have hh:=hK (di xb x y A c s0 s1 s2 s3 E L O ar 6) _ (aV _ _) rfl;simpa [upd,Act.put,di,hE]using hh
  ·simp at ho;subst ho;have d4:Y 4=_:=hall {on:=4,ground:=Ground.guard} (by simp) rfl;have d6:Y 6=_:=hall {on:=6,ground:=Ground.data} (by simp) rfl;clear hall;obtain hE|hE:E=true\/E=false:=by cases E<;>simp
   ·simp[di,hE]at d4 d6;refine nD rfl (by simp[Region.wanted,yielded,d4]) (λK' hK'=>?_);go_simp;have hh:=hK' _ _ (hK (di xb x y A c s0 s1 s2 s3 E L O ar 7) _ (aV _ _) rfl);simpa [upd,di,hE,d4,d6]using hh
   ·simp[di,hE]at d4 d6;refine nE rfl (by simp[Region.wanted,yielded,d4]) ?_;have hh:=hK (di xb x y A c s0 s1 s2 s3 E L O ar 7) _ (aV _ _) rfl;simpa [upd,Act.put,di,hE]using hh
  ·simp at ho;subst ho;have d4:Y 4=_:=hall {on:=4,ground:=Ground.guard} (by simp) rfl;clear hall;obtain hE|hE:E=true\/E=false:=by cases E<;>simp
   ·simp[di,hE]at d4;refine nD rfl (by simp[Region.wanted,yielded,d4]) (λK' hK'=>?_);go_simp;have hh:=hK' _ _ (hK (di xb x y A c s0 s1 s2 s3 E L O ar 8) _ (aV _ _) rfl);simpa [upd,di,hE,d4]using hh
   ·simp[di,hE]at d4;refine nE rfl (by simp[Region.wanted,yielded,d4]) ?_;have hh:=hK (di xb x y A c s0 s1 s2 s3 E L O ar 8) _ (aV _ _) rfl;simpa [upd,Act.put,di,hE]using hh
  ·simp at ho;subst ho;have d4:Y 4=_:=hall {on:=4,ground:=Ground.guard} (by simp) rfl;have d7:Y 7=_:=hall {on:=7,ground:=Ground.data} (by simp) rfl;have d8:Y 8=_:=hall {on:=8,ground:=Ground.data} (by simp) rfl;have hLL:=HL.out;clear hall;obtain hE|hE:E=true\/E=false:=by cases E<;>simp
   ·simp[di,hE]at d4 d7 d8;refine nD rfl (by simp[Region.wanted,yielded,d4]) (λK' hK'=>?_);go_simp;have hh:=hK' _ _ (hK (di xb x y A c s0 s1 s2 s3 E L O ar 9) _ (aV _ _) rfl);simpa [upd,di,hE,d4,d7,d8]using hh
   ·simp[di,hE]at d4 d7 d8;refine nE rfl (by simp[Region.wanted,yielded,d4]) ?_;have hh:=hK (di xb x y A c s0 s1 s2 s3 E L O ar 9) _ (aV _ _) rfl;simpa [upd,Act.put,di,hE]using hh
  ·simp at ho;subst ho;have d4:Y 4=_:=hall {on:=4,ground:=Ground.data} (by simp) rfl;have d9:Y 9=_:=hall {on:=9,ground:=Ground.data} (by simp) rfl;clear hall;cases hE:E<;>simp[di,hE]at d4 d9
   all_goals refine ak rfl rfl (λK' hK'=>?_)
   all_goals go_simp
   all_goals have hh:=hK' _ _ (hK (di xb x y A c s0 s1 s2 s3 _ L O ar 10) _ (aV _ _) rfl)
   all_goals simpa [upd,di,hE,d4,d9]using hh
  ·simp at ho;subst ho;have d10:Y 10=_:=hall {on:=10,ground:=Ground.data} (by simp) rfl;simp only[di]at d10;clear hall;refine ak rfl rfl (λK' hK'=>?_);go_simp;have hh:=hK' _ _ (hK _ _ (aV _ _) rfl);simpa [upd,di,d10]using hh
  ·simp at ho;subst ho;have yN:Y 11=_:=hall {on:=11,ground:=Ground.guard} (by simp) rfl;have q0:=ag (HX.cell (j:=0) rfl) HW.out HX.lt;have q1:=ag (HX.cell (j:=1) rfl) HW.out HX.lt;have q2:=ag (HX.cell (j:=2) rfl) HW.out HX.lt;have q3:=ag (HX.cell (j:=3) rfl) HW.out HX.lt;have q4:=ag (HX.cell (j:=4) rfl) HW.out HX.lt;have q5:=ag (HX.cell (j:=5) rfl) HW.out HX.lt;have ql:=fQ HX.lt HW.size;clear hall;obtain hE|hE:(E && L)=true\/(E && L)=false:=by cases (E && L)<;>simp
   ·simp[di,hE]at yN;refine nD rfl (by simp[Region.wanted,yielded,yN]) (λK' hK'=>?_);go_simp;have hh:=hK' _ _ (hK (di xb x y A c s0 s1 s2 s3 E L O ar 12) _ (aV _ _) rfl);simpa [upd,di,hE,yN]using hh
   ·simp[di,hE]at yN;refine nE rfl (by simp[Region.wanted,yielded,yN]) ?_;have hh:=hK (di xb x y A c s0 s1 s2 s3 E L O ar 12) _ (aV _ _) rfl;simpa [upd,Act.put,di,hE]using hh
  ·simp at ho;subst ho;have yN:Y 11=_:=hall {on:=11,ground:=Ground.guard} (by simp) rfl;have Nl:Y 12=_:=hall {on:=12,ground:=Ground.data} (by simp) rfl;clear hall;obtain hE|hE:(E && L)=true\/(E && L)=false:=by cases (E && L)<;>simp
   ·simp[di,hE]at yN Nl;refine nD rfl (by simp[Region.wanted,yielded,yN]) (λK' hK'=>?_);go_simp;refine(HO.out W HW.out).mono ?_;rintro e W5 ⟨rfl,hb5⟩;have yh:=ae hb5;clear hb5;go_simp;have hh:=hK' _ _ (hK (di xb x y A c s0 s1 s2 s3 E L O ar 13) _ (yh.out) rfl);simpa [upd,di,hE,yN,Nl]using hh
   ·simp[di,hE]at yN Nl;refine nE rfl (by simp[Region.wanted,yielded,yN]) ?_;have hh:=hK (di xb x y A c s0 s1 s2 s3 E L O ar 13) _ (aV _ _) rfl;simpa [upd,Act.put,di,hE]using hh
  ·simp at hnl
  ·omega
 ·intro i o' Y W hin hl ho hall K hK;obtain rfl:i=14:=by simpa using hl
  simp at ho;subst ho;have yN:Y 11=_:=hall {on:=11,ground:=Ground.data} (by simp) rfl;have Q8:Y 13=_:=hall {on:=13,ground:=Ground.data} (by simp) rfl;clear hall;cases hE:E<;>cases hL:L<;>simp[di,hE,hL]at yN Q8
  all_goals refine ak rfl rfl (λK' hK'=>?_)
  all_goals go_simp
  all_goals have hh:=hK' _ _ (hK (di xb x y A c s0 s1 s2 s3 _ _ O ar 14) rfl)
  all_goals simpa [upd,di,hE,hL,yN,Q8]using hh
 ·intro o' Y W ho hb hall K hK;simp at ho;subst ho;have d0:Y 0=_:=hall {on:=0,ground:=Ground.data} (by simp) rfl;simp only[di]at d0;clear hall;have pJ:=HR.below hb HR.lt;have Qy:=ae hb;have tZ:=ae pJ;have k0:=pJ.cell (j:=0) rfl;have k1:=pJ.cell (j:=1) rfl;have k2:=pJ.cell (j:=2) rfl;have k3:=pJ.cell (j:=3) rfl;have g0:=pJ.free 0;have g1:=pJ.free 1;have g2:=pJ.free 2;have g3:=pJ.free 3;have kl:=pJ.lt;clear hb pJ;refine ak rfl rfl (λK' hK'=>?_);go_simp;have hh:=hK' _ _ (hK undef _ ⟨((((((Wr.of_below (F:=λi=>i=rb) Qy.out).cJ rb 0 (.bool s0) (aK rfl)).cJ rb 1 (.bool s1) (aK rfl)).cJ rb 2 (.bool s2) (aK rfl)).cJ rb 3 (.bool s3) (aK rfl))),(((tZ.set 0 (.bool s0)).set 1 (.bool s1)).set 2 (.bool s2)).set 3 (.bool s3)⟩);simpa [upd,d0]using hh
 ·intro Y W ⟨hw,hr⟩ hall;have SK:Y 14=_:=hall 14 (by decide);simp only[di]at SK;have HHW:=ae hw;have HHR:=ae hr;clear hall hw hr;simp only[List.drop_succ_cons,List.drop_zero,SK];go_wp2_with fail;have hh:=uu.out W Y HHW.out HHR.out;simpa [SK]using hh
end Go.Proofs.YtinmgbodgecoeaaGreat
