/- The page's machine: a call's rounds, one a block. Conditions: as stated. -/
import Derived.Test.YtikbdplllopjlaaGreatQ14Zz
set_option linter.unusedVariables false
set_option linter.unusedSimpArgs false
set_option maxHeartbeats 8000000
set_option maxRecDepth 100000
open Go.Proofs.Tryz
namespace Go.Proofs.YtikbdplllopjlaaGreat
open Go.RowKit
theorem F6(ai mc:Nat)(own Xq:Nat->Prop)(P:Value×Value×Value)(ah d:Int)(p:aM)(ng fb tb nt gr RF k0:Nat)(g:aP)(LA BA:Option Addr)(bX cL:Nat)(qB:Value)(lo:List Nat)(R:cC)(Xm:St)(Wh:List V)(w w3:World)
  (hf:ah<=100000000)(kE:ai<=w.heap.size)(hP:bH w ai P p)(how:∀k,own k->ai<=k/\k<w.heap.size)(hBS:aL w ai 7 (dX w ai) g.blocks (.slice BA g.blocks.length cL))(Ll:lo.length=g.az.length)
  (hB0:mJ ai mc own P ah d ng fb tb nt (.int .i64 g.params,.int .i64 nt,.slice LA g.az.length bX,.slice BA g.blocks.length cL) qB lo gr #[.int .i64 g.params,.int .i64 nt,.slice LA g.az.length bX,.slice BA g.blocks.length cL] w w3 Xq Xm Wh)(iZ:k0<g.blocks.length)(Yi:(ah-Xm.steps).toNat<RF)(hd0:0<=d)(Qc:d<=64)
  (hblk:∀b,b∈g.blocks->(b.fin=1\/b.fin=2\/b.fin=3)/\(0<=b.next/\b.next<g.blocks.length)/\(0<=b.els/\b.els<g.blocks.length)/\(b.fin≠1->C8 nt g.az.length ng b.cond)/\∀x,x∈b.steps->JH R ah p d ng nt g.az.length x)
  (c1 c2 c3 c4 c5 c7 c10 c11 c12 c13 c15 c16 c17 c18 c19 c20 uI uH uG uF uE uD uC uB uA uz uy uw uu uq uo um uk uj ui uh ug wP wO wN wM wL wK uf tZ tY tX tW tV tU tT tS tR tQ tP tO tN tM tL wJ wI wH wG wF wE wD wC wB wA wz wu vZ vY vX vW vV vU vT tK tJ tI tH tG tF tE tD tC vS vR vQ vP vO vN vM vL j8 j7 j6 j5 jQ jP jO jN jM jL jK jJ jI jH jG jF lu lq lh kZ kY kX kW kV kU kT kR kQ kP kO kN kH Mo Mn Mm Ml Mk Mj Mi Mh Mg Mf Me Md Mc D3 SD SC SB Sy Sx Sw Sv Su Ss Sr Sq Sp Sn Sm Sl Sk Sj Si Sh Sg Sd Sc Sb Vy Vx Vw Vv Vu Vt Vs Vr Vq Vp Vo Vn Vm Vl Vk Vj Vi Vh Vg Vf Ve Vd Vc Sa R9 R8 R7 R6 R5 RZ RY RX RV RU RT RS RR RQ:Value)(Q:Exit->Act->World->Prop)(hQ:∀a w',bodyPost prog Tryz.f30 (λe w'=>gC ai mc own P ah (eQ R ah lo g.blocks RF k0 Xm Wh) w e w') Exit.ret a w'->Q Exit.ret a w'):
  Code.wp prog BB Q ⟨List.toArray ((Value.pointer (some ⟨mc,0,none⟩))::c1::c2::c3::c4::c5::(Value.pointer (some ⟨w.heap.size,0,none⟩))::c7::(Value.pointer (some ⟨gr,0,none⟩))::(Value.pointer (some ⟨fb,0,none⟩))::c10::c11::c12::c13::(Value.int .i64 (k0:Nat))::c15::c16::c17::c18::c19::c20::uI::uH::uG::uF::uE::uD::uC::uB::uA::uz::uy::uw::uu::uq::uo::um::uk::uj::ui::uh::ug::wP::wO::wN::wM::wL::wK::uf::tZ::tY::tX::tW::tV::tU::tT::tS::tR::tQ::tP::tO::tN::tM::tL::wJ::wI::wH::wG::wF::wE::wD::wC::wB::wA::wz::wu::vZ::vY::vX::vW::vV::vU::vT::tK::tJ::tI::tH::tG::tF::tE::tD::tC::vS::vR::vQ::vP::vO::vN::vM::vL::j8::j7::j6::j5::jQ::jP::jO::jN::jM::jL::jK::jJ::jI::jH::jG::jF::lu::lq::lh::kZ::kY::kX::kW::kV::kU::kT::kR::kQ::kP::kO::kN::kH::Mo::Mn::Mm::Ml::Mk::Mj::Mi::Mh::Mg::Mf::Me::Md::Mc::D3::SD::SC::SB::Sy::Sx::Sw::Sv::Su::Ss::Sr::Sq::Sp::Sn::Sm::Sl::Sk::Sj::Si::Sh::Sg::Sd::Sc::Sb::Vy::Vx::Vw::Vv::Vu::Vt::Vs::Vr::Vq::Vp::Vo::Vn::Vm::Vl::Vk::Vj::Vi::Vh::Vg::Vf::Ve::Vd::Vc::Sa::R9::R8::R7::R6::R5::RZ::RY::RX::RV::RU::RT::RS::RR::RQ::[]),[]⟩ w3:=by
 have HP:=ae hP;have HOW:=ae how;have HBS:=ae hBS;have S7:=ae hblk;have HNBL:=ae (show g.blocks.length<=9223372036854775807 from by obtain⟨_,_,_,h,_⟩:=hBS;exact h);have HQ:=ae hQ;clear hP how hBS hblk hQ
 conv=>arg 2;whnf
 go_loopw [14] (λa wr=>∃(OY k:Nat)(own':Nat->Prop)(st:St)(tp:List V),a= .int .i64 k/\k<g.blocks.length/\mJ ai mc own P ah d ng fb tb nt (.int .i64 g.params,.int .i64 nt,.slice LA g.az.length bX,.slice BA g.blocks.length cL) qB lo gr #[.int .i64 g.params,.int .i64 nt,.slice LA g.az.length bX,.slice BA g.blocks.length cL] w wr own' st tp/\(ah-st.steps).toNat<OY/\eQ R ah lo g.blocks OY k st tp=eQ R ah lo g.blocks RF k0 Xm Wh) (λ_ wr=>(ah-intOf ((wr.cell? ⟨mc,8,none⟩).getD undef)).toNat)
 case atStart=>exact⟨RF,k0,Xq,Xm,Wh,rfl,iZ,hB0,Yi,rfl⟩
 case round=>
  obtain⟨OY,k,own',st,tp,rfl,hk,hB,hgas,heq⟩:=hrel;obtain⟨DM,rfl⟩:∃g',OY=g'+1:=⟨OY-1,by omega⟩
  have HB:=ae hB;have jC:=ae heq;have zA:Below ai w wr:=hB.wr.below (by omega) (λi hi=>(HOW.out i hi).1);obtain⟨bb,zW,b,rfl,qX,df,⟨sv,b0,hst⟩,b1,⟨cv0,cv1,cv2,b2,b3,b4,lW⟩,b5,b6,_,_,_⟩:=(HBS.below zA (aN _) (λ_ _ h=>h.below zA (aN _))).get hk;simp only[Nat.add_zero]at b0 b1 b2 b3 b4 b5 b6;obtain⟨SA,scap,rR⟩:∃SA scap,sv= .slice SA b.steps.length scap:=(by obtain⟨A',c',h,_⟩:=hst;exact⟨_,_,h⟩)
  subst rR;obtain⟨ca,cb,CA,cl,cc,rfl,rfl,rfl⟩:=lW.shape;have e3:wr.cell? ⟨gr,3,none⟩=some (.slice (some ⟨bb,zW,none⟩) g.blocks.length cL):=hB.grow.cell (j:=3) rfl;have Ro:bb<wr.heap.size:=by have:=zA.size;omega
  have hkb:(k:Int)<(g.blocks.length:Int):=by omega
  have hnbl:g.blocks.length<=9223372036854775807:=HNBL.out;have Fk:=hst.len.2;have dR:=ae df;have HST2:=ae hst;have vG:=ae lW;have HBR:=ae zA;have hgwr:=hB.grow.lt;clear hB heq zA df hst lW;go_wp2_with fail;have hbase:ai<=wr.heap.size:=by have:=HBR.size;omega
  obtain⟨w4,rfl⟩:∃w4:World,w4=wr:=⟨_,rfl⟩
  go_loopw [16] (λi wr=>∃(j:Nat)(bF:Nat->Prop)(kC:St)(iM:List V),j<=b.steps.length/\i= .int .i64 j/\mJ ai mc own P ah d ng fb tb nt (.int .i64 g.params,.int .i64 nt,.slice LA g.az.length bX,.slice (some ⟨bb,zW,none⟩) g.blocks.length cL) qB lo gr #[.int .i64 g.params,.int .i64 nt,.slice LA g.az.length bX,.slice (some ⟨bb,zW,none⟩) g.blocks.length cL] w wr bF kC iM/\
    eL R ah lo kC iM (b.steps.drop j)=eL R ah lo st tp b.steps/\Row wr w4.heap.size #[.slice SA b.steps.length scap,.int .i64 b.fin,.int .i64 ca,.int .i64 cb,.slice CA cl cc,.int .i64 b.next,.int .i64 b.els] 93/\¬bF w4.heap.size/\¬w4.heap.size=tb/\st.steps<=kC.steps/\Below ai w4 wr) (λi _=>b.steps.length-(intOf i).toNat)
  case atStart=>exact⟨0,own',st,tp,by omega,rfl,HB.below (aj _ _),rfl,Row.new _ _ _,λh=>by obtain⟨_,_,_,_,hq⟩:=HB.uU;have:=(hq.rest.own _ h).2;omega,(by obtain⟨_,h,_⟩:=HB.fr.ay;have:=h.lt;omega),Int.le_refl _,(aj _ _).mono hbase⟩
  case round=>
   obtain⟨j,bF,kC,iM,hj,rfl,lX,Im,qF,Qd,hbt,Q3,IL⟩:=hrel;have r0':wr.cell? ⟨w4.heap.size,0,none⟩=some (.slice SA b.steps.length scap):=qF.cell (j:=0) rfl;have bL:=ae lX;have Zb:=ae Im;have De:=ae qF;have Lt:Below ai w wr:=lX.wr.below (by omega) (λi hi=>(HOW.out i hi).1);have Gx:=ae IL;have hw4l:=qF.lt;by_cases xe:j<b.steps.length
   ·obtain⟨xb,Ks,x,rfl,Z3,Ig,x0,x1,x2,x3,⟨xv,x4,QU⟩,_⟩:=(HST2.below IL (aN _) (λ_ _ h=>h.below IL (aN _))).get xe;simp only[Nat.add_zero]at x0 x1 x2 x3 x4;obtain⟨XA,xn,Ab,rfl,Du⟩:=QU;have Rw:=(S7.out b (List.mem_of_getElem? dR.out)).2.2.2.2 x (List.mem_of_getElem? Ig) ai mc bF P kC fb tb _ iM qB _ XA xn Ab wr lX.uU (HP.below Lt) lX.inv lX.calls lX.fr lX.off lX.nW lX.len Ll Du;have NV:xb<wr.heap.size:=by have:=Lt.size;omega
    have EA:(j:Int)<(b.steps.length:Int):=by omega
    have MF:=ae Ig;have HOWB:=ae (show∀k,bF k->ai<=k from by obtain⟨_,_,_,_,h⟩:=lX.uU;exact λk hk=>(h.rest.own k hk).1);by_cases MX:(bu R ah lo kC iM x).1=true
    ·have HC:=ae (Rw.mono (R':=λe w'=>e= .returned (.bool true)/\cX ai mc bF P ah fb tb (.int .i64 g.params,.int .i64 nt,.slice LA g.az.length bX,.slice (some ⟨bb,zW,none⟩) g.blocks.length cL) qB lo (bu R ah lo kC iM x) wr e w'/\Kept ah kC iM lo ng (bu R ah lo kC iM x).2.1 (bu R ah lo kC iM x).2.2) (λe w' h=>⟨MX▸h.1.1,h.1,h.2 MX⟩));have Qp:=ae MX;clear Rw lX Im qF Lt IL Ig Du MX;go_wp2_with fail;refine HC.mono ?_;rintro e w5 ⟨rfl,Ou,J2⟩;have Zz:=ae Ou;have HKP:=ae J2;clear Ou J2;go_wp2_with fail;go_roundw
     case rel=>
      obtain⟨fS,YM⟩:=bL.does Zz.out HKP.out Qp.out;have hx1:eL R ah lo (bu R ah lo kC iM x).2.1 (bu R ah lo kC iM x).2.2 (b.steps.drop (j+1))=eL R ah lo st tp b.steps:=by
       have:=Zb.out;rw[xK MF.out,qm Qp.out]at this;exact this
      have hx2:st.steps<=(bu R ah lo kC iM x).2.1.steps:=Int.le_trans Q3 HKP.steps;have hx3:j+1<=b.steps.length:=xe;have hx4:=Cx Zz.out De.out Qd hbt;have hx5:=Gx.trans (Bw Zz.out HOWB.out bL.off.tb.2 (by have:=Gx.size;omega));obtain⟨YM,hB4⟩:=YM;exact⟨j+1,fS,_,_,hx3,by go_num,YM,hx1,hx4,λh=>(by rcases hB4 _ h with h|h;exact Qd h;omega),hbt,hx2,hx5⟩
     case measure=>simp[intOf];omega
    ·have IE:(bu R ah lo kC iM x).1=false:=by simpa using MX
     have HC:=ae (Rw.mono (R':=λe w'=>e= .returned (.bool false)/\cX ai mc bF P ah fb tb (.int .i64 g.params,.int .i64 nt,.slice LA g.az.length bX,.slice (some ⟨bb,zW,none⟩) g.blocks.length cL) qB lo (bu R ah lo kC iM x) wr e w') (λe w' h=>⟨IE▸h.1.1,h.1⟩));have Qp:=ae IE;clear Rw lX Im qF Lt IL Ig Du MX IE;go_wp2_with fail;refine HC.mono ?_;rintro e w5 ⟨rfl,Ou⟩;have hdn:=bL.done Ou;obtain⟨pP,n1,n2,n3,n4,n5,n6⟩:=hdn;have r0:w5.cell? ⟨w.heap.size,0,none⟩=some (.int .i64 0):=n5.cell (j:=0) rfl;have r1:w5.cell? ⟨w.heap.size,1,none⟩=some (.int .i64 0):=n5.cell (j:=1) rfl;have r2:=n5.free 0;have r3:=n5.free 1;have HN3:=ae n3;have HN4:=ae n4;have HN:=ae (And.intro n1 (And.intro n2 n6));clear Ou n1 n2 n3 n4 n5 n6;go_wp2_with fail
     refine HQ _ _ ?_;refine aR (v:=aI none) ?_ rfl ?_
     ·simp[results,results30,go_sem,aI,r0,r1]
     ·have hres:=mY (R:=R) (ah:=ah) (lo:=lo) (bs:=g.blocks) (g:=DM) (k:=k) (s:=st) (tp:=tp) dR (xN (show eL R ah lo st tp b.steps=(false,(bu R ah lo kC iM x).2.1,(bu R ah lo kC iM x).2.2)from(by
       have h1:=Zb.out;rw[xK MF.out,oq Qp.out]at h1;exact h1.symm)))
      have h2:=jC.out;rw[hres]at h2;rw[<-h2];exact sN none HN.1 HN.2.1 HN3.out HN4.out HN.2.2 (by omega) 0 0
   ·obtain rfl:j=b.steps.length:=by omega
    have hs5:eL R ah lo st tp b.steps=(true,kC,iM):=by
     rw[<-Im,List.drop_length];rfl
    have r1':wr.cell? ⟨w4.heap.size,1,none⟩=some (.int .i64 b.fin):=qF.cell (j:=1) rfl;have r2':wr.cell? ⟨w4.heap.size,2,none⟩=some (.int .i64 ca):=qF.cell (j:=2) rfl;have r3':wr.cell? ⟨w4.heap.size,3,none⟩=some (.int .i64 cb):=qF.cell (j:=3) rfl;have r4':wr.cell? ⟨w4.heap.size,4,none⟩=some (.slice CA cl cc):=qF.cell (j:=4) rfl;have r5':wr.cell? ⟨w4.heap.size,5,none⟩=some (.int .i64 b.next):=qF.cell (j:=5) rfl;have r6':wr.cell? ⟨w4.heap.size,6,none⟩=some (.int .i64 b.els):=qF.cell (j:=6) rfl;have MI:=ae hs5;have Oe:¬w4.heap.size=mc:=λe=>Qd (by rw[e];exact lX.mine);have Q6:¬w.heap.size=mc:=λe=>lX.rn.1 (by rw[e];exact lX.mine);by_cases iY:(aW ah 1 kC).1=true
    ·obtain⟨hk2,hlt5,Tt⟩:=cO iY;have HST:=ae (iY▸Tt▸eD ai mc bF P ah 1 kC wr lX.uU lX.inv.lo lX.inv.hi (by omega) (by omega) (by omega):Calls prog 51 #[.pointer (some ⟨mc,0,none⟩),.int .i64 1] wr λe w'=>e= .returned (.bool true)/\cN w' ai mc bF P ah {kC with steps:=kC.steps+1}/\Wr (λb=>b=mc) wr w');have sY:=ae iY;have HS6:=ae Tt;have og:=ae hk2;have VU:=ae (show ai<=mc from by obtain⟨_,_,_,_,h⟩:=lX.uU;exact(h.rest.own mc h.mine).1);have Bc:=lX.inv.lo;have hhi2:=lX.inv.hi;obtain⟨j4,bR,Fw,TF,_⟩:=S7.out b (List.mem_of_getElem? dR.out);have HCO:=ae TF;obtain⟨kn,lV⟩:=Int.eq_ofNat_of_zero_le bR.1;obtain⟨ke,hke⟩:=Int.eq_ofNat_of_zero_le Fw.1;have UN:kn<g.blocks.length:=by omega
     have hkel:ke<g.blocks.length:=by omega
     rw[lV]at r5';rw[hke]at r6';have TT:=ae lV;have Zr:=ae hke;have PF:=ae j4;clear lX Im qF Lt IL hs5 iY Tt hk2 TF lV hke bR Fw j4;by_cases rT:b.fin=1
     ·rw[rT]at r1';have jB:=ae rT;clear rT;go_wp2_with(go_at_call 51;refine HST.mono ?_;rintro e w5 ⟨rfl,rV,lC⟩;have q1:=(De.wr lC Oe).cell (j:=1) (v:= .int .i64 1) (by simp[jB.out]);have q5:=(De.wr lC Oe).cell (j:=5) (v:= .int .i64 kn) (by simp[TT.out]);have yV:=ae rV;have qM:=ae lC;clear rV lC);go_roundw
      case rel=>
       have zS:=bL.JX qM.out yV (bL.inv.step1 (by omega)) bL.nW (aN _) bL.calls;have h2:=jC.out;rw[qZ dR (show dN R ah lo st tp b=(.next b.next,{kC with steps:=kC.steps+1},iM)from by simp[dN,MI.out,sY.out,HS6.out,jB.out]),TT.out]at h2;exact⟨DM,kn,bF,_,iM,rfl,UN,zS,by show(ah-(kC.steps+1)).toNat<DM;omega,h2⟩
      case measure=>
       rw[yV.steps,HB.uU.steps];show(ah-(kC.steps+1)).toNat<(ah-st.steps).toNat;omega
     ·have hf1':(b.fin==1)=false:=by simpa using rT
      have hT:=HCO.out rT;rw[<-bL.len,<-Ll]at hT;have HT:=ae hT;have jB:=ae rT;clear rT hT;cases hv:bZ kC.mem iM lo b.cond with
      |none=>
       go_wp2_with(go_at_call 51;refine HST.mono ?_;rintro e w5 ⟨rfl,rV,lC⟩;have s9:=De.wr lC Oe;have q1:=s9.cell (j:=1) rfl;have q2:=s9.cell (j:=2) rfl;have q3:=s9.cell (j:=3) rfl;have q4:=s9.cell (j:=4) rfl;have q5:=s9.cell (j:=5) (v:= .int .i64 kn) (by simp[TT.out]);have q6:=s9.cell (j:=6) (v:= .int .i64 ke) (by simp[Zr.out]);have Q4:=s9.lt;have Kh:=ae s9;have yV:=ae rV;have qM:=ae lC;clear rV lC s9);have zS:=bL.JX qM.out yV (bL.inv.step1 (by omega)) bL.nW (aN _) bL.calls;have TH:=vG.below (Gx.trans (qM.below (by have:=Gx.size;omega) (λi hi=>by have:=VU.out;omega))) (aN _)
       have iR:=eU b.cond.size b.cond ai mc bF P ah {kC with steps:=kC.steps+1} fb tb _ iM qB lo ng w5 _ _ _ (aN _) yV.out og.out zS.fr zS.inv.mem.Ag zS.nW HT.out TH;rw[show bZ ({kC with steps:=kC.steps+1}:St).mem iM lo b.cond=_ from hv]at iR;have MH:=ae iR;have yZ:=ae zS;clear zS TH iR;refine MH.mono ?_;rintro e w6 ⟨⟨x',y',rfl⟩,WC,zx⟩;have n5:=yZ.yw.wr zx Q6;have r0:w6.cell? ⟨w.heap.size,0,none⟩=some (.int .i64 0):=n5.cell (j:=0) rfl;have r1:w6.cell? ⟨w.heap.size,1,none⟩=some (.int .i64 0):=n5.cell (j:=1) rfl;have r2:=n5.free 0;have r3:=n5.free 1;have r4:=n5.lt;have HM6:=ae WC;have TR:=ae zx;clear WC zx n5 q1 q2 q3 q4 q5 q6;go_wp2_with fail;refine HQ _ _ ?_;refine aR (v:=aI none) ?_ rfl ?_
       ·simp[results,results30,go_sem,aI,r0,r1,r4]
       ·have h2:=jC.out;rw[mY dR (show dN R ah lo st tp b=(.over,{kC with steps:=kC.steps+1,kind:=3},iM)from by simp[dN,MI.out,sY.out,HS6.out,jB.out,hv])]at h2;rw[<-h2];have hcp:=sN none yZ.up yZ.down HM6 (yZ.wr.trans TR (λi hi=>?_)) yZ.rn.1 (by omega) 0 0
        ·exact hcp.below (aj _ _)
        ·rcases yZ.down mc yZ.mine with h|h
         ·exact aH (hi▸h)
         ·exact aT (hi▸h)
      |some v=>
       by_cases hf3:b.fin=3
       ·have nQ:=ae hf3;have hf3':(b.fin==3)=true:=by simpa using hf3
        clear hf3;go_wp2_with(go_at_call 51;refine HST.mono ?_;rintro e w5 ⟨rfl,rV,lC⟩;have s9:=De.wr lC Oe;have q1:=s9.cell (j:=1) rfl;have q2:=s9.cell (j:=2) rfl;have q3:=s9.cell (j:=3) rfl;have q4:=s9.cell (j:=4) rfl;have q5:=s9.cell (j:=5) (v:= .int .i64 kn) (by simp[TT.out]);have q6:=s9.cell (j:=6) (v:= .int .i64 ke) (by simp[Zr.out]);have Q4:=s9.lt;have Kh:=ae s9;have yV:=ae rV;have qM:=ae lC;clear rV lC s9);have zS:=bL.JX qM.out yV (bL.inv.step1 (by omega)) bL.nW (aN _) bL.calls;have TH:=vG.below (Gx.trans (qM.below (by have:=Gx.size;omega) (λi hi=>by have:=VU.out;omega))) (aN _)
        have iR:=eU b.cond.size b.cond ai mc bF P ah {kC with steps:=kC.steps+1} fb tb _ iM qB lo ng w5 _ _ _ (aN _) yV.out og.out zS.fr zS.inv.mem.Ag zS.nW HT.out TH;rw[show bZ ({kC with steps:=kC.steps+1}:St).mem iM lo b.cond=_ from hv]at iR;have MH:=ae iR;have yZ:=ae zS;clear zS TH iR;refine MH.mono ?_;rintro e w6 ⟨rfl,J4⟩;simp only[aI];have Dw:=Kh.below J4 Q4;have p1:=Dw.cell (j:=1) rfl;have pl:=Dw.lt;have gB:=ae J4;have hB7:=(yZ.below J4).below (aj _ (.cells #[.int .i64 v.obj,.int .i64 v.n] 72));have qi:=ae hB7;clear q1 q2 q3 q4 q5 q6 Dw J4 hB7;go_wp2_with fail;have hmq:∀i,bF i->i<w6.heap.size:=λi hi=>by obtain⟨_,_,_,_,h⟩:=(yZ.below gB.out).uU;exact(h.rest.own i hi).2
        have HMQ:=ae hmq;have MG:=ae (Row.new w6 #[.int .i64 v.obj,.int .i64 v.n] 72);clear hmq p1 pl;refine Jj ai mc bF P ah {kC with steps:=kC.steps+1} fb tb _ iM qB lo _ qi.uU qi.fr qi.off (λx hx=>by have h2:=bL.many (List.ne_nil_of_mem hx);have h3:=bL.nW.az x hx;have h4:=Hs kC.mem;rw[jE (by omega)]at h3;exact h3) (bL.inv.mem.Ag.many) _ _ _ _ _ _ _ _ _ _ _ _ _ _ _ _ _ _ _ _ _ _ _ _ _ _ _ _ _ _ _ _ _ _ _ _ _ _ _ _ _ _ _ _ _ _ _ _ _ _ _ _ _ _ _ _ _ _ _ _ _ _ _ _ _ _ _ _ _ _ _ _ _ _ _ _ _ _ _ _ _ _ _ _ _ _ _ _ _ _ _ _ _ _ _ _ _ _ _ _ _ _ _ _ _ _ _ _ _ _ _ _ _ _ _ _ _ _ _ _ _ _ _ _ _ _ _ _ _ _ _ _ _ _ _ _ _ _ _ _ _ _ _ _ _ _ _ _ _ _ _ _ _ _ _ _ _ _ _ _ _ _ _ _ _ _ _ _ _ _ _ _ _ _ _ _ _ _ _ _ _ _ _ _ _ _ _ _ _ _ _ _ _ _ _ _ _ _ _ _ _ _ _ _ _ ?_
        intro u19 Xj Xi Xh Xg Xf Xe Xd Xc Xb Xa W9 W8 W7 W6 WZ WY WX WW WV WU WT WS WR wr WB PY;have hzk:=PY.size;simp only[World.size_alloc]at hzk;have Oa:=qi.yw.wr PY qi.rn.1;have r0:wr.cell? ⟨w.heap.size,0,none⟩=some (.int .i64 0):=Oa.cell (j:=0) rfl;have r1:wr.cell? ⟨w.heap.size,1,none⟩=some (.int .i64 0):=Oa.cell (j:=1) rfl;have r2:=Oa.free 0;have r3:=Oa.free 1;have vK:=MG.wr PY (λh=>by have:=HMQ _ h;omega);have v0:wr.cell? ⟨w6.heap.size,0,none⟩=some (.int .i64 v.obj):=vK.cell (j:=0) rfl;have v1:wr.cell? ⟨w6.heap.size,1,none⟩=some (.int .i64 v.n):=vK.cell (j:=1) rfl;obtain⟨inv,outv,aU,rb,jV⟩:=WB;have e11:wr.cell? ⟨mc,11,none⟩=some (.int .i64 kC.calls):=jV.row.cell (j:=11) rfl;have e12:=jV.row.free 11
        have Em:=ae (jV.calls (kC.calls-1));have Ln:=bL.calls;have XN:¬mc=w.heap.size:=λe=>Q6 e.symm;have hvmc:¬w6.heap.size=mc:=λe=>by have:=HMQ.out mc bL.mine;omega
        have hvr2:¬w6.heap.size=w.heap.size:=λe=>by have:=(yZ.below gB.out).yw.lt;omega
        have ED:=ae Ln;have hcl0:0<=kC.calls:=by rw[ED.out];exact hd0
        have hcl1:kC.calls<=64:=by rw[ED.out];exact Qc
        have HWK:=ae PY;clear jV Oa vK PY Ln;have r4:w.heap.size<wr.heap.size:=by have:=qi.yw.lt;simp only[World.size_alloc]at this;omega
        go_wp2_with fail;refine HQ _ _ ?_;refine aR (v:=aI (some v)) ?_ rfl ?_
        ·simp[results,results30,go_sem,aI,r0,r1,Q6,XN]
        ·have h2:=jC.out;rw[zJ dR (show dN R ah lo st tp b=(.ret v,{kC with steps:=kC.steps+1},iM)from by simp[dN,MI.out,sY.out,HS6.out,jB.out,nQ.out,hv])]at h2;rw[<-h2];refine sN (some v) qi.up qi.down ⟨_,_,_,_,Em.out⟩ ((qi.wr.trans HWK (λi hi=>qi.down i hi)).trans (Wr.setCell (F:=λb=>b=mc) wr ⟨mc,11,none⟩ _ rfl) (λi hi=>?_)) qi.rn.1 (by omega) _ _;rcases qi.down mc qi.mine with h|h
         ·exact aH (hi▸h)
         ·exact aT (hi▸h)
       ·have hf3':(b.fin==3)=false:=by simpa using hf3
        have nQ:=ae hf3;clear hf3;go_wp2_with(go_at_call 51;refine HST.mono ?_;rintro e w5 ⟨rfl,rV,lC⟩;have s9:=De.wr lC Oe;have q1:=s9.cell (j:=1) rfl;have q2:=s9.cell (j:=2) rfl;have q3:=s9.cell (j:=3) rfl;have q4:=s9.cell (j:=4) rfl;have q5:=s9.cell (j:=5) (v:= .int .i64 kn) (by simp[TT.out]);have q6:=s9.cell (j:=6) (v:= .int .i64 ke) (by simp[Zr.out]);have Q4:=s9.lt;have Kh:=ae s9;have yV:=ae rV;have qM:=ae lC;clear rV lC s9);have zS:=bL.JX qM.out yV (bL.inv.step1 (by omega)) bL.nW (aN _) bL.calls;have TH:=vG.below (Gx.trans (qM.below (by have:=Gx.size;omega) (λi hi=>by have:=VU.out;omega))) (aN _)
        have iR:=eU b.cond.size b.cond ai mc bF P ah {kC with steps:=kC.steps+1} fb tb _ iM qB lo ng w5 _ _ _ (aN _) yV.out og.out zS.fr zS.inv.mem.Ag zS.nW HT.out TH;rw[show bZ ({kC with steps:=kC.steps+1}:St).mem iM lo b.cond=_ from hv]at iR;have MH:=ae iR;have yZ:=ae zS;clear zS TH iR;refine MH.mono ?_;rintro e w6 ⟨rfl,J4⟩;simp only[aI];have Dw:=Kh.below J4 Q4;have p5:=Dw.cell (j:=5) (v:= .int .i64 kn) (by simp[TT.out]);have p6:=Dw.cell (j:=6) (v:= .int .i64 ke) (by simp[Zr.out]);have p1:=Dw.cell (j:=1) rfl;have pl:=Dw.lt;have gB:=ae J4;clear q1 q2 q3 q4 q5 q6 Dw J4;go_wp2_with fail
        all_goals
         go_roundw
         case rel=>
          have U4:dN R ah lo st tp b=(.next (if v=⟨0,0⟩then b.els else b.next),{kC with steps:=kC.steps+1},iM):=by simp[dN,MI.out,sY.out,HS6.out,jB.out,nQ.out,hv]
          have h2:=jC.out;rw[qZ dR.out U4]at h2;have hg7:(ah-(kC.steps+1)).toNat<DM:=by omega
          first
           |(have h5:v.obj=0:=by assumption
             have h6:v.n=0:=by assumption
             rw[if_pos (WO h5 h6),Zr.out]at h2;exact⟨DM,ke,bF,_,iM,rfl,hkel,(yZ.below gB.out).below (aj _ _),hg7,h2⟩)
           |(have h5:¬v.n=0:=by assumption
             rw[if_neg (λe=>h5 (by rw[e])),TT.out]at h2;exact⟨DM,kn,bF,_,iM,rfl,UN,(yZ.below gB.out).below (aj _ _),hg7,h2⟩)
           |(have h5:¬v.obj=0:=by assumption
             rw[if_neg (λe=>h5 (by rw[e])),TT.out]at h2;exact⟨DM,kn,bF,_,iM,rfl,UN,(yZ.below gB.out).below (aj _ _),hg7,h2⟩)
         case measure=>
          rw[(λo=>((yZ.below gB.out).below (aj w6 o)).uU.steps:∀o,(w6.alloc o).cell? ⟨mc,8,none⟩=some (.int .i64 (kC.steps+1))),HB.uU.steps];show(ah-(kC.steps+1)).toNat<(ah-st.steps).toNat;omega
    ·have hy3:(aW ah 1 kC).1=false:=by simpa using iY
     have HST:=ae (hy3▸eD ai mc bF P ah 1 kC wr lX.uU lX.inv.lo lX.inv.hi (by omega) (by omega) (by omega):Calls prog 51 #[.pointer (some ⟨mc,0,none⟩),.int .i64 1] wr λe w'=>e= .returned (.bool false)/\cN w' ai mc bF P ah (aW ah 1 kC).2/\Wr (λb=>b=mc) wr w');have HY3:=ae hy3;clear lX Im qF Lt IL hs5 iY hy3;go_wp2_with fail;refine HST.mono ?_;rintro e w5 ⟨rfl,rV,lC⟩;have n5:=bL.yw.wr lC Q6;have r0:w5.cell? ⟨w.heap.size,0,none⟩=some (.int .i64 0):=n5.cell (j:=0) rfl;have r1:w5.cell? ⟨w.heap.size,1,none⟩=some (.int .i64 0):=n5.cell (j:=1) rfl;have r2:=n5.free 0;have r3:=n5.free 1;have yV:=ae rV;have qM:=ae lC;clear rV lC n5;go_wp2_with fail;refine HQ _ _ ?_;refine aR (v:=aI none) ?_ rfl ?_
     ·simp[results,results30,go_sem,aI,r0,r1]
     ·have h2:=jC.out;rw[mY dR (show dN R ah lo st tp b=(.over,(aW ah 1 kC).2,iM)from by simp only[dN,MI.out,HY3.out,if_true])]at h2;rw[<-h2];refine sN none bL.up bL.down yV (bL.wr.trans qM (λi hi=>?_)) bL.rn.1 (by omega) 0 0;rcases bL.down mc bL.mine with h|h
      ·exact aH (hi▸h)
      ·exact aT (hi▸h)
end Go.Proofs.YtikbdplllopjlaaGreat
