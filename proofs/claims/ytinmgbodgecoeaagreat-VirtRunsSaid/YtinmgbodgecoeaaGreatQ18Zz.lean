/- VirtRuns: small calls. Conditions: as stated. VirtRuns: the walk. Conditions: as stated. What is read as programs lies in memory as programs. No condition. What is read as programs, as asks of programs, lies in memory as programs, and its lists are of a size that memory may hold. No condition. -/
import Derived.Test.YtinmgbodgecoeaaGreatQ17Zz
set_option linter.unusedSimpArgs false
set_option linter.unusedVariables false
set_option maxHeartbeats 8000000
set_option maxRecDepth 100000
open Go.Proofs.Tryz
namespace Go.Proofs.YtinmgbodgecoeaaGreat
open Go.RowKit
theorem i7{w:World}{B:Nat}{l:List Int}{A:Option Addr}{c:Nat}(h:aD w B l (.slice A l.length c))(h1:l.length<=c)(h2:c<=9223372036854775807):uB w B (.slice A l.length c) l:=by
 obtain⟨A',c',h0,_,h3⟩:=h;injection h0 with e1 e2 e3;subst e1 e3;refine⟨A,c,rfl,h1,h2,λhp=>?_⟩;obtain⟨b,off,hA,hb,hx⟩:=h3 hp;refine⟨b,off,hA,hb,λj x hj=>?_⟩;have:=hx j x hj;simpa using this
theorem Je(p:bB)(P:Value×Value×Value)(B:Nat)(w:World)(hB:B<=w.heap.size)(hP:bP w B P p):
  Calls prog 7 #[.agg #[P.1,P.2.1,P.2.2]] w λe w'=>e= .returned (.int .i64 (if bY p=true then 0 else 1))/\Below w.heap.size w w':=by
 obtain⟨GA,gc,FA,fc,rfl⟩:=hP.shape;have HM:=ae (λW(hb:Below w.heap.size w W)=>Fw p (.slice GA p.ay.length gc,.slice FA p.funcs.length fc,.int .i64 p.main) B W (by have:=hb.size;omega) (hP.below (hb.mono hB)));have HB:=ae (ax w (.cells #[.slice GA p.ay.length gc,.slice FA p.funcs.length fc,.int .i64 p.main] 31));clear hP;cases hm:bY p with
 |true=>
  rw[hm]at HM;clear hm;go_enter func7,ntmps7;refine aj λQ HQ=>?_;go_wp2_with fail;refine(HM _ HB.out).mono ?_;rintro e w1 ⟨rfl,hb1⟩;have bQ:=ae (HB.trans (hb1.mono HB.size));clear hb1;go_wp2_with fail;refine HQ _ _ _ ?_;exact aS (v:= .int .i64 0) (by simp[results,results7,go_sem]) rfl ⟨rfl,bQ.out⟩
 |false=>
  rw[hm]at HM;clear hm;go_enter func7,ntmps7;refine aj λQ HQ=>?_;go_wp2_with fail;refine(HM _ HB.out).mono ?_;rintro e w1 ⟨rfl,hb1⟩;have bQ:=ae (HB.trans (hb1.mono HB.size));clear hb1;go_wp2_with fail;refine HQ _ _ _ ?_;exact aS (v:= .int .i64 1) (by simp[results,results7,go_sem]) rfl ⟨rfl,bQ.out⟩
def qh(n:Int):Int:=wrap64 ((IntKind.u64.wrap n).tmod 300)
theorem uy(n:Int)(w:World):
  Calls prog 8 #[.int .i64 n,.int .i64 300] w λe w'=>e= .returned (.int .i64 (qh n))/\w=w':=by
 go_enter func8,ntmps8;go_wp2_with fail;go_ret;exact⟨by unfold qh;rfl,rfl⟩
theorem Hb(p:bB)(P:Value×Value×Value)(B:Nat)(w:World)(hB:B<=w.heap.size)(hP:bP w B P p)(hsz:yU p):
  Calls prog 9 #[.agg #[P.1,P.2.1,P.2.2]] w λe w'=>∃pU gc' pV pT,e= .returned (.agg #[.slice pU p.ay.length gc',.slice pV p.funcs.length pT,.int .i64 p.main])/\bP (only w' (From w.heap.size)) w'.heap.size (.slice pU p.ay.length gc',.slice pV p.funcs.length pT,.int .i64 p.main) p/\Below w.heap.size w w':=by
 refine(EK p B w (λj=>[P.1,P.2.1,P.2.2][j]?) _ _ _ hB (hP.toE _ rfl rfl rfl) rfl rfl rfl hsz).mono ?_;rintro e w' ⟨u0,u1,u2,rfl,hE,hb⟩;obtain⟨Q,e0,e1,e2,hat⟩:=hE.at;obtain⟨GA,gc,FA,fc,rfl⟩:=hat.shape;obtain rfl:=Option.some.inj e0;obtain rfl:=Option.some.inj e1;obtain rfl:=Option.some.inj e2;exact⟨GA,gc,FA,fc,rfl,hat,hb⟩
theorem rE(p:bB){P Q:Value×Value×Value}(B:Nat)(w:World)(hB:B<=w.heap.size)(hP:bP w B P p)(hQ:bP w B Q p):
  Calls prog 15 #[.agg #[P.1,P.2.1,P.2.2],.agg #[Q.1,Q.2.1,Q.2.2]] w λe w'=>e= .returned (.bool true)/\Below w.heap.size w w':=
 Kz p B w (λj=>[P.1,P.2.1,P.2.2][j]?) (λj=>[Q.1,Q.2.1,Q.2.2][j]?) _ _ _ _ _ _ hB (hP.toE _ rfl rfl rfl) (hQ.toE _ rfl rfl rfl) rfl rfl rfl rfl rfl rfl
theorem LO(ps:List bB)(inp:List Int)(PA IA:Option Addr)(pc ic:Nat)(af:Int)(B:Nat)(w:World)(hB:B<=w.heap.size)(hps:SliceAt w B 3 (mQ w B) ps (.slice PA ps.length pc))(hin:aD w B inp (.slice IA inp.length ic))(hic:inp.length<=ic/\ic<=9223372036854775807)(hpn:ps.length*56<=140737488351232)(hil:inp.length*8<=140737488351232)
  (hsz:∀p,p∈ps->yU p):
  Calls prog 3 #[.agg #[.slice PA ps.length pc,.slice IA inp.length ic,.int .i64 af]] w λe w'=>e= .returned (.bool true)/\Below w.heap.size w w':=by
 have HHV:=ae (GQ ps PA IA ps.length pc inp.length ic af B (w.alloc (.cells #[.slice PA ps.length pc,.slice IA inp.length ic,.int .i64 af] 25)) (by simp;omega) (hps.below ((ax w _).mono hB) (aY _) (λ_ _ h=>h.below ((ax w _).mono hB) (aY _))) (by omega) (by omega) (λp hp=>by obtain⟨h1,_,_,h2⟩:=hsz p hp;exact⟨by omega,λg hg=>by obtain⟨h3,_,h4,h5⟩:=h2 g hg;exact⟨by omega,by omega,λx hx=>by have h6:x.arg.length*8<=140737488351232:=h5 x hx;omega⟩⟩));have HPS:=ae hps;have vC:=ae hin;have yV:=ae hic;have Fl:=ae hsz;have HIL:=ae hil;have hpm:ps.length<=200000000000000:=by omega
 have him:inp.length<=200000000000000:=by omega
 clear hps hin hsz hic hpn hil;go_enter func3,ntmps3;refine aj λQ HQ=>?_;go_wp2_with fail;refine HHV.mono ?_;rintro e w1 ⟨hv,rfl,hb1⟩;have bQ:=ae ((ax w (.cells #[.slice PA ps.length pc,.slice IA inp.length ic,.int .i64 af] 25)).trans (hb1.mono (ax w _).size));have oY:=ae ((Row.new w #[.slice PA ps.length pc,.slice IA inp.length ic,.int .i64 af] 25).below hb1 (by simp));clear hb1;cases hv with
 |true=>
  go_wp2_with fail;refine HQ _ _ _ ?_;exact aS (v:= .bool true) (by simp[results,results3,go_sem]) rfl ⟨rfl,bQ.out⟩
 |false=>
  go_wp2_with fail;go_loopw [3] (λi wr=>∃k:Nat,i= .int .i64 k/\k<=ps.length/\Below w.heap.size w wr/\Row wr w.heap.size #[.slice PA ps.length pc,.slice IA inp.length ic,.int .i64 af] 25) (λi _=>ps.length-(intOf i).toNat)
  case atStart=>exact⟨0,rfl,by omega,bQ.out,oY.out⟩
  case round=>
   obtain⟨k,rfl,hk,aJ,kJ⟩:=hrel;have cB:=ae aJ;have cS:=ae kJ;have r0:=kJ.cell (j:=0) rfl;have rl:=kJ.lt;by_cases hgo:k<ps.length/\k<3
   ·obtain⟨hlt,hlt3⟩:=hgo;obtain⟨qb,gY,p,GD,QY,hk1,hE⟩:=(HPS.below (aJ.mono hB) (aY _) (λ_ _ h=>h.below (aJ.mono hB) (aY _))).get hlt;have HPF:=ae (Fl.out p (List.mem_of_getElem? hk1));obtain⟨P,c0,c1,c2,hpt⟩:=hE.at;simp only[Nat.add_zero]at c0 c1 c2;subst GD;obtain⟨GA,gc,FA,fc,hPe⟩:=hpt.shape;subst hPe;simp only at c0 c1 c2;have fP:qb<wr.heap.size:=by have:=aJ.size;omega
    have uw:=ae hpt;have HEE:=ae hE;have C0:=ae c0;have C1:=ae c1;have C2:=ae c2;have Xj:=ae (λW(hW:Below wr.heap.size wr W)=>Hb p (.slice GA p.ay.length gc,.slice FA p.funcs.length fc,.int .i64 p.main) B W (by have:=hW.size;have:=cB.size;omega) (uw.below (hW.mono (by have:=cB.size;omega))) HPF.out);have CJ:=ae (λW(hW:Below wr.heap.size wr W)=>uz inp IA ic B W (by have:=hW.size;have:=cB.size;omega) (aD.below vC ((cB.trans (hW.mono cB.size)).mono hB) (aY _)) HIL.out)
    have HREF:=ae (show∀fu,bY p=true->0<=fu/\fu<=2000000->∀W,Below wr.heap.size wr W->Calls prog 13 #[.agg #[.slice GA p.ay.length gc,.slice FA p.funcs.length fc,.int .i64 p.main],.slice IA inp.length ic,.int .i64 fu] W λe w'=>EU (vI (eB p) inp fu) W.heap.size W e w' from λfu hm U8 W hW=>by
     obtain⟨f,g,hmn,XI,hg0⟩:=Dp hm;rw[hmn];exact Rv B fu p inp GA FA IA gc fc ic f g W (by have:=hW.size;have:=cB.size;omega) (by rw[<-hmn];exact uw.below (hW.mono (by have:=cB.size;omega))) (i7 (aD.below vC ((cB.trans (hW.mono cB.size)).mono hB) (aY _)) yV.1 yV.2) hm uw.pin hmn XI hg0 U8.1 (by omega))
    have XU:=ae (λW(hW:Below wr.heap.size wr W)=>Md p (.slice GA p.ay.length gc,.slice FA p.funcs.length fc,.int .i64 p.main) B W (by have:=hW.size;have:=cB.size;omega) (uw.below (hW.mono (by have:=cB.size;omega))));have X3:=ae (λW(hW:Below wr.heap.size wr W)=>Je p (.slice GA p.ay.length gc,.slice FA p.funcs.length fc,.int .i64 p.main) B W (by have:=hW.size;have:=cB.size;omega) (uw.below (hW.mono (by have:=cB.size;omega))));have xx:∀fu,(bY p=true->¬(0<=fu/\fu<=2000000))->AG p inp fu=⟨0,0,[],0,0⟩/\Bu p fu=1:=λfu h=>by
     have hn:¬yJ p fu:=λg=>h g.1 g.2;exact⟨if_neg hn,if_neg hn⟩
    have xx:=ae xx;have HGG:∀fu,bY p=true->0<=fu/\fu<=2000000->AG p inp fu=vI (eB p) inp fu/\Bu p fu=0:=λfu h1 h2=>by
     have hn:yJ p fu:=⟨h1,h2⟩
     exact⟨if_pos hn,if_pos hn⟩
    have HGG:=ae HGG;have hkl:(k:Int)<(ps.length:Int):=by omega
    have hkl3:(k:Int)<3:=by omega
    have hd3:decide ((k:Int)<(ps.length:Int))=true:=by simpa using hkl
    have hd4:decide ((k:Int)<3)=true:=by simpa using hkl3
    clear hk1 hE hpt;cases hmb:bY p with
    |false=>
     have CH:=ae hmb;rw[hmb]at XU X3;rw[if_neg (by decide)]at X3;clear hmb;go_wp2_with fail;refine(XU _ (aV _ _)).mono ?_;rintro e wa ⟨rfl,yH⟩;have ra0:=(cS.below yH cS.lt).cell (j:=0) rfl;have ca0:=ag C0.out yH fP;have ca1:=ag C1.out yH fP;have ca2:=ag C2.out yH fP;have rla:=(cS.below yH cS.lt).lt;have XD:=fQ fP yH.size;have Tg:=ae yH;clear yH r0 rl c0 c1 c2;go_wp2_with fail;refine(X3 _ Tg.out).mono ?_;rintro e wb ⟨rfl,hbb⟩;have Ab:=ae (Tg.trans (hbb.mono Tg.size));clear hbb ra0 ca0 ca1 ca2 rla XD;go_wp2_with fail;refine(rQ _ _).mono ?_;rintro e w' ⟨rfl,rfl⟩;go_wp2_with fail
     refine Ae w.heap.size (.slice (some ⟨qb,gY,none⟩) ps.length pc) (.slice IA inp.length ic) af (qh af) wb (cS.below Ab.out cS.lt) (λW=>uy af W) _ (λwc fb Y hbc hfb hrc=>?_);have sU:=ae (Ab.trans (hbc.mono Ab.size));have NQ:=ae hrc;have HFB:=ae (show w.heap.size<fb from by have:=cS.lt;have:=Ab.size;omega);have HFQ:=ae (show qb≠fb from by have:=Ab.size;omega);clear hbc hrc hfb;go_wp2_with fail;obtain⟨wo,rfl⟩:∃wo:World,wo=wr:=⟨_,rfl⟩
     go_loopw [6] (λi wr2=>∃k2:Nat,i= .int .i64 k2/\k2<=3/\Below wo.heap.size wo wr2/\Row wr2 w.heap.size #[.slice (some ⟨qb,gY,none⟩) ps.length pc,.slice IA inp.length ic,.int .i64 af] 25/\Row wr2 fb #[.int .i64 af,.int .i64 (qh af),.int .i64 3000] 3) (λi _=>3-(intOf i).toNat)
     case atStart=>exact⟨0,rfl,by omega,sU.out,cS.below sU.out cS.lt,NQ.out⟩
     case round=>
      obtain⟨k2,rfl,hk2',Kp,Ko,hfr2⟩:=hrel;have dw:=ae Kp;have Dm:=ae Ko;have zT:=ae hfr2;by_cases hk2:k2<3
      ·obtain⟨f,hf⟩:∃f:Int,(#[Value.int .i64 af,.int .i64 (qh af),.int .i64 3000]:Array Value)[k2]? =some (.int .i64 f):=by
        have:k2=0\/k2=1\/k2=2:=by omega
        rcases this with rfl|rfl|rfl<;>exact⟨_,rfl⟩
       have F0:=ae hf;have f0:=hfr2.cell hf;have fl:=hfr2.lt;have ZC:(0:Int)<=(k2:Int):=by omega
       have Sq:(k2:Int)<3:=by omega
       have hd5:decide ((k2:Int)<3)=true:=by simpa using Sq
       clear Kp Ko hfr2 hf;by_cases h20:f>20000
       ·have e20:decide (20000<f)=true:=by simpa using h20
        by_cases P8:f<=2000000
        ·have e2m:decide (f<=2000000)=true:=by simpa using P8
         clear h20 P8;go_wp2_with fail;go_roundw
         case rel=>exact⟨k2+1,by go_num,by omega,dw.out,Dm.out,zT.out⟩
         case measure=>simp[intOf];omega
        ·have e2m:decide (f<=2000000)=false:=by simpa using P8
         have DY:=ae (show bY p=true->¬(0<=f/\f<=2000000)from λ_ h=>P8 h.2);clear h20 P8;go_wp2_with fail;refine pC w.heap.size qb gY k ps.length pc IA ic GA FA gc fc p inp af wr Dm (fQ fP dw.size) hlt (ag C0.out dw.out fP) (ag C1.out dw.out fP) (ag C2.out dw.out fP) (λW hW=>Xj.out W (dw.trans (hW.mono dw.size))) (λW hW=>CJ.out W (dw.trans (hW.mono dw.size))) _ (λw3 p' pU gc' pV pT qE pg Y hb3 mr hr3 wJ hc3 wH hl3=>?_);have eO:=ae (dw.trans (hb3.mono dw.size));have Di:=ae hr3;have xq:=ae wJ;have Tb:=ae hl3;have E6:=ae (i7 hl3 hc3 wH);have uf:=ae (zT.below hb3 zT.lt);clear hb3 hr3 wJ hl3 hc3 wH;go_wp2_with fail
         refine pB p' pU pV qE p.ay.length gc' p.funcs.length pT inp.length pg p.main fb 0 k2 f w3 (AG p inp f) (Bu p f) Di.out hk2 uf.lt (by rw[Nat.zero_add];exact uf.cell F0.out) (λW hW=>q7 w3.heap.size p (.slice pU p.ay.length gc',.slice pV p.funcs.length pT,.int .i64 p.main) inp (.slice qE inp.length pg) f W hW.size (xq.below hW) (uB.below E6 (λb o hb=>hW.cell (p:=⟨b,o,none⟩) hb))) _ (λw4 po u Y hb4 TB hr4 EA=>?_);rw[(xx.out f DY.out).1]at hr4 EA;rw[(xx.out f DY.out).2];have fO:=ae (eO.trans (hb4.mono eO.size));have ID:=ae (Di.below hb4 Di.lt);have Fa:=ae (xq.below hb4);have Ta:=ae (aD.below Tb.out hb4 (aY _));have ve:=ae (uf.below hb4 uf.lt);have LJ:=ae hr4;have S4:=ae (gy.xG EA)
         have vU:=hb4.size;have oX:=ae vU;clear hb4 hr4 EA vU;go_wp2_with fail;have cV:=ae (ax w4 (.cells #[.int .i64 0,.int .i64 0,.slice none 0 0,.int .i64 0,.int .i64 0] 40));have Cy:=ae (Row.new w4 #[.int .i64 0,.int .i64 0,.slice none 0 0,.int .i64 0,.int .i64 0] 40);have S3:=ae (show gy (w4.alloc (.cells #[.int .i64 0,.int .i64 0,.slice none 0 0,.int .i64 0,.int .i64 0] 40)) (.slice none 0 0) []from⟨none,0,rfl,by simp,by simp,λh=>by simp at h⟩);have fW:=ae (fO.trans (cV.mono fO.size))
         have HE:=ae (pA w.heap.size qb gY k ps.length pc inp.length ic p.ay.length gc p.funcs.length fc IA GA FA p.main p' po w4.heap.size qE pU pV pg gc' pT 1 af (⟨0,0,[],0,0⟩) u (.slice none 0 0) (w4.alloc (.cells #[.int .i64 0,.int .i64 0,.slice none 0 0,.int .i64 0,.int .i64 0] 40)) (cS.below fW.out cS.lt) (by have:=fW.size;omega) hlt (ag C0.out fW.out fP) (ag C1.out fW.out fP) (ag C2.out fW.out fP) (ID.below cV.out ID.lt) (LJ.below cV.out LJ.lt) Cy (S4.below cV.out) S3 (λW hW=>rE p (P:=(.slice pU p.ay.length gc',.slice pV p.funcs.length pT,.int .i64 p.main)) (Q:=(.slice GA p.ay.length gc,.slice FA p.funcs.length fc,.int .i64 p.main)) W.heap.size W (aY _) (Fa.below ((cV.trans (hW.mono cV.size)).mono oX.out)|>.grow (by have:=hW.size;have:=cV.size;have:=oX.out;omega)) ((uw.below ((fW.trans (hW.mono fW.size)).mono (by have:=cB.size;omega)))|>.grow (by have:=hW.size;have:=fW.size;have:=cB.size;omega))) (λW hW=>nU inp qE IA pg ic W.heap.size W (aY _) (aD.below Ta ((cV.trans (hW.mono cV.size)).mono oX.out) (by have:=hW.size;have:=cV.size;have:=oX.out;omega)) (aD.below vC ((cB.trans ((fW.trans (hW.mono fW.size)).mono cB.size)).mono hB) (by have:=hW.size;have:=fW.size;have:=cB.size;omega))))
         refine HE.out _ _ _ _ _ _ _ _ _ _ _ _ _ _ _ _ _ _ _ _ _ _ _ _ _ _ _ _ _ _ _ _ _ _ _ _ _ _ _ _ _ _ _ _ _ _ _ _ _ _ _ _ _ _ _ _ _ _ _ _ _ _ _ _ _ _ _ _ _ _ _ _ _ _ _ _ _ _ _ _ _ _ _ _ _ _ _ _ _ _ _ _ _ _ _ _ _ _ _ _ _ _ _ _ _ _ _ _ _ _ _ _ _ _ _ _ _ _ _ _ _ _ _ _ _ (λw7 y0 y1 y2 y3 y4 y5 y6 y7 y8 y9 y10 y11 y12 y13 y14 y15 y16 y17 y18 y19 y20 y21 y22 y23 y24 y25 tE=>?_);have vg:=ae (fW.trans (tE.mono fW.size));have E9:=ae tE;clear tE;go_wp2_with fail;go_roundw
         case rel=>exact⟨k2+1,by go_num,by omega,vg.out,cS.below vg.out cS.lt,(ve.below cV.out ve.lt).below E9 (fQ ve.lt cV.size)⟩
         case measure=>simp[intOf];omega
       ·have e20:decide (20000<f)=false:=by simpa using h20
        have DY:=ae (show bY p=true->¬(0<=f/\f<=2000000)from λh=>by rw[CH.out]at h;cases h);clear h20;go_wp2_with fail;refine pC w.heap.size qb gY k ps.length pc IA ic GA FA gc fc p inp af wr Dm (fQ fP dw.size) hlt (ag C0.out dw.out fP) (ag C1.out dw.out fP) (ag C2.out dw.out fP) (λW hW=>Xj.out W (dw.trans (hW.mono dw.size))) (λW hW=>CJ.out W (dw.trans (hW.mono dw.size))) _ (λw3 p' pU gc' pV pT qE pg Y hb3 mr hr3 wJ hc3 wH hl3=>?_);have eO:=ae (dw.trans (hb3.mono dw.size));have Di:=ae hr3;have xq:=ae wJ;have Tb:=ae hl3;have E6:=ae (i7 hl3 hc3 wH);have uf:=ae (zT.below hb3 zT.lt);clear hb3 hr3 wJ hl3 hc3 wH;go_wp2_with fail
        refine pB p' pU pV qE p.ay.length gc' p.funcs.length pT inp.length pg p.main fb 0 k2 f w3 (AG p inp f) (Bu p f) Di.out hk2 uf.lt (by rw[Nat.zero_add];exact uf.cell F0.out) (λW hW=>q7 w3.heap.size p (.slice pU p.ay.length gc',.slice pV p.funcs.length pT,.int .i64 p.main) inp (.slice qE inp.length pg) f W hW.size (xq.below hW) (uB.below E6 (λb o hb=>hW.cell (p:=⟨b,o,none⟩) hb))) _ (λw4 po u Y hb4 TB hr4 EA=>?_);rw[(xx.out f DY.out).1]at hr4 EA;rw[(xx.out f DY.out).2];have fO:=ae (eO.trans (hb4.mono eO.size));have ID:=ae (Di.below hb4 Di.lt);have Fa:=ae (xq.below hb4);have Ta:=ae (aD.below Tb.out hb4 (aY _));have ve:=ae (uf.below hb4 uf.lt);have LJ:=ae hr4;have S4:=ae (gy.xG EA)
        have vU:=hb4.size;have oX:=ae vU;clear hb4 hr4 EA vU;go_wp2_with fail;have cV:=ae (ax w4 (.cells #[.int .i64 0,.int .i64 0,.slice none 0 0,.int .i64 0,.int .i64 0] 40));have Cy:=ae (Row.new w4 #[.int .i64 0,.int .i64 0,.slice none 0 0,.int .i64 0,.int .i64 0] 40);have S3:=ae (show gy (w4.alloc (.cells #[.int .i64 0,.int .i64 0,.slice none 0 0,.int .i64 0,.int .i64 0] 40)) (.slice none 0 0) []from⟨none,0,rfl,by simp,by simp,λh=>by simp at h⟩);have fW:=ae (fO.trans (cV.mono fO.size))
        have HE:=ae (pA w.heap.size qb gY k ps.length pc inp.length ic p.ay.length gc p.funcs.length fc IA GA FA p.main p' po w4.heap.size qE pU pV pg gc' pT 1 af (⟨0,0,[],0,0⟩) u (.slice none 0 0) (w4.alloc (.cells #[.int .i64 0,.int .i64 0,.slice none 0 0,.int .i64 0,.int .i64 0] 40)) (cS.below fW.out cS.lt) (by have:=fW.size;omega) hlt (ag C0.out fW.out fP) (ag C1.out fW.out fP) (ag C2.out fW.out fP) (ID.below cV.out ID.lt) (LJ.below cV.out LJ.lt) Cy (S4.below cV.out) S3 (λW hW=>rE p (P:=(.slice pU p.ay.length gc',.slice pV p.funcs.length pT,.int .i64 p.main)) (Q:=(.slice GA p.ay.length gc,.slice FA p.funcs.length fc,.int .i64 p.main)) W.heap.size W (aY _) (Fa.below ((cV.trans (hW.mono cV.size)).mono oX.out)|>.grow (by have:=hW.size;have:=cV.size;have:=oX.out;omega)) ((uw.below ((fW.trans (hW.mono fW.size)).mono (by have:=cB.size;omega)))|>.grow (by have:=hW.size;have:=fW.size;have:=cB.size;omega))) (λW hW=>nU inp qE IA pg ic W.heap.size W (aY _) (aD.below Ta ((cV.trans (hW.mono cV.size)).mono oX.out) (by have:=hW.size;have:=cV.size;have:=oX.out;omega)) (aD.below vC ((cB.trans ((fW.trans (hW.mono fW.size)).mono cB.size)).mono hB) (by have:=hW.size;have:=fW.size;have:=cB.size;omega))))
        refine HE.out _ _ _ _ _ _ _ _ _ _ _ _ _ _ _ _ _ _ _ _ _ _ _ _ _ _ _ _ _ _ _ _ _ _ _ _ _ _ _ _ _ _ _ _ _ _ _ _ _ _ _ _ _ _ _ _ _ _ _ _ _ _ _ _ _ _ _ _ _ _ _ _ _ _ _ _ _ _ _ _ _ _ _ _ _ _ _ _ _ _ _ _ _ _ _ _ _ _ _ _ _ _ _ _ _ _ _ _ _ _ _ _ _ _ _ _ _ _ _ _ _ _ _ _ _ (λw7 y0 y1 y2 y3 y4 y5 y6 y7 y8 y9 y10 y11 y12 y13 y14 y15 y16 y17 y18 y19 y20 y21 y22 y23 y24 y25 tE=>?_);have vg:=ae (fW.trans (tE.mono fW.size));have E9:=ae tE;clear tE;go_wp2_with fail;go_roundw
        case rel=>exact⟨k2+1,by go_num,by omega,vg.out,cS.below vg.out cS.lt,(ve.below cV.out ve.lt).below E9 (fQ ve.lt cV.size)⟩
        case measure=>simp[intOf];omega
      ·obtain rfl:k2=3:=by omega
       clear Kp Ko hfr2;go_wp2_with fail;go_roundw
       case rel=>exact⟨k+1,by go_num,by omega,cB.trans (dw.mono cB.size),Dm.out⟩
       case measure=>simp[intOf];omega
    |true=>
     have CH:=ae hmb;rw[hmb]at XU X3;rw[if_pos rfl]at X3;clear hmb;go_wp2_with fail;refine(XU _ (aV _ _)).mono ?_;rintro e wa ⟨rfl,yH⟩;have ra0:=(cS.below yH cS.lt).cell (j:=0) rfl;have ca0:=ag C0.out yH fP;have ca1:=ag C1.out yH fP;have ca2:=ag C2.out yH fP;have rla:=(cS.below yH cS.lt).lt;have XD:=fQ fP yH.size;have Tg:=ae yH;clear yH r0 rl c0 c1 c2;go_wp2_with fail;refine(X3 _ Tg.out).mono ?_;rintro e wb ⟨rfl,hbb⟩;have Ab:=ae (Tg.trans (hbb.mono Tg.size));clear hbb ra0 ca0 ca1 ca2 rla XD;go_wp2_with fail;refine(rQ _ _).mono ?_;rintro e w' ⟨rfl,rfl⟩;go_wp2_with fail
     refine Ae w.heap.size (.slice (some ⟨qb,gY,none⟩) ps.length pc) (.slice IA inp.length ic) af (qh af) wb (cS.below Ab.out cS.lt) (λW=>uy af W) _ (λwc fb Y hbc hfb hrc=>?_);have sU:=ae (Ab.trans (hbc.mono Ab.size));have NQ:=ae hrc;have HFB:=ae (show w.heap.size<fb from by have:=cS.lt;have:=Ab.size;omega);have HFQ:=ae (show qb≠fb from by have:=Ab.size;omega);clear hbc hrc hfb;go_wp2_with fail;obtain⟨wo,rfl⟩:∃wo:World,wo=wr:=⟨_,rfl⟩
     go_loopw [6] (λi wr2=>∃k2:Nat,i= .int .i64 k2/\k2<=3/\Below wo.heap.size wo wr2/\Row wr2 w.heap.size #[.slice (some ⟨qb,gY,none⟩) ps.length pc,.slice IA inp.length ic,.int .i64 af] 25/\Row wr2 fb #[.int .i64 af,.int .i64 (qh af),.int .i64 3000] 3) (λi _=>3-(intOf i).toNat)
     case atStart=>exact⟨0,rfl,by omega,sU.out,cS.below sU.out cS.lt,NQ.out⟩
     case round=>
      obtain⟨k2,rfl,hk2',Kp,Ko,hfr2⟩:=hrel;have dw:=ae Kp;have Dm:=ae Ko;have zT:=ae hfr2;by_cases hk2:k2<3
      ·obtain⟨f,hf⟩:∃f:Int,(#[Value.int .i64 af,.int .i64 (qh af),.int .i64 3000]:Array Value)[k2]? =some (.int .i64 f):=by
        have:k2=0\/k2=1\/k2=2:=by omega
        rcases this with rfl|rfl|rfl<;>exact⟨_,rfl⟩
       have F0:=ae hf;have f0:=hfr2.cell hf;have fl:=hfr2.lt;have ZC:(0:Int)<=(k2:Int):=by omega
       have Sq:(k2:Int)<3:=by omega
       have hd5:decide ((k2:Int)<3)=true:=by simpa using Sq
       clear Kp Ko hfr2 hf;by_cases h20:f>20000
       ·have e20:decide (20000<f)=true:=by simpa using h20
        by_cases P8:f<=2000000
        ·have e2m:decide (f<=2000000)=true:=by simpa using P8
         clear h20 P8;go_wp2_with fail;go_roundw
         case rel=>exact⟨k2+1,by go_num,by omega,dw.out,Dm.out,zT.out⟩
         case measure=>simp[intOf];omega
        ·have e2m:decide (f<=2000000)=false:=by simpa using P8
         have DY:=ae (show bY p=true->¬(0<=f/\f<=2000000)from λ_ h=>P8 h.2);clear h20 P8;go_wp2_with fail;refine pC w.heap.size qb gY k ps.length pc IA ic GA FA gc fc p inp af wr Dm (fQ fP dw.size) hlt (ag C0.out dw.out fP) (ag C1.out dw.out fP) (ag C2.out dw.out fP) (λW hW=>Xj.out W (dw.trans (hW.mono dw.size))) (λW hW=>CJ.out W (dw.trans (hW.mono dw.size))) _ (λw3 p' pU gc' pV pT qE pg Y hb3 mr hr3 wJ hc3 wH hl3=>?_);have eO:=ae (dw.trans (hb3.mono dw.size));have Di:=ae hr3;have xq:=ae wJ;have Tb:=ae hl3;have E6:=ae (i7 hl3 hc3 wH);have uf:=ae (zT.below hb3 zT.lt);clear hb3 hr3 wJ hl3 hc3 wH;go_wp2_with fail
         refine pB p' pU pV qE p.ay.length gc' p.funcs.length pT inp.length pg p.main fb 0 k2 f w3 (AG p inp f) (Bu p f) Di.out hk2 uf.lt (by rw[Nat.zero_add];exact uf.cell F0.out) (λW hW=>q7 w3.heap.size p (.slice pU p.ay.length gc',.slice pV p.funcs.length pT,.int .i64 p.main) inp (.slice qE inp.length pg) f W hW.size (xq.below hW) (uB.below E6 (λb o hb=>hW.cell (p:=⟨b,o,none⟩) hb))) _ (λw4 po u Y hb4 TB hr4 EA=>?_);rw[(xx.out f DY.out).1]at hr4 EA;rw[(xx.out f DY.out).2];have fO:=ae (eO.trans (hb4.mono eO.size));have ID:=ae (Di.below hb4 Di.lt);have Fa:=ae (xq.below hb4);have Ta:=ae (aD.below Tb.out hb4 (aY _));have ve:=ae (uf.below hb4 uf.lt);have LJ:=ae hr4;have S4:=ae (gy.xG EA)
         have vU:=hb4.size;have oX:=ae vU;clear hb4 hr4 EA vU;have hnb:mG f 2000000=false:=by
          have h:=DY.out CH.out;simp only[mG,decide_eq_false_iff_not];exact h
         have Rb:=ae (hnb▸oQ f 2000000);clear hnb;have F4:=ve.cell F0.out;have Z6:=ve.lt;go_wp2_with fail;refine(Rb _).mono ?_;rintro e w' ⟨rfl,rfl⟩;clear F4 Z6;go_wp2_with fail;have cV:=ae (ax w4 (.cells #[.int .i64 0,.int .i64 0,.slice none 0 0,.int .i64 0,.int .i64 0] 40));have Cy:=ae (Row.new w4 #[.int .i64 0,.int .i64 0,.slice none 0 0,.int .i64 0,.int .i64 0] 40);have S3:=ae (show gy (w4.alloc (.cells #[.int .i64 0,.int .i64 0,.slice none 0 0,.int .i64 0,.int .i64 0] 40)) (.slice none 0 0) []from⟨none,0,rfl,by simp,by simp,λh=>by simp at h⟩);have fW:=ae (fO.trans (cV.mono fO.size))
         have HE:=ae (pA w.heap.size qb gY k ps.length pc inp.length ic p.ay.length gc p.funcs.length fc IA GA FA p.main p' po w4.heap.size qE pU pV pg gc' pT 1 af (⟨0,0,[],0,0⟩) u (.slice none 0 0) (w4.alloc (.cells #[.int .i64 0,.int .i64 0,.slice none 0 0,.int .i64 0,.int .i64 0] 40)) (cS.below fW.out cS.lt) (by have:=fW.size;omega) hlt (ag C0.out fW.out fP) (ag C1.out fW.out fP) (ag C2.out fW.out fP) (ID.below cV.out ID.lt) (LJ.below cV.out LJ.lt) Cy (S4.below cV.out) S3 (λW hW=>rE p (P:=(.slice pU p.ay.length gc',.slice pV p.funcs.length pT,.int .i64 p.main)) (Q:=(.slice GA p.ay.length gc,.slice FA p.funcs.length fc,.int .i64 p.main)) W.heap.size W (aY _) (Fa.below ((cV.trans (hW.mono cV.size)).mono oX.out)|>.grow (by have:=hW.size;have:=cV.size;have:=oX.out;omega)) ((uw.below ((fW.trans (hW.mono fW.size)).mono (by have:=cB.size;omega)))|>.grow (by have:=hW.size;have:=fW.size;have:=cB.size;omega))) (λW hW=>nU inp qE IA pg ic W.heap.size W (aY _) (aD.below Ta ((cV.trans (hW.mono cV.size)).mono oX.out) (by have:=hW.size;have:=cV.size;have:=oX.out;omega)) (aD.below vC ((cB.trans ((fW.trans (hW.mono fW.size)).mono cB.size)).mono hB) (by have:=hW.size;have:=fW.size;have:=cB.size;omega))))
         refine HE.out _ _ _ _ _ _ _ _ _ _ _ _ _ _ _ _ _ _ _ _ _ _ _ _ _ _ _ _ _ _ _ _ _ _ _ _ _ _ _ _ _ _ _ _ _ _ _ _ _ _ _ _ _ _ _ _ _ _ _ _ _ _ _ _ _ _ _ _ _ _ _ _ _ _ _ _ _ _ _ _ _ _ _ _ _ _ _ _ _ _ _ _ _ _ _ _ _ _ _ _ _ _ _ _ _ _ _ _ _ _ _ _ _ _ _ _ _ _ _ _ _ _ _ _ _ (λw7 y0 y1 y2 y3 y4 y5 y6 y7 y8 y9 y10 y11 y12 y13 y14 y15 y16 y17 y18 y19 y20 y21 y22 y23 y24 y25 tE=>?_);have vg:=ae (fW.trans (tE.mono fW.size));have E9:=ae tE;clear tE;go_wp2_with fail;go_roundw
         case rel=>exact⟨k2+1,by go_num,by omega,vg.out,cS.below vg.out cS.lt,(ve.below cV.out ve.lt).below E9 (fQ ve.lt cV.size)⟩
         case measure=>simp[intOf];omega
       ·have e20:decide (20000<f)=false:=by simpa using h20
        by_cases hf0:0<=f
        ·have HFG:=ae (show 0<=f/\f<=2000000 from⟨hf0,by omega⟩);clear h20 hf0;go_wp2_with fail;refine pC w.heap.size qb gY k ps.length pc IA ic GA FA gc fc p inp af wr Dm (fQ fP dw.size) hlt (ag C0.out dw.out fP) (ag C1.out dw.out fP) (ag C2.out dw.out fP) (λW hW=>Xj.out W (dw.trans (hW.mono dw.size))) (λW hW=>CJ.out W (dw.trans (hW.mono dw.size))) _ (λw3 p' pU gc' pV pT qE pg Y hb3 mr hr3 wJ hc3 wH hl3=>?_);have eO:=ae (dw.trans (hb3.mono dw.size));have Di:=ae hr3;have xq:=ae wJ;have Tb:=ae hl3;have E6:=ae (i7 hl3 hc3 wH);have uf:=ae (zT.below hb3 zT.lt);clear hb3 hr3 wJ hl3 hc3 wH;go_wp2_with fail
         refine pB p' pU pV qE p.ay.length gc' p.funcs.length pT inp.length pg p.main fb 0 k2 f w3 (AG p inp f) (Bu p f) Di.out hk2 uf.lt (by rw[Nat.zero_add];exact uf.cell F0.out) (λW hW=>q7 w3.heap.size p (.slice pU p.ay.length gc',.slice pV p.funcs.length pT,.int .i64 p.main) inp (.slice qE inp.length pg) f W hW.size (xq.below hW) (uB.below E6 (λb o hb=>hW.cell (p:=⟨b,o,none⟩) hb))) _ (λw4 po u Y hb4 TB hr4 EA=>?_);rw[(HGG.out f CH.out HFG.out).1]at hr4 EA;rw[(HGG.out f CH.out HFG.out).2];have fO:=ae (eO.trans (hb4.mono eO.size));have ID:=ae (Di.below hb4 Di.lt);have Fa:=ae (xq.below hb4);have Ta:=ae (aD.below Tb.out hb4 (aY _));have ve:=ae (uf.below hb4 uf.lt);have LJ:=ae hr4
         have S4:=ae (gy.xG EA);have vU:=hb4.size;have oX:=ae vU;clear hb4 hr4 EA vU;have hnb:mG f 2000000=true:=by simp[mG];exact HFG.out
         have Rb:=ae (hnb▸oQ f 2000000);clear hnb;have F4:=ve.cell F0.out;have Z6:=ve.lt;go_wp2_with fail;refine(Rb _).mono ?_;rintro e w' ⟨rfl,rfl⟩;clear F4 Z6;go_wp2_with fail;have yh:=ae (ax w4 (.cells #[.int .i64 0,.int .i64 0,.slice none 0 0,.int .i64 0,.int .i64 0] 40))
         refine I8 w.heap.size qb gY k ps.length pc inp.length ic p.ay.length gc p.funcs.length fc IA GA FA p.main fb 0 k2 f (vI (eB p) inp f) w4.heap.size #[.int .i64 0,.int .i64 0,.slice none 0 0,.int .i64 0,.int .i64 0] af _ (cS.below (fO.trans (yh.mono fO.size)) cS.lt) (by have:=cS.lt;have:=fO.size;omega) (by have:=fO.size;simp;omega) (by have:=fO.size;omega) hlt hk2 (by have:=ve.lt;simp;omega) (by have:=ve.lt;omega) (ag C0.out (fO.trans (yh.mono fO.size)) fP) (ag C1.out (fO.trans (yh.mono fO.size)) fP) (ag C2.out (fO.trans (yh.mono fO.size)) fP) (by rw[Nat.zero_add];exact ag (ve.cell F0.out) yh.out ve.lt) (Row.new _ _ _) rfl (λW hW=>HREF.out f CH.out HFG.out W (fO.trans ((yh.trans (hW.below yh.size (λi(hi:i=w4.heap.size)=>by omega))).mono fO.size))) _ (λw5 u2 Y ji Kf ho5=>?_)
         have Y3:=yh.trans (ji.below yh.size (λi(hi:i=w4.heap.size)=>by omega));have Cy:=ae Kf;have S3:=ae (gy.xG ho5);have cV:=ae Y3;clear ji Kf ho5 Y3;go_wp2_with fail;have fW:=ae (fO.trans (cV.mono fO.size));have HE:=ae (pA w.heap.size qb gY k ps.length pc inp.length ic p.ay.length gc p.funcs.length fc IA GA FA p.main p' po w4.heap.size qE pU pV pg gc' pT 0 af (vI (eB p) inp f) u u2 w5 (cS.below fW.out cS.lt) (by have:=fW.size;omega) hlt (ag C0.out fW.out fP) (ag C1.out fW.out fP) (ag C2.out fW.out fP) (ID.below cV.out ID.lt) (LJ.below cV.out LJ.lt) Cy (S4.below cV.out) S3 (λW hW=>rE p (P:=(.slice pU p.ay.length gc',.slice pV p.funcs.length pT,.int .i64 p.main)) (Q:=(.slice GA p.ay.length gc,.slice FA p.funcs.length fc,.int .i64 p.main)) W.heap.size W (aY _) (Fa.below ((cV.trans (hW.mono cV.size)).mono oX.out)|>.grow (by have:=hW.size;have:=cV.size;have:=oX.out;omega)) ((uw.below ((fW.trans (hW.mono fW.size)).mono (by have:=cB.size;omega)))|>.grow (by have:=hW.size;have:=fW.size;have:=cB.size;omega))) (λW hW=>nU inp qE IA pg ic W.heap.size W (aY _) (aD.below Ta ((cV.trans (hW.mono cV.size)).mono oX.out) (by have:=hW.size;have:=cV.size;have:=oX.out;omega)) (aD.below vC ((cB.trans ((fW.trans (hW.mono fW.size)).mono cB.size)).mono hB) (by have:=hW.size;have:=fW.size;have:=cB.size;omega))))
         refine HE.out _ _ _ _ _ _ _ _ _ _ _ _ _ _ _ _ _ _ _ _ _ _ _ _ _ _ _ _ _ _ _ _ _ _ _ _ _ _ _ _ _ _ _ _ _ _ _ _ _ _ _ _ _ _ _ _ _ _ _ _ _ _ _ _ _ _ _ _ _ _ _ _ _ _ _ _ _ _ _ _ _ _ _ _ _ _ _ _ _ _ _ _ _ _ _ _ _ _ _ _ _ _ _ _ _ _ _ _ _ _ _ _ _ _ _ _ _ _ _ _ _ _ _ _ _ (λw7 y0 y1 y2 y3 y4 y5 y6 y7 y8 y9 y10 y11 y12 y13 y14 y15 y16 y17 y18 y19 y20 y21 y22 y23 y24 y25 tE=>?_);have vg:=ae (fW.trans (tE.mono fW.size));have E9:=ae tE;clear tE;go_wp2_with fail;go_roundw
         case rel=>exact⟨k2+1,by go_num,by omega,vg.out,cS.below vg.out cS.lt,(ve.below cV.out ve.lt).below E9 (fQ ve.lt cV.size)⟩
         case measure=>simp[intOf];omega
        ·have DY:=ae (show bY p=true->¬(0<=f/\f<=2000000)from λ_ h=>hf0 h.1);clear h20 hf0;go_wp2_with fail;refine pC w.heap.size qb gY k ps.length pc IA ic GA FA gc fc p inp af wr Dm (fQ fP dw.size) hlt (ag C0.out dw.out fP) (ag C1.out dw.out fP) (ag C2.out dw.out fP) (λW hW=>Xj.out W (dw.trans (hW.mono dw.size))) (λW hW=>CJ.out W (dw.trans (hW.mono dw.size))) _ (λw3 p' pU gc' pV pT qE pg Y hb3 mr hr3 wJ hc3 wH hl3=>?_);have eO:=ae (dw.trans (hb3.mono dw.size));have Di:=ae hr3;have xq:=ae wJ;have Tb:=ae hl3;have E6:=ae (i7 hl3 hc3 wH);have uf:=ae (zT.below hb3 zT.lt);clear hb3 hr3 wJ hl3 hc3 wH;go_wp2_with fail
         refine pB p' pU pV qE p.ay.length gc' p.funcs.length pT inp.length pg p.main fb 0 k2 f w3 (AG p inp f) (Bu p f) Di.out hk2 uf.lt (by rw[Nat.zero_add];exact uf.cell F0.out) (λW hW=>q7 w3.heap.size p (.slice pU p.ay.length gc',.slice pV p.funcs.length pT,.int .i64 p.main) inp (.slice qE inp.length pg) f W hW.size (xq.below hW) (uB.below E6 (λb o hb=>hW.cell (p:=⟨b,o,none⟩) hb))) _ (λw4 po u Y hb4 TB hr4 EA=>?_);rw[(xx.out f DY.out).1]at hr4 EA;rw[(xx.out f DY.out).2];have fO:=ae (eO.trans (hb4.mono eO.size));have ID:=ae (Di.below hb4 Di.lt);have Fa:=ae (xq.below hb4);have Ta:=ae (aD.below Tb.out hb4 (aY _));have ve:=ae (uf.below hb4 uf.lt);have LJ:=ae hr4;have S4:=ae (gy.xG EA)
         have vU:=hb4.size;have oX:=ae vU;clear hb4 hr4 EA vU;have hnb:mG f 2000000=false:=by
          have h:=DY.out CH.out;simp only[mG,decide_eq_false_iff_not];exact h
         have Rb:=ae (hnb▸oQ f 2000000);clear hnb;have F4:=ve.cell F0.out;have Z6:=ve.lt;go_wp2_with fail;refine(Rb _).mono ?_;rintro e w' ⟨rfl,rfl⟩;clear F4 Z6;go_wp2_with fail;have cV:=ae (ax w4 (.cells #[.int .i64 0,.int .i64 0,.slice none 0 0,.int .i64 0,.int .i64 0] 40));have Cy:=ae (Row.new w4 #[.int .i64 0,.int .i64 0,.slice none 0 0,.int .i64 0,.int .i64 0] 40);have S3:=ae (show gy (w4.alloc (.cells #[.int .i64 0,.int .i64 0,.slice none 0 0,.int .i64 0,.int .i64 0] 40)) (.slice none 0 0) []from⟨none,0,rfl,by simp,by simp,λh=>by simp at h⟩);have fW:=ae (fO.trans (cV.mono fO.size))
         have HE:=ae (pA w.heap.size qb gY k ps.length pc inp.length ic p.ay.length gc p.funcs.length fc IA GA FA p.main p' po w4.heap.size qE pU pV pg gc' pT 1 af (⟨0,0,[],0,0⟩) u (.slice none 0 0) (w4.alloc (.cells #[.int .i64 0,.int .i64 0,.slice none 0 0,.int .i64 0,.int .i64 0] 40)) (cS.below fW.out cS.lt) (by have:=fW.size;omega) hlt (ag C0.out fW.out fP) (ag C1.out fW.out fP) (ag C2.out fW.out fP) (ID.below cV.out ID.lt) (LJ.below cV.out LJ.lt) Cy (S4.below cV.out) S3 (λW hW=>rE p (P:=(.slice pU p.ay.length gc',.slice pV p.funcs.length pT,.int .i64 p.main)) (Q:=(.slice GA p.ay.length gc,.slice FA p.funcs.length fc,.int .i64 p.main)) W.heap.size W (aY _) (Fa.below ((cV.trans (hW.mono cV.size)).mono oX.out)|>.grow (by have:=hW.size;have:=cV.size;have:=oX.out;omega)) ((uw.below ((fW.trans (hW.mono fW.size)).mono (by have:=cB.size;omega)))|>.grow (by have:=hW.size;have:=fW.size;have:=cB.size;omega))) (λW hW=>nU inp qE IA pg ic W.heap.size W (aY _) (aD.below Ta ((cV.trans (hW.mono cV.size)).mono oX.out) (by have:=hW.size;have:=cV.size;have:=oX.out;omega)) (aD.below vC ((cB.trans ((fW.trans (hW.mono fW.size)).mono cB.size)).mono hB) (by have:=hW.size;have:=fW.size;have:=cB.size;omega))))
         refine HE.out _ _ _ _ _ _ _ _ _ _ _ _ _ _ _ _ _ _ _ _ _ _ _ _ _ _ _ _ _ _ _ _ _ _ _ _ _ _ _ _ _ _ _ _ _ _ _ _ _ _ _ _ _ _ _ _ _ _ _ _ _ _ _ _ _ _ _ _ _ _ _ _ _ _ _ _ _ _ _ _ _ _ _ _ _ _ _ _ _ _ _ _ _ _ _ _ _ _ _ _ _ _ _ _ _ _ _ _ _ _ _ _ _ _ _ _ _ _ _ _ _ _ _ _ _ (λw7 y0 y1 y2 y3 y4 y5 y6 y7 y8 y9 y10 y11 y12 y13 y14 y15 y16 y17 y18 y19 y20 y21 y22 y23 y24 y25 tE=>?_);have vg:=ae (fW.trans (tE.mono fW.size));have E9:=ae tE;clear tE;go_wp2_with fail;go_roundw
         case rel=>exact⟨k2+1,by go_num,by omega,vg.out,cS.below vg.out cS.lt,(ve.below cV.out ve.lt).below E9 (fQ ve.lt cV.size)⟩
         case measure=>simp[intOf];omega
      ·obtain rfl:k2=3:=by omega
       clear Kp Ko hfr2;go_wp2_with fail;go_roundw
       case rel=>exact⟨k+1,by go_num,by omega,cB.trans (dw.mono cB.size),Dm.out⟩
       case measure=>simp[intOf];omega
   ·have Py:decide (k<ps.length)=false\/(decide (k<ps.length)=true/\decide ((k:Int)<3)=false):=by
     by_cases hlt:k<ps.length
     ·exact bu ⟨by simpa using hlt,by simp;omega⟩
     ·exact aK (by simp;omega)
    clear hgo aJ kJ;rcases Py with hd|⟨hd,hd2⟩
    all_goals
     go_wp2_with fail;refine(Fu _).mono ?_;rintro e w9 ⟨rfl,hb9⟩;go_wp2_with fail;refine HQ _ _ _ ?_;exact aS (v:= .bool true) (by simp[results,results3,go_sem]) rfl ⟨rfl,cB.trans (hb9.mono cB.size)⟩
end Go.Proofs.YtinmgbodgecoeaaGreat
namespace Go.Proofs.YtinmgbodgecoeaaGreat
open Go.RowKit Go.Deep
theorem dK{cs l:List Value}{j n i:Nat}(h:(cs.drop j).take n=l)(hi:i<l.length):cs[j+i]? =l[i]? :=by
 subst h;rw[List.length_take]at hi;rw[List.getElem?_take,if_pos (by omega),List.getElem?_drop]
section
variable {H:Type} {enc:TypeId×Value->H} {w:World} {ai:Nat} {spare:Nat->Bool} {held:Bool}
end
end Go.Proofs.YtinmgbodgecoeaaGreat
namespace Go.Proofs.YtinmgbodgecoeaaGreat
open Go.RowKit Go.Deep
section
variable {H:Type} {enc:TypeId×Value->H} {w:World} {ai:Nat} {spare:Nat->Bool} {held:Bool}
theorem kY{te ts:TypeId}{sz Q9:Nat}{α:Type}(hts:prog.underlying ts=some (.slice te))(hce:prog.cellsOf te=sz)(hby:prog.bytesOf te=Q9)(hsz:0<sz)(hb1:1<=Q9)
  (E:(Nat->Option Value)->α->Prop)(Sz:α->Prop)
  (hE:∀(k:Nat)(cs:List Value)(x:DataW H×List MemPlace),DataW.trod enc prog w ai spare held k te cs=some x->(∀n,n∈x.1.weights prog te->n<=reachBytes)->∃t,Sz t/\∀c:Nat->Option Value,(∀j,j<sz->c j=cs[j]?)->E c t)
  {m:Nat}{cs:List Value}{x:DataW H×List MemPlace}(h:DataW.trod enc prog w ai spare held m ts cs=some x)(hw:∀n,n∈x.1.weights prog ts->n<=reachBytes):
  ∃(l:List α)(A:Option Addr)(c:Nat),cs=[.slice A l.length c]/\SliceAt w w.heap.size sz E l (.slice A l.length c)/\l.length*Q9<=140737488351232/\l.length<=c/\c<=9223372036854775807/\∀t,t∈l->Sz t:=by
 have uQ:maxLen=9223372036854775807:=rfl;have hr:reachBytes=140737488351232:=rfl;rcases DataW.trod_slice hts h with⟨rfl,_⟩|⟨a,len,aA,elems,rest,k,hk,rfl,hx,_,hl,hc,hel,he,_⟩
 ·exact⟨[],none,0,rfl,⟨none,0,rfl,by simp,λh=>by simp at h⟩,by simp,by simp,by omega,λt ht=>by cases ht⟩
 ·rw[hce]at he;have hx1:x.1= .slice (elems.map (·.1)) (rest.map (·.1)):=by rw[hx]
  have hwl:len*Q9<=140737488351232:=by
   have h1:=hw ((elems.length+rest.length)*prog.bytesOf te) (by rw[hx1];simp only[DataW.weights,hts,List.length_map,List.mem_cons,true_or]);rw[hby,hr]at h1;exact Nat.le_trans (Nat.mul_le_mul_right _ (by omega)) h1
  have raw:∀i,i<len->∃t,∃cs',w.cells? ai (a.add (i*sz)) sz=some cs'/\Sz t/\∀c:Nat->Option Value,(∀j,j<sz->c j=cs'[j]?)->E c t:=by
   intro i hi;have h1:=he i hi;rw[List.getElem?_eq_getElem (by omega)]at h1;obtain⟨cs',h2,h3⟩:=Option.bind_eq_some_iff.1 h1;obtain⟨t,ht1,ht2⟩:=hE k cs' _ h3 (λn hn=>hw n (by
    rw[hx1];simp only[DataW.weights,hts,List.mem_cons,List.mem_append];exact bu (aK (r8 (List.mem_map.2 ⟨_,List.getElem_mem (by omega),rfl⟩) hn))))
   exact⟨t,cs',h2,ht1,ht2⟩
  rcases Nat.eq_zero_or_pos len with h0|hp
  ·subst h0;exact⟨[],some a,aA,rfl,⟨_,aA,rfl,by simp,λh=>by simp at h⟩,by simp,by simp,by omega,λt ht=>by cases ht⟩
  ·have hspot:a.spot=none/\a.block<w.heap.size:=by
    obtain⟨t,cs',h2,_⟩:=raw 0 hp;have hb:=World.cells?_block h2 (by omega);have c0:=(World.cells?_some h2).2.2 0 (by omega);obtain⟨b,off,spot⟩:=a;have hs:spot=none:=by
     have hlt:0<cs'.length:=by rw[(World.cells?_some h2).2.1];omega
     rw[List.getElem?_eq_getElem hlt]at c0;simpa [Addr.add]using World.cell?_spot c0
    exact⟨hs,by simpa [Addr.add]using hb⟩
   obtain⟨b,off,spot⟩:=a;obtain⟨hs,hb⟩:=hspot;simp only at hs hb;subst hs;have key:∀i,i<len->∃t,Sz t/\E (λj=>w.cell? ⟨b,off+i*sz+j,none⟩) t:=by
    intro i hi;obtain⟨t,cs',h2,h3,h4⟩:=raw i hi;rw[Go.WideShapes.add_plain]at h2;obtain⟨_,hlen,hcell⟩:=World.cells?_some h2;refine⟨t,h3,h4 _ (λj hj=>?_)⟩;have c0:=hcell j (by omega);rw[Go.WideShapes.add_plain]at c0;exact c0
   obtain⟨l,hll,hls⟩:=RV len (λi t=>Sz t/\E (λj=>w.cell? ⟨b,off+i*sz+j,none⟩) t) key;subst hll;exact⟨l,some ⟨b,off,none⟩,aA,rfl,⟨_,aA,rfl,by omega,λ_=>⟨b,off,rfl,hb,λi t hi=>(hls i t hi).2⟩⟩,hwl,by omega,by omega,λt ht=>by obtain⟨i,hi⟩:=List.mem_iff_getElem?.1 ht;exact(hls i t hi).1⟩
theorem JX{k:Nat}{cs:List Value}{x:DataW H×List MemPlace}(h:DataW.trod enc prog w ai spare held k 2 cs=some x):∃t:Int,True/\∀c:Nat->Option Value,(∀j,j<1->c j=cs[j]?)->c 0=some (.int .i64 t)/\In64 t:=by
 obtain⟨a,e,_,w0⟩:=DataW.trod_int underlying2 h;exact⟨a,trivial,λc hc=>⟨by rw[hc 0 (by omega),e];rfl,in64_of_wf w0⟩⟩
theorem yB{m:Nat}{cs:List Value}{x:DataW H×List MemPlace}(h:DataW.trod enc prog w ai spare held m 23 cs=some x)(hw:∀n,n∈x.1.weights prog 23->n<=reachBytes):
  ∃l A c,cs=[.slice A l.length c]/\SliceAt w w.heap.size 1 (λc x=>c 0=some (.int .i64 x)/\In64 x) l (.slice A l.length c)/\l.length*8<=140737488351232/\l.length<=c/\c<=9223372036854775807/\∀t,t∈l->True:=
 kY underlying23 (by kernel_rfl) (Q9:=8) (by kernel_rfl) (by omega) (by omega) (λc x=>c 0=some (.int .i64 x)/\In64 x) (λt=>True) (λk cs x h hw=>JX h) h hw
theorem MA{k:Nat}{cs:List Value}{x:DataW H×List MemPlace}(h:DataW.trod enc prog w ai spare held k 3 cs=some x):∃t:Int,True/\∀c:Nat->Option Value,(∀j,j<1->c j=cs[j]?)->c 0=some (.int .i64 t)/\In64 t:=by
 obtain⟨a,e,_,w0⟩:=DataW.trod_int underlying3 h;exact⟨a,trivial,λc hc=>⟨by rw[hc 0 (by omega),e];rfl,in64_of_wf w0⟩⟩
theorem JN{m:Nat}{cs:List Value}{x:DataW H×List MemPlace}(h:DataW.trod enc prog w ai spare held m 36 cs=some x)(hw:∀n,n∈x.1.weights prog 36->n<=reachBytes):
  ∃l A c,cs=[.slice A l.length c]/\SliceAt w w.heap.size 1 (λc x=>c 0=some (.int .i64 x)/\In64 x) l (.slice A l.length c)/\l.length*8<=140737488351232/\l.length<=c/\c<=9223372036854775807/\∀t,t∈l->True:=
 kY underlying36 (by kernel_rfl) (Q9:=8) (by kernel_rfl) (by omega) (by omega) (λc x=>c 0=some (.int .i64 x)/\In64 x) (λt=>True) (λk cs x h hw=>MA h) h hw
theorem Mz{k:Nat}{cs:List Value}{x:DataW H×List MemPlace}(h:DataW.trod enc prog w ai spare held k 90 cs=some x)(hw:∀n,n∈x.1.weights prog 90->n<=reachBytes):
  ∃o:kH,EY o/\∀c:Nat->Option Value,(∀j,j<3->c j=cs[j]?)->sG w w.heap.size c o:=by
 obtain⟨xs,m,_,J8,hl,hxs,hf⟩:=DataW.trod_struct underlying90 h;have hc0:prog.cellsOf 3=1:=by kernel_rfl
 have hc1:prog.cellsOf 23=1:=by kernel_rfl
 have f0:DataW.trod enc prog w ai spare held m 3 ((cs.drop 0).take (prog.cellsOf 3))=xs[0]? :=hf 0 _ rfl;rw[hc0]at f0;have f1:DataW.trod enc prog w ai spare held m 3 ((cs.drop 1).take (prog.cellsOf 3))=xs[1]? :=hf 1 _ rfl;rw[hc0]at f1;have f2:DataW.trod enc prog w ai spare held m 23 ((cs.drop 2).take (prog.cellsOf 23))=xs[2]? :=hf 2 _ rfl;rw[hc1]at f2;obtain⟨x0,x1,x2,rfl⟩:∃x0 x1 x2,xs=[x0,x1,x2]:=by
  match xs,hxs with
  |[p,q,r],_=>exact⟨p,q,r,rfl⟩
 have hx1:x.1= .agg [x0.1,x1.1,x2.1]:=by rw[J8];rfl
 have hwt:∀n,n∈x0.1.weights prog 3++x1.1.weights prog 3++x2.1.weights prog 23->n<=reachBytes:=λn hn=>hw n (by
  rw[hx1];simp only[DataW.weights,underlying90,List.map_cons,List.map_nil,DataW.weightsEach,List.append_nil];simpa using hn)
 obtain⟨v0,e0,_,i0⟩:=DataW.trod_int underlying3 f0;have h0:=dK e0 (i:=0) (by simp);obtain⟨v1,e1,_,i1⟩:=DataW.trod_int underlying3 f1;have h1:=dK e1 (i:=0) (by simp);obtain⟨v2,A2,c2,e2,r2,z2,_,_,y2⟩:=yB f2 (λn hn=>hwt n (by simp[hn]));have h2:=dK e2 (i:=0) (by simp);simp at h0 h1 h2;exact⟨⟨v0,v1,v2⟩,z2,λc hc=>⟨by rw[hc 0 (by omega),h0],by rw[hc 1 (by omega),h1],⟨_,by rw[hc 2 (by omega),h2],r2⟩,in64_of_wf i0,in64_of_wf i1⟩⟩
theorem AL{m:Nat}{cs:List Value}{x:DataW H×List MemPlace}(h:DataW.trod enc prog w ai spare held m 28 cs=some x)(hw:∀n,n∈x.1.weights prog 28->n<=reachBytes):
  ∃l A c,cs=[.slice A l.length c]/\SliceAt w w.heap.size 3 (sG w w.heap.size) l (.slice A l.length c)/\l.length*40<=140737488351232/\l.length<=c/\c<=9223372036854775807/\∀t,t∈l->EY t:=
 kY underlying28 (by kernel_rfl) (Q9:=40) (by kernel_rfl) (by omega) (by omega) (sG w w.heap.size) (λt=>EY t) (λk cs x h hw=>Mz h hw) h hw
theorem MS{k:Nat}{cs:List Value}{x:DataW H×List MemPlace}(h:DataW.trod enc prog w ai spare held k 94 cs=some x)(hw:∀n,n∈x.1.weights prog 94->n<=reachBytes):
  ∃o:bg,Iy o/\∀c:Nat->Option Value,(∀j,j<6->c j=cs[j]?)->kI w w.heap.size c o:=by
 obtain⟨xs,m,_,J8,hl,hxs,hf⟩:=DataW.trod_struct underlying94 h;have hc0:prog.cellsOf 3=1:=by kernel_rfl
 have hc1:prog.cellsOf 2=1:=by kernel_rfl
 have hc2:prog.cellsOf 36=1:=by kernel_rfl
 have f0:DataW.trod enc prog w ai spare held m 3 ((cs.drop 0).take (prog.cellsOf 3))=xs[0]? :=hf 0 _ rfl;rw[hc0]at f0;have f1:DataW.trod enc prog w ai spare held m 3 ((cs.drop 1).take (prog.cellsOf 3))=xs[1]? :=hf 1 _ rfl;rw[hc0]at f1;have f2:DataW.trod enc prog w ai spare held m 3 ((cs.drop 2).take (prog.cellsOf 3))=xs[2]? :=hf 2 _ rfl;rw[hc0]at f2;have f3:DataW.trod enc prog w ai spare held m 3 ((cs.drop 3).take (prog.cellsOf 3))=xs[3]? :=hf 3 _ rfl;rw[hc0]at f3;have f4:DataW.trod enc prog w ai spare held m 2 ((cs.drop 4).take (prog.cellsOf 2))=xs[4]? :=hf 4 _ rfl;rw[hc1]at f4;have f5:DataW.trod enc prog w ai spare held m 36 ((cs.drop 5).take (prog.cellsOf 36))=xs[5]? :=hf 5 _ rfl;rw[hc2]at f5
 obtain⟨x0,x1,x2,x3,x4,x5,rfl⟩:∃x0 x1 x2 x3 x4 x5,xs=[x0,x1,x2,x3,x4,x5]:=by
  match xs,hxs with
  |[p,q,r,s,t,u],_=>exact⟨p,q,r,s,t,u,rfl⟩
 have hx1:x.1= .agg [x0.1,x1.1,x2.1,x3.1,x4.1,x5.1]:=by rw[J8];rfl
 have hwt:∀n,n∈x0.1.weights prog 3++x1.1.weights prog 3++x2.1.weights prog 3++x3.1.weights prog 3++x4.1.weights prog 2++x5.1.weights prog 36->n<=reachBytes:=λn hn=>hw n (by
  rw[hx1];simp only[DataW.weights,underlying94,List.map_cons,List.map_nil,DataW.weightsEach,List.append_nil];simpa using hn)
 obtain⟨v0,e0,_,i0⟩:=DataW.trod_int underlying3 f0;have h0:=dK e0 (i:=0) (by simp);obtain⟨v1,e1,_,i1⟩:=DataW.trod_int underlying3 f1;have h1:=dK e1 (i:=0) (by simp);obtain⟨v2,e2,_,i2⟩:=DataW.trod_int underlying3 f2;have h2:=dK e2 (i:=0) (by simp);obtain⟨v3,e3,_,i3⟩:=DataW.trod_int underlying3 f3;have h3:=dK e3 (i:=0) (by simp);obtain⟨v4,e4,_,i4⟩:=DataW.trod_int underlying2 f4;have h4:=dK e4 (i:=0) (by simp);obtain⟨v5,A5,c5,e5,r5,z5,_,_,y5⟩:=JN f5 (λn hn=>hwt n (by simp[hn]));have h5:=dK e5 (i:=0) (by simp);simp at h0 h1 h2 h3 h4 h5
 exact⟨⟨v0,v1,v2,v3,v4,v5⟩,z5,λc hc=>⟨by rw[hc 0 (by omega),h0],by rw[hc 1 (by omega),h1],by rw[hc 2 (by omega),h2],by rw[hc 3 (by omega),h3],by rw[hc 4 (by omega),h4],⟨_,by rw[hc 5 (by omega),h5],r5⟩,in64_of_wf i0,in64_of_wf i1,in64_of_wf i2,in64_of_wf i3,in64_of_wf i4⟩⟩
theorem J2{m:Nat}{cs:List Value}{x:DataW H×List MemPlace}(h:DataW.trod enc prog w ai spare held m 52 cs=some x)(hw:∀n,n∈x.1.weights prog 52->n<=reachBytes):
  ∃l A c,cs=[.slice A l.length c]/\SliceAt w w.heap.size 6 (kI w w.heap.size) l (.slice A l.length c)/\l.length*64<=140737488351232/\l.length<=c/\c<=9223372036854775807/\∀t,t∈l->Iy t:=
 kY underlying52 (by kernel_rfl) (Q9:=64) (by kernel_rfl) (by omega) (by omega) (kI w w.heap.size) (λt=>Iy t) (λk cs x h hw=>MS h hw) h hw
theorem KG{k:Nat}{cs:List Value}{x:DataW H×List MemPlace}(h:DataW.trod enc prog w ai spare held k 54 cs=some x)(hw:∀n,n∈x.1.weights prog 54->n<=reachBytes):
  ∃o:aR,D9 o/\∀c:Nat->Option Value,(∀j,j<4->c j=cs[j]?)->fT w w.heap.size c o:=by
 obtain⟨xs,m,_,J8,hl,hxs,hf⟩:=DataW.trod_struct underlying54 h;have hc0:prog.cellsOf 3=1:=by kernel_rfl
 have hc1:prog.cellsOf 28=1:=by kernel_rfl
 have hc2:prog.cellsOf 52=1:=by kernel_rfl
 have f0:DataW.trod enc prog w ai spare held m 3 ((cs.drop 0).take (prog.cellsOf 3))=xs[0]? :=hf 0 _ rfl;rw[hc0]at f0;have f1:DataW.trod enc prog w ai spare held m 3 ((cs.drop 1).take (prog.cellsOf 3))=xs[1]? :=hf 1 _ rfl;rw[hc0]at f1;have f2:DataW.trod enc prog w ai spare held m 28 ((cs.drop 2).take (prog.cellsOf 28))=xs[2]? :=hf 2 _ rfl;rw[hc1]at f2;have f3:DataW.trod enc prog w ai spare held m 52 ((cs.drop 3).take (prog.cellsOf 52))=xs[3]? :=hf 3 _ rfl;rw[hc2]at f3;obtain⟨x0,x1,x2,x3,rfl⟩:∃x0 x1 x2 x3,xs=[x0,x1,x2,x3]:=by
  match xs,hxs with
  |[p,q,r,s],_=>exact⟨p,q,r,s,rfl⟩
 have hx1:x.1= .agg [x0.1,x1.1,x2.1,x3.1]:=by rw[J8];rfl
 have hwt:∀n,n∈x0.1.weights prog 3++x1.1.weights prog 3++x2.1.weights prog 28++x3.1.weights prog 52->n<=reachBytes:=λn hn=>hw n (by
  rw[hx1];simp only[DataW.weights,underlying54,List.map_cons,List.map_nil,DataW.weightsEach,List.append_nil];simpa using hn)
 obtain⟨v0,e0,_,i0⟩:=DataW.trod_int underlying3 f0;have h0:=dK e0 (i:=0) (by simp);obtain⟨v1,e1,_,i1⟩:=DataW.trod_int underlying3 f1;have h1:=dK e1 (i:=0) (by simp);obtain⟨v2,A2,c2,e2,r2,z2,_,_,y2⟩:=AL f2 (λn hn=>hwt n (by simp[hn]));have h2:=dK e2 (i:=0) (by simp);obtain⟨v3,A3,c3,e3,r3,z3,_,_,y3⟩:=J2 f3 (λn hn=>hwt n (by simp[hn]));have h3:=dK e3 (i:=0) (by simp);simp at h0 h1 h2 h3;exact⟨⟨v0,v1,v2,v3⟩,⟨z2,y2,z3,y3⟩,λc hc=>⟨by rw[hc 0 (by omega),h0],by rw[hc 1 (by omega),h1],⟨_,by rw[hc 2 (by omega),h2],r2⟩,⟨_,by rw[hc 3 (by omega),h3],r3⟩,in64_of_wf i0,in64_of_wf i1⟩⟩
theorem Hf{m:Nat}{cs:List Value}{x:DataW H×List MemPlace}(h:DataW.trod enc prog w ai spare held m 29 cs=some x)(hw:∀n,n∈x.1.weights prog 29->n<=reachBytes):
  ∃l A c,cs=[.slice A l.length c]/\SliceAt w w.heap.size 4 (fT w w.heap.size) l (.slice A l.length c)/\l.length*64<=140737488351232/\l.length<=c/\c<=9223372036854775807/\∀t,t∈l->D9 t:=
 kY underlying29 (by kernel_rfl) (Q9:=64) (by kernel_rfl) (by omega) (by omega) (fT w w.heap.size) (λt=>D9 t) (λk cs x h hw=>KG h hw) h hw
theorem I9{k:Nat}{cs:List Value}{x:DataW H×List MemPlace}(h:DataW.trod enc prog w ai spare held k 31 cs=some x)(hw:∀n,n∈x.1.weights prog 31->n<=reachBytes):
  ∃o:bB,yU o/\∀c:Nat->Option Value,(∀j,j<3->c j=cs[j]?)->mQ w w.heap.size c o:=by
 obtain⟨xs,m,_,J8,hl,hxs,hf⟩:=DataW.trod_struct underlying31 h;have hc0:prog.cellsOf 28=1:=by kernel_rfl
 have hc1:prog.cellsOf 29=1:=by kernel_rfl
 have hc2:prog.cellsOf 3=1:=by kernel_rfl
 have f0:DataW.trod enc prog w ai spare held m 28 ((cs.drop 0).take (prog.cellsOf 28))=xs[0]? :=hf 0 _ rfl;rw[hc0]at f0;have f1:DataW.trod enc prog w ai spare held m 29 ((cs.drop 1).take (prog.cellsOf 29))=xs[1]? :=hf 1 _ rfl;rw[hc1]at f1;have f2:DataW.trod enc prog w ai spare held m 3 ((cs.drop 2).take (prog.cellsOf 3))=xs[2]? :=hf 2 _ rfl;rw[hc2]at f2;obtain⟨x0,x1,x2,rfl⟩:∃x0 x1 x2,xs=[x0,x1,x2]:=by
  match xs,hxs with
  |[p,q,r],_=>exact⟨p,q,r,rfl⟩
 have hx1:x.1= .agg [x0.1,x1.1,x2.1]:=by rw[J8];rfl
 have hwt:∀n,n∈x0.1.weights prog 28++x1.1.weights prog 29++x2.1.weights prog 3->n<=reachBytes:=λn hn=>hw n (by
  rw[hx1];simp only[DataW.weights,underlying31,List.map_cons,List.map_nil,DataW.weightsEach,List.append_nil];simpa using hn)
 obtain⟨v0,A0,c0,e0,r0,z0,_,_,y0⟩:=AL f0 (λn hn=>hwt n (by simp[hn]));have h0:=dK e0 (i:=0) (by simp);obtain⟨v1,A1,c1,e1,r1,z1,_,_,y1⟩:=Hf f1 (λn hn=>hwt n (by simp[hn]));have h1:=dK e1 (i:=0) (by simp);obtain⟨v2,e2,_,i2⟩:=DataW.trod_int underlying3 f2;have h2:=dK e2 (i:=0) (by simp);simp at h0 h1 h2;exact⟨⟨v0,v1,v2⟩,⟨z0,y0,z1,y1⟩,λc hc=>⟨⟨_,by rw[hc 0 (by omega),h0],r0⟩,⟨_,by rw[hc 1 (by omega),h1],r1⟩,by rw[hc 2 (by omega),h2],in64_of_wf i2⟩⟩
theorem Fz{m:Nat}{cs:List Value}{x:DataW H×List MemPlace}(h:DataW.trod enc prog w ai spare held m 22 cs=some x)(hw:∀n,n∈x.1.weights prog 22->n<=reachBytes):
  ∃l A c,cs=[.slice A l.length c]/\SliceAt w w.heap.size 3 (mQ w w.heap.size) l (.slice A l.length c)/\l.length*56<=140737488351232/\l.length<=c/\c<=9223372036854775807/\∀t,t∈l->yU t:=
 kY underlying22 (by kernel_rfl) (Q9:=56) (by kernel_rfl) (by omega) (by omega) (mQ w w.heap.size) (λt=>yU t) (λk cs x h hw=>I9 h hw) h hw
theorem Ip{k:Nat}{cs:List Value}{x:DataW H×List MemPlace}(h:DataW.trod enc prog w ai spare held k 25 cs=some x)(hw:∀n,n∈x.1.weights prog 25->n<=reachBytes):
  ∃(ps:List bB)(inp:List Int)(PA IA:Option Addr)(pc ic:Nat)(fu:Int),cs=[.slice PA ps.length pc,.slice IA inp.length ic,.int .i64 fu]/\SliceAt w w.heap.size 3 (mQ w w.heap.size) ps (.slice PA ps.length pc)/\ps.length*56<=140737488351232/\inp.length*8<=140737488351232/\(∀t,t∈ps->yU t)/\inp.length<=ic/\ic<=9223372036854775807/\aD w w.heap.size inp (.slice IA inp.length ic)/\In64 fu:=by
 obtain⟨xs,m,_,J8,hl,hxs,hf⟩:=DataW.trod_struct underlying25 h;have hc0:prog.cellsOf 22=1:=by kernel_rfl
 have hc1:prog.cellsOf 23=1:=by kernel_rfl
 have hc2:prog.cellsOf 3=1:=by kernel_rfl
 have f0:DataW.trod enc prog w ai spare held m 22 ((cs.drop 0).take (prog.cellsOf 22))=xs[0]? :=hf 0 _ rfl;rw[hc0]at f0;have f1:DataW.trod enc prog w ai spare held m 23 ((cs.drop 1).take (prog.cellsOf 23))=xs[1]? :=hf 1 _ rfl;rw[hc1]at f1;have f2:DataW.trod enc prog w ai spare held m 3 ((cs.drop 2).take (prog.cellsOf 3))=xs[2]? :=hf 2 _ rfl;rw[hc2]at f2;obtain⟨x0,x1,x2,rfl⟩:∃x0 x1 x2,xs=[x0,x1,x2]:=by
  match xs,hxs with
  |[a,b,c],_=>exact⟨a,b,c,rfl⟩
 have hx1:x.1= .agg [x0.1,x1.1,x2.1]:=by rw[J8];rfl
 have hwt:∀n,n∈x0.1.weights prog 22++x1.1.weights prog 23++x2.1.weights prog 3->n<=reachBytes:=λn hn=>hw n (by
  rw[hx1];simp only[DataW.weights,underlying25,List.map_cons,List.map_nil,DataW.weightsEach,List.append_nil];simpa using hn)
 obtain⟨v0,A0,c0,e0,s0,l0,q0,q0',z0⟩:=Fz f0 (λn hn=>hwt n (by simp[hn]));obtain⟨v1,A1,c1,e1,s1,l1,q1,q1',z1⟩:=yB f1 (λn hn=>hwt n (by simp[hn]));obtain⟨v2,e2,_,w2⟩:=DataW.trod_int underlying3 f2;have hce:prog.cellsOf 25=3:=by kernel_rfl
 rw[hce]at hl;exact⟨v0,v1,A0,A1,c0,c1,v2,XO hl e0 e1 e2,s0,l0,l1,z0,q1,q1',s1,in64_of_wf w2⟩
end
theorem Iq{H:Type}{enc:TypeId×Value->H}{w:World}{v:Value}{d:DataW H}{ps:List MemPlace}{cs:Array Value}(hv:v= .agg cs)(h:DataW.Trod enc prog w 0 (λ_=>true) true 25 v d ps)
  (hsz:(DataW.weightsEach prog [25] [d]).all (·<=reachBytes)=true):
  ∃(ps:List bB)(inp:List Int)(PA IA:Option Addr)(pc ic:Nat)(fu:Int),v= .agg #[.slice PA ps.length pc,.slice IA inp.length ic,.int .i64 fu]/\SliceAt w w.heap.size 3 (mQ w w.heap.size) ps (.slice PA ps.length pc)/\ps.length*56<=140737488351232/\inp.length*8<=140737488351232/\(∀t,t∈ps->yU t)/\inp.length<=ic/\ic<=9223372036854775807/\aD w w.heap.size inp (.slice IA inp.length ic)/\In64 fu:=by
 subst hv;obtain⟨m,h⟩:=h;obtain⟨ps',inp,PA,IA,pc,ic,fu,e,rest⟩:=Ip h (λn hn=>by
  have:=List.all_eq_true.1 hsz n (DataW.weights_mem_each (j:=0) rfl rfl n hn);simpa using this)
 refine⟨ps',inp,PA,IA,pc,ic,fu,?_,rest⟩;have e':cs.toList=[.slice PA ps'.length pc,.slice IA inp.length ic,.int .i64 fu]:=by simpa [Value.cells]using e
 rw[<-Array.toArray_toList (xs:=cs),e']
end Go.Proofs.YtinmgbodgecoeaaGreat
