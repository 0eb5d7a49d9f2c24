/- The graph's asker: a function. Conditions: as stated. -/
import Derived.Test.YtikbdplllopjlaaGreatQ12Zz
set_option linter.unusedVariables false
set_option linter.unusedSimpArgs false
set_option maxHeartbeats 8000000
set_option maxRecDepth 100000
open Go.Proofs.Tryz
namespace Go.Proofs.YtikbdplllopjlaaGreat
open Go.RowKit
def eK(p:aM)(g:aP):List cM->Int->Bool×Int
 |[],n=>(true,n)
 |x::l,n=>if(cR p g n x).1=true then eK p g l (cR p g n x).2 else(false,(cR p g n x).2)
def dL(p:aM)(g:aP):List bW->Int->Int->Bool×Int
 |[],_,n=>(true,n)
 |b::l,s,n=>if(eK p g b.steps n).1=true then(if s+b.steps.length>2000 then(false,(eK p g b.steps n).2)else if(dI p g (eK p g b.steps n).2 b).1=true then dL p g l (s+b.steps.length) (dI p g (eK p g b.steps n).2 b).2 else(false,(dI p g (eK p g b.steps n).2 b).2))else(false,(eK p g b.steps n).2)
def yJ(g:aP):Prop:=¬g.params<0/\¬g.params>4/\¬g.params>g.ay/\¬g.ay>1000/\eV g.az 24=true/\¬(g.blocks.length:Int)<1/\¬(g.blocks.length:Int)>1000
instance(g:aP):Decidable (yJ g):=by unfold yJ;exact inferInstance
def mE(p:aM)(g:aP):Bool:=if yJ g then(dL p g g.blocks 0 0).1 else false
theorem Bj{na nb nc:Int}:∀(l:List T){n:Int},(bB na nb nc l n).1=true->0<=n->n<=8000->0<=(bB na nb nc l n).2/\(bB na nb nc l n).2<=8000
 |[],n,_,h0,h1=>⟨h0,h1⟩
 |k::ks,n,h,h0,h1=>by
  rw[bB]at h ⊢;by_cases hk:(bS na nb nc n k).1=true
  ·rw[if_pos hk]at h ⊢;have hb:=iW hk h0;exact Bj ks h hb.1 hb.2
  ·rw[if_neg hk]at h;cases h
theorem LC{p:aM}{g:aP}{n:Int}{x:cM}(h:(cR p g n x).1=true)(h0:0<=n)(h1:n<=8000):0<=(cR p g n x).2/\(cR p g n x).2<=8000:=by
 unfold cR at h ⊢;split
 ·exact⟨h0,h1⟩
 ·rename_i hc;rw[if_neg hc]at h;split
  ·exact⟨h0,h1⟩
  ·rename_i hd;rw[if_neg hd]at h;exact Bj _ h h0 h1
theorem OV{p:aM}{g:aP}{n:Int}{b:bW}(h:(dI p g n b).1=true)(h0:0<=n)(h1:n<=8000):0<=(dI p g n b).2/\(dI p g n b).2<=8000:=by
 unfold dI at h ⊢;split
 ·rename_i f1;rw[if_pos f1]at h;split<;>exact⟨h0,h1⟩
 ·rename_i f1;rw[if_neg f1]at h;split
  ·rename_i f2;rw[if_pos f2]at h;split
   ·rename_i f3;rw[if_pos f3]at h;exact iW h h0
   ·exact⟨h0,h1⟩
  ·rename_i f2;rw[if_neg f2]at h;split
   ·rename_i f3;rw[if_pos f3]at h;split
    ·rename_i f4;rw[if_pos f4]at h;exact iW h h0
    ·exact⟨h0,h1⟩
   ·exact⟨h0,h1⟩
theorem Cv{p:aM}{g:aP}{b:bW}{l:List bW}{s n m:Int}(h:eK p g b.steps n=(true,m)):dL p g (b::l) s n=if s+b.steps.length>2000 then(false,m)else if(dI p g m b).1=true then dL p g l (s+b.steps.length) (dI p g m b).2 else(false,(dI p g m b).2):=by
 rw[dL,h];simp only[if_true]
theorem RA(a:oM)(ab:Nat)(p:aM)(g:aP)(B:Nat)(w:World)(hB:B<=w.heap.size)(hab:B<=ab)(ha:BK w B a p g)(hap:a.params=g.params)(hL:aL w B 3 (rf w B) g.az (.slice a.la a.nl a.lc))(hK:aL w B 7 (dX w B) g.blocks (.slice a.ba a.nb a.bc))(hr:ry w ab a 0)(Fk:∀b,b∈g.blocks->b.steps.length<=200000000000000):
  Calls prog 39 #[.pointer (some ⟨ab,0,none⟩)] w λe w'=>e= .returned (.bool (mE p g))/\Wr (λk=>k=ab) w w':=by
 have HO:=ae (λW(hW:Below w.heap.size w W)=>CZ g.az a.la a.nl a.lc 24 B W (by have:=hW.size;omega) (hL.below (hW.mono hB) (aN _) (λ_ _ h=>h.below (hW.mono hB) (aN _))));have HR:=ae hr;have HA:=ae ha;have HK:=ae hK;have Za:=ae Fk;have N2:=Row.lt hr;have Q7:ab<w.heap.size+1:=by omega
 have hnbl:=hK.len.2;have hbl:=ha.nb;have htp:=ha.ay;have r3:w.cell? ⟨ab,3,none⟩=some (.int .i64 a.params):=Row.cell hr rfl;have r4:w.cell? ⟨ab,4,none⟩=some (.int .i64 a.ay):=Row.cell hr rfl;have r5:w.cell? ⟨ab,5,none⟩=some (.slice a.la a.nl a.lc):=Row.cell hr rfl;have r6:w.cell? ⟨ab,6,none⟩=some (.slice a.ba a.nb a.bc):=Row.cell hr rfl;have Eo:=ae (Row.new w #[.int .i64 a.params,.int .i64 a.ay,.slice a.la a.nl a.lc,.slice a.ba a.nb a.bc] 54);have TD:yJ g↔(¬a.params<0/\¬a.params>4/\¬a.params>a.ay/\¬a.ay>1000/\eV g.az 24=true/\¬(a.nb:Int)<1/\¬(a.nb:Int)>1000):=by unfold yJ;rw[hap,htp,hbl]
 have zL:=ae TD;have hnbg:g.blocks.length<=9223372036854775807:=by omega
 clear hL hK hr ha Fk TD hap hbl htp;by_cases c1:a.params<0
 ·have d1:decide (a.params<0)=true:=by simpa using c1
  have HE:=ae (show mE p g=false from by unfold mE;rw[if_neg (λh=>absurd c1 (zL.1 h).1)]);clear c1;go_enter func39,ntmps39;refine ak λQ HQ=>?_;go_wp2_with fail;refine HQ _ _ _ ?_;exact aR (v:= .bool false) (by simp[results,results39,go_sem]) rfl ⟨by rw[HE.out],Wr.of_below (aj _ _)⟩
 ·have d1:decide (a.params<0)=false:=by simpa using c1
  by_cases c2:a.params>4
  ·have d2:decide (4<a.params)=true:=by simpa using c2
   have HE:=ae (show mE p g=false from by unfold mE;rw[if_neg (λh=>absurd c2 (zL.1 h).2.1)]);clear c1 c2;go_enter func39,ntmps39;refine ak λQ HQ=>?_;go_wp2_with fail;refine HQ _ _ _ ?_;exact aR (v:= .bool false) (by simp[results,results39,go_sem]) rfl ⟨by rw[HE.out],Wr.of_below (aj _ _)⟩
  ·have d2:decide (4<a.params)=false:=by simpa using c2
   by_cases c3:a.params>a.ay
   ·have d3:decide (a.ay<a.params)=true:=by simpa using c3
    have HE:=ae (show mE p g=false from by unfold mE;rw[if_neg (λh=>absurd c3 (zL.1 h).2.2.1)]);clear c1 c2 c3;go_enter func39,ntmps39;refine ak λQ HQ=>?_;go_wp2_with fail;refine HQ _ _ _ ?_;exact aR (v:= .bool false) (by simp[results,results39,go_sem]) rfl ⟨by rw[HE.out],Wr.of_below (aj _ _)⟩
   ·have d3:decide (a.ay<a.params)=false:=by simpa using c3
    by_cases c4:a.ay>1000
    ·have d4:decide (1000<a.ay)=true:=by simpa using c4
     have HE:=ae (show mE p g=false from by unfold mE;rw[if_neg (λh=>absurd c4 (zL.1 h).2.2.2.1)]);clear c1 c2 c3 c4;go_enter func39,ntmps39;refine ak λQ HQ=>?_;go_wp2_with fail;refine HQ _ _ _ ?_;exact aR (v:= .bool false) (by simp[results,results39,go_sem]) rfl ⟨by rw[HE.out],Wr.of_below (aj _ _)⟩
    ·have d4:decide (1000<a.ay)=false:=by simpa using c4
     cases c5:eV g.az 24 with
     |false=>
      rw[c5]at HO;have HE:=ae (show mE p g=false from by unfold mE;rw[if_neg (λh=>absurd (zL.1 h).2.2.2.2.1 (by rw[c5];decide))]);clear c1 c2 c3 c4 c5;go_enter func39,ntmps39;refine ak λQ HQ=>?_;go_wp2_with fail;refine(HO _ (aj w _)).mono ?_;rintro e w1 ⟨rfl,hb1⟩;have bn:=ae ((aj w (.cells #[.int .i64 a.params,.int .i64 a.ay,.slice a.la a.nl a.lc,.slice a.ba a.nb a.bc] 54)).trans (hb1.mono (aj w (.cells #[.int .i64 a.params,.int .i64 a.ay,.slice a.la a.nl a.lc,.slice a.ba a.nb a.bc] 54)).size));have hg1:=Eo.below hb1 Eo.lt;have Ko:=ae hg1;have g0:=hg1.cell (j:=0) rfl;have g1:=hg1.cell (j:=1) rfl;have g2:=hg1.cell (j:=2) rfl;have g3:=hg1.cell (j:=3) rfl;have gl:=hg1.lt;clear hb1 hg1;go_wp2_with fail;refine HQ _ _ _ ?_
      exact aR (v:= .bool false) (by simp[results,results39,go_sem]) rfl ⟨by rw[HE.out],Wr.of_below bn.out⟩
     |true=>
      rw[c5]at HO;by_cases c6:(a.nb:Int)<1
      ·have d6:decide ((a.nb:Int)<1)=true:=by simpa using c6
       have HE:=ae (show mE p g=false from by unfold mE;rw[if_neg (λh=>absurd c6 (zL.1 h).2.2.2.2.2.1)]);clear c1 c2 c3 c4 c5 c6;go_enter func39,ntmps39;refine ak λQ HQ=>?_;go_wp2_with fail;refine(HO _ (aj w _)).mono ?_;rintro e w1 ⟨rfl,hb1⟩;have bn:=ae ((aj w (.cells #[.int .i64 a.params,.int .i64 a.ay,.slice a.la a.nl a.lc,.slice a.ba a.nb a.bc] 54)).trans (hb1.mono (aj w (.cells #[.int .i64 a.params,.int .i64 a.ay,.slice a.la a.nl a.lc,.slice a.ba a.nb a.bc] 54)).size));have hg1:=Eo.below hb1 Eo.lt;have Ko:=ae hg1;have g0:=hg1.cell (j:=0) rfl;have g1:=hg1.cell (j:=1) rfl;have g2:=hg1.cell (j:=2) rfl;have g3:=hg1.cell (j:=3) rfl;have gl:=hg1.lt;clear hb1 hg1;go_wp2_with fail;refine HQ _ _ _ ?_
       exact aR (v:= .bool false) (by simp[results,results39,go_sem]) rfl ⟨by rw[HE.out],Wr.of_below bn.out⟩
      ·have d6:decide ((a.nb:Int)<1)=false:=by simpa using c6
       by_cases c7:(a.nb:Int)>1000
       ·have d7:decide (1000<(a.nb:Int))=true:=by simpa using c7
        have HE:=ae (show mE p g=false from by unfold mE;rw[if_neg (λh=>absurd c7 (zL.1 h).2.2.2.2.2.2)]);clear c1 c2 c3 c4 c5 c6 c7;go_enter func39,ntmps39;refine ak λQ HQ=>?_;go_wp2_with fail;refine(HO _ (aj w _)).mono ?_;rintro e w1 ⟨rfl,hb1⟩;have bn:=ae ((aj w (.cells #[.int .i64 a.params,.int .i64 a.ay,.slice a.la a.nl a.lc,.slice a.ba a.nb a.bc] 54)).trans (hb1.mono (aj w (.cells #[.int .i64 a.params,.int .i64 a.ay,.slice a.la a.nl a.lc,.slice a.ba a.nb a.bc] 54)).size));have hg1:=Eo.below hb1 Eo.lt;have Ko:=ae hg1;have g0:=hg1.cell (j:=0) rfl;have g1:=hg1.cell (j:=1) rfl;have g2:=hg1.cell (j:=2) rfl;have g3:=hg1.cell (j:=3) rfl;have gl:=hg1.lt;clear hb1 hg1;go_wp2_with fail;refine HQ _ _ _ ?_
        exact aR (v:= .bool false) (by simp[results,results39,go_sem]) rfl ⟨by rw[HE.out],Wr.of_below bn.out⟩
       ·have d7:decide (1000<(a.nb:Int))=false:=by simpa using c7
        have HE:=ae (show mE p g=(dL p g g.blocks 0 0).1 from by unfold mE;rw[if_pos (zL.2 ⟨c1,c2,c3,c4,c5,c6,c7⟩)]);rw[HE.out];clear c1 c2 c3 c4 c5 c6;go_enter func39,ntmps39;refine ak λQ HQ=>?_;go_wp2_with fail;refine(HO _ (aj w _)).mono ?_;rintro e w1 ⟨rfl,hb1⟩;have bn:=ae ((aj w (.cells #[.int .i64 a.params,.int .i64 a.ay,.slice a.la a.nl a.lc,.slice a.ba a.nb a.bc] 54)).trans (hb1.mono (aj w (.cells #[.int .i64 a.params,.int .i64 a.ay,.slice a.la a.nl a.lc,.slice a.ba a.nb a.bc] 54)).size));have hg1:=Eo.below hb1 Eo.lt;have Ko:=ae hg1;have g0:=hg1.cell (j:=0) rfl;have g1:=hg1.cell (j:=1) rfl;have g2:=hg1.cell (j:=2) rfl;have g3:=hg1.cell (j:=3) rfl;have gl:=hg1.lt;clear hb1 hg1;go_wp2_with fail
        go_loopw [4,54] (λs i wr=>∃(k:Nat)(s' m:Int),s= .int .i64 s'/\i= .int .i64 k/\k<=a.nb/\0<=s'/\s'<=2000/\0<=m/\m<=8000/\dL p g (g.blocks.drop k) s' m=dL p g g.blocks 0 0/\ry wr ab a m/\Wr (λk=>k=ab) w wr) (λ_ i _=>a.nb-(intOf i).toNat)
        case atStart=>exact⟨0,0,0,rfl,rfl,by omega,by omega,by omega,by omega,by omega,rfl,HR.below bn.out,Wr.of_below bn.out⟩
        case round=>
         obtain⟨k,s,m,rfl,rfl,hk,hs0,hs1,mX,mr,hcs,sK,hwr⟩:=hrel;have gV:=ae hcs;have mK:=ae hwr;have MJ:=ae sK;have fV:=hwr.size;have iV:Below B w wr:=hwr.below hB (λk hk=>by omega);have cV:=ae iV;clear hcs g0 g1 g2 g3 gl;by_cases hlt:k<a.nb
         ·obtain⟨bb,zW,b,Cm,qX,df,⟨sv,b0,rR⟩,b1,⟨cv0,cv1,cv2,b2,b3,b4,lW⟩,b5,b6,_,_,_⟩:=(HK.below iV (aN _) (λ_ _ h=>h.below iV (aN _))).get hlt;simp only[Nat.add_zero]at b0 b1 b2 b3 b4 b5 b6;obtain⟨SA,sl,sc,NZ,Q3⟩:∃SA sl sc,sv= .slice SA sl sc/\b.steps.length=sl:=(by obtain⟨A',c',h,_⟩:=rR;exact⟨_,_,_,h,rfl⟩)
          subst NZ;obtain⟨ca,cb,CA,cl,cc,rfl,rfl,rfl⟩:=lW.eH;have Fk:sl<=200000000000000:=by have:=Za.out b (List.mem_of_getElem? df);omega
          have HSV:=ae rR;have vG:=ae lW;have dR:=ae df;have Y9:=ae Q3;have hkb:(k:Int)<(a.nb:Int):=by omega
          have Ro:bb<wr.heap.size:=by omega
          have IK:ab<wr.heap.size:=Row.lt sK;rw[Cm];clear rR lW df iV sK hwr Q3;go_wp2_with fail;obtain⟨w4,rfl⟩:∃w4:World,w4=wr:=⟨_,rfl⟩
          go_loopw [66] (λi w5=>∃(j:Nat)(m2:Int),i= .int .i64 j/\j<=sl/\0<=m2/\m2<=8000/\eK p g (b.steps.drop j) m2=eK p g b.steps m/\ry w5 ab a m2/\Wr (λk=>k=ab) w w5/\Row w5 w4.heap.size #[.slice SA sl sc,.int .i64 b.fin,.int .i64 ca,.int .i64 cb,.slice CA cl cc,.int .i64 b.next,.int .i64 b.els] 93/\Below B w4 w5) (λi _=>sl-(intOf i).toNat)
          case atStart=>exact⟨0,m,rfl,by omega,mX,mr,rfl,MJ.alloc _,mK.trans (di (aj w4 _)) (λ_ h=>h.elim),Row.new w4 _ _,(aj w4 _).mono (by omega)⟩
          case round=>
           obtain⟨j,m2,rfl,hj,Oi,Oh,Ox,N1,NX,i9,QX⟩:=hrel;have Gw:=ae Ox;have Pu:=ae NX;have HRM2:=ae N1;have xX:=ae i9;have QS:=NX.size;have Wo:=i9.lt;have zS:Below B w wr:=NX.below hB (λk hk=>by omega);have yZ:=ae zS;have U7:Below B w4 wr:=QX;have dh:=ae U7;clear Ox b0 b1 b2 b3 b4 b5 b6;by_cases mA:j<sl
           ·obtain⟨xb,Ks,x,rfl,Z3,Ig,x0,x1,x2,x3,⟨xv,x4,hxt⟩,_,_,_,hfn⟩:=(HSV.below U7 (aN _) (λ_ _ h=>h.below U7 (aN _))).get mA;obtain⟨XA,xn,xc,rfl,Ld⟩:=hxt;simp only[Nat.add_zero]at x0 x1 x2 x3 x4;have MF:=ae Ig;have HST:=ae (IP a ab m2 p g x XA xn xc B (wr.alloc (.cells #[.int .i64 x.op,.int .i64 x.to,.int .i64 x.size,.int .i64 x.fn,.slice XA xn xc] 96)) (by simp;omega) hab (HA.below (zS.trans ((aj wr _).mono (by omega)))) (N1.below (aj wr _)) Oi Oh (Ld.below ((aj wr _).mono (by omega)) (aN _)) hfn);simp only[fE]at HST;have EA:(j:Int)<(sl:Int):=by omega
            have NV:xb<wr.heap.size:=by omega
            skip
            clear Ig Ld hfn N1 NX i9 zS;cases hg1:(cR p g m2 x).1 with
            |true=>
             have Zu:=ae hg1;have dO:=LC hg1 Oi Oh;rw[hg1]at HST;clear hg1;go_wp2_with fail;refine HST.mono ?_;rintro e w9 ⟨rfl,Lh,Ff⟩;have SR:=ae Lh;have Ei:=ae ((Wr.of_below (F:=λk=>k=ab) (aj wr (.cells #[.int .i64 x.op,.int .i64 x.to,.int .i64 x.size,.int .i64 x.fn,.slice XA xn xc] 96))).trans Ff (λ_ h=>aH h));clear Lh Ff;go_wp2_with fail;go_roundw
             case rel=>exact⟨j+1,(cR p g m2 x).2,by go_num,by omega,dO.1,dO.2,by have h9:=Gw.out;rw[b8 MF.out,eK,if_pos Zu.out]at h9;exact h9,SR.out,Pu.trans Ei (λ_ h=>aH h),xX.wr Ei (λh=>by omega),dh.trans (Ei.below (by omega) (λk hk=>by omega))⟩
             case measure=>simp[intOf];omega
            |false=>
             have Zu:=ae hg1;rw[hg1]at HST;clear hg1;go_wp2_with fail;refine HST.mono ?_;rintro e w9 ⟨rfl,Lh,Ff⟩;have Ei:=ae ((Wr.of_below (F:=λk=>k=ab) (aj wr (.cells #[.int .i64 x.op,.int .i64 x.to,.int .i64 x.size,.int .i64 x.fn,.slice XA xn xc] 96))).trans Ff (λ_ h=>aH h));clear Lh Ff;go_wp2_with fail;have h8:eK p g b.steps m=(false,(cR p g m2 x).2):=by rw[<-Gw.out,b8 MF.out,eK,if_neg (by rw[Zu.out];simp)]
             have h9:(dL p g g.blocks 0 0).1=false:=by rw[<-gV.out,b8 dR.out,dL,h8];simp
             have H9:=ae h9;clear h8 h9;refine HQ _ _ _ ?_;exact aR (v:= .bool false) (by simp[results,results39,go_sem]) rfl ⟨by rw[H9.out],Pu.trans Ei (λ_ h=>aH h)⟩
           ·obtain rfl:j=sl:=by omega
            have h8:eK p g b.steps m=(true,m2):=by rw[<-Gw.out,bD (by have:=Y9.out;omega),eK]
            have h7:dL p g g.blocks 0 0=if s+b.steps.length>2000 then(false,m2)else if(dI p g m2 b).1=true then dL p g (g.blocks.drop (k+1)) (s+b.steps.length) (dI p g m2 b).2 else(false,(dI p g m2 b).2):=by rw[<-gV.out,b8 dR.out,Cv h8]
            rw[Y9.out]at h7;have H7:=ae h7;have Zy:=ae (OU a ab m2 p g b (.slice SA j sc) CA cl cc ca cb B wr (by omega) hab (HA.below zS) N1 Oi Oh ⟨_,_,_,rfl⟩ (vG.below dh (aN _)) hnbg);simp only[fE]at Zy;have y0:=i9.cell (j:=0) rfl;have y1:=i9.cell (j:=1) rfl;have y2:=i9.cell (j:=2) rfl;have y3:=i9.cell (j:=3) rfl;have y4:=i9.cell (j:=4) rfl;have y5:=i9.cell (j:=5) rfl;have y6:=i9.cell (j:=6) rfl;clear h8 h7 N1 NX i9 zS;by_cases c8:s+(j:Int)>2000
            ·have d8:decide (2000<s+(j:Int))=true:=by simpa using c8
             have H9:=ae (show(dL p g g.blocks 0 0).1=false by rw[H7.out,if_pos c8]);clear c8;go_wp2_with fail;refine HQ _ _ _ ?_;exact aR (v:= .bool false) (by simp[results,results39,go_sem]) rfl ⟨by rw[H9.out],Pu.out⟩
            ·have d8:decide (2000<s+(j:Int))=false:=by simpa using c8
             have H8:=ae (H7.trans (if_neg c8));have hs9:s+(j:Int)<=2000:=by omega
             clear c8;cases hg1:(dI p g m2 b).1 with
             |true=>
              have dO:=OV hg1 Oi Oh;have Zu:=ae hg1;rw[hg1]at Zy;clear hg1;go_wp2_with fail;refine Zy.mono ?_;rintro e w9 ⟨rfl,Lh,Ff⟩;have SR:=ae Lh;have Ei:=ae Ff;clear Lh Ff;go_wp2_with fail;go_roundw
              case rel=>exact⟨k+1,s+(j:Int),(dI p g m2 b).2,by go_num,by go_num,by omega,by omega,by omega,dO.1,dO.2,by have h9:=H8.out;rw[if_pos Zu.out]at h9;exact h9.symm,SR.out,Pu.trans Ei (λ_ h=>aH h)⟩
              case measure=>simp[intOf];omega
             |false=>
              have H9:=ae (show(dL p g g.blocks 0 0).1=false by rw[H8.out,if_neg (by rw[hg1];simp)]);rw[hg1]at Zy;clear hg1;go_wp2_with fail;refine Zy.mono ?_;rintro e w9 ⟨rfl,Lh,Ff⟩;have Ei:=ae Ff;clear Lh Ff;go_wp2_with fail;refine HQ _ _ _ ?_;exact aR (v:= .bool false) (by simp[results,results39,go_sem]) rfl ⟨by rw[H9.out],Pu.trans Ei (λ_ h=>aH h)⟩
         ·obtain rfl:k=a.nb:=by omega
          have H9:=ae (show(dL p g g.blocks 0 0).1=true by rw[<-gV.out,bD (by have:=HA.nb;omega),dL]);clear sK hwr iV;go_wp2_with fail;refine HQ _ _ _ ?_;exact aR (v:= .bool true) (by simp[results,results39,go_sem]) rfl ⟨by rw[H9.out],mK.out⟩
end Go.Proofs.YtikbdplllopjlaaGreat
