/- The page's machine: a number comes in. Conditions: as stated. -/
import Derived.Test.YtikbdplllopjlaaGreatQ03Zz
set_option linter.unusedVariables false
set_option linter.unusedSimpArgs false
set_option maxHeartbeats 8000000
set_option maxRecDepth 100000
open Go.Proofs.Tryz
namespace Go.Proofs.YtikbdplllopjlaaGreat
open Go.RowKit
theorem LW(ai mc:Nat)(own:Nat->Prop)(P:Value×Value×Value)(ah:Int)(s:St)(fb tb:Nat)(G:Value×Value×Value×Value)(tp:List V)(lv:Value)(lo:List Nat)(ng:Nat)(R:cC)(op dst size fn:Int)(ks:List T)(A:Option Addr)(n aA:Nat)(w:World)
  (hM:cN w ai mc own P ah s)(cA:s.kind=0)(hs0:0<=s.steps)(hs1:s.steps<=ah)(hf:ah<=1000000000)(hF:bM w fb G tb tp lv lo)(hO:mG ai own fb tb lv)(kM:dW (au s.mem) tp lo ng)(hT:fY tp.length lo.length ng ks)(hk:bC w ai ks A n)(iD:n<=1000)
  (rE:e9 ks)(hy:(aW ah 1 s).1=true)(cu:∃l,aD s.mem tp lo ks=some l)(hop:op=5)(m:Nat)(P3:dst=m)(Re:m<tp.length)(y:Int)(il:List Int)(gZ:s.inp=y::il):
  Calls prog 52 #[.pointer (some ⟨mc,0,none⟩),.pointer (some ⟨fb,0,none⟩),.agg #[.int .i64 op,.int .i64 dst,.int .i64 size,.int .i64 fn,.slice A n aA]] w λe w'=>cX ai mc own P ah fb tb G lv lo (bu R ah lo s tp ⟨op,dst,size,fn,ks⟩) w e w':=by
 subst hop;subst P3;have yX:=ae gZ;clear gZ;obtain⟨qE,pU,iY⟩:=cO hy;have hm:own mc:=(by obtain⟨_,_,_,_,h⟩:=hM;exact h.mine)
 have sV:=(by obtain⟨_,_,_,_,h⟩:=hM;exact h.rest.own mc h.mine:ai<=mc/\mc<w.heap.size)
 have oF:e9 ks:=rE;have HST:=ae (λW(hb:Below w.heap.size w W)=>(iY▸hy▸eD ai mc own P ah 1 s W (hM.below hb) hs0 hs1 hf (by omega) (by omega):Calls prog 51 #[.pointer (some ⟨mc,0,none⟩),.int .i64 1] W λe w'=>e= .returned (.bool true)/\cN w' ai mc own P ah {s with steps:=s.steps+1}/\Wr (λb=>b=mc) W w'));have xT:=ae cA;have HF:=ae hF;have HO:=ae hO;have zY:=ae kM;have HT:=ae hT;have HK:=ae hk;have nZ:=ae oF;have hB:ai<=w.heap.size:=by omega
 have MU:=hk.2.1;have qh:=ae cu;clear cu;have sY:=ae iY;have HY:=ae hy;have fG:=ae hm;obtain⟨ve,u9⟩:=sV;clear hM cA hF hO kM hT hk hy qE pU iY hm rE oF hs0 hs1;go_enter func52,ntmps52;go_wp2_with(go_at_call 51;refine(HST _ (aj _ _)).mono ?_;rintro e w1 ⟨rfl,jy,bT⟩;have n9:=ae jy;have dG:=ae bT;have hz1:w.heap.size+1<=w1.heap.size:=(by have:=bT.size;simpa using this);clear jy bT);have iL:=ae (show Row w1 w.heap.size #[.int .i64 5,.int .i64 (m:Int),.int .i64 size,.int .i64 fn,.slice A n aA] 96 from(Row.new w _ _).wr dG (show¬w.heap.size=mc by omega));have bn:=ae (show Below ai w w1 from((aj w _).mono hB).trans (dG.below (by simp;omega) (λk hk=>by omega)))
 have jB:=ae (show bM w1 fb G tb tp lv lo from(HF.below (aj _ _)).wr dG (λe=>HO.fb.1 (by rw[e];exact fG.out)) (λe=>HO.tb.1 (by rw[e];exact fG.out)) (λg hg e=>(HO.lv g hg).1 (by rw[e];exact fG.out)));have iw:=ae (HK.below bn (aN _));go_loopw [7,8] (λv i wr=>∃(k:Nat)(l:List V),k<=n/\i= .int .i64 k/\aD s.mem tp lo (ks.take k)=some l/\wr.ownsRow w1.heap.size 72 2 v k (bV l)/\Below w1.heap.size w1 wr) (λ_ i _=>n-(intOf i).toNat)
 case atStart=>exact⟨0,[],by omega,rfl,by simp[aD],World.ownsRow_nil _ _ _ _,bI _ _⟩
 case round=>
  obtain⟨k,l,hk,rfl,cu,hown,bR⟩:=hrel;have hz2:=bR.size;have hz3:w.heap.size<wr.heap.size:=by omega
  have dw:=iL.below bR (by omega);have c0:wr.cell? ⟨w.heap.size,0,none⟩=some (.int .i64 5):=dw.cell (j:=0) rfl;have c1:wr.cell? ⟨w.heap.size,1,none⟩=some (.int .i64 (m:Int)):=dw.cell (j:=1) rfl;have c2:wr.cell? ⟨w.heap.size,2,none⟩=some (.int .i64 size):=dw.cell (j:=2) rfl;have c3:wr.cell? ⟨w.heap.size,3,none⟩=some (.int .i64 fn):=dw.cell (j:=3) rfl;have c4:wr.cell? ⟨w.heap.size,4,none⟩=some (.slice A n aA):=dw.cell (j:=4) rfl;clear dw;have kB:=ae (n9.below bR);have iy:=ae (jB.below bR);have iV:ai<=w1.heap.size:=by omega
  by_cases hlt:k<n
  ·obtain⟨b,off,t,v0,v1,v2,rfl,hb,bA,k0,k1,k2,ht⟩:=(iw.below (bR.mono iV) (aN _)).get hlt;have gF:=(by obtain⟨_,_,_,_,h⟩:=kB.out;exact h.rest.mem.ok:b9 s.mem)
   have HC:=ae (eU t.size t ai mc own P ah {s with steps:=s.steps+1} fb tb G tp lv lo ng wr v0 v1 v2 (aN _) kB.out xT.out iy.out gF zY (HT.get bA) ht);have og:=ae bA;have eY:(k:Int)<(n:Int):=by omega
   have HE:=ae cu;have HW:=ae hown;have HX:=ae bR;have bG:l.length=k:=by
    have:=aK cu;rw[List.length_take,HK.1]at this;omega
   clear bA ht cu hown bR gF;cases hv:bZ s.mem tp lo t with
   |none=>
    exact absurd (cI og.out hv) (by rw[qh.choose_spec];simp)
   |some v=>
    rw[hv]at HC;obtain⟨i0,hi,hz0,jg,lK⟩:=info_parts dK;go_wp2_with fail;refine HC.mono ?_;rintro e w2 ⟨rfl,hb1⟩;simp only[aI];have hz:=hb1.size;have hown1:=(aB HW (di hb1) (λ_ _ h=>h))
    go_wp2_with(at_builtin;refine wpList_append_own _ rfl (.tmp 37) (.tmp 39) 67 rfl w1.heap.size 72 i0 (.agg #[.int .i64 0,.int .i64 0]) 2 16 underlying67 hi hz0 jg lK rfl (by decide) _ _ _ rfl ((hown1.alloc _).alloc _) ⟨w2.heap.size+1,0,none⟩ 1 1 [.int .i64 v.obj,.int .i64 v.n] rfl rfl ?c1 ?c2 ?c3 ?c4 ?c5 ?_)
    case c1=>exact cK _ _ _ _ _ (by simp)
    case c2=>exact dS _ _
    case c3=>have:=iD;unfold maxLen;omega
    case c4=>have:=iD;omega
    case c5=>simp;omega
    ·intro v' w3 hown2 hgrow _;have bL:=ae ((((HX.trans (hb1.mono (show w1.heap.size<=wr.heap.size from by omega))).alloc (by omega) _).alloc (by simp;omega) _).grown hgrow (by simp;omega) (λg hg=>(HW.lt g hg).1));have rq:=ae hown2;clear hown2 hgrow hown1 hb1;go_wp2_with fail;go_roundw
     case rel=>exact⟨k+1,l++[v],by omega,by go_num,cE HE.out og.out hv,by rw[bP];exact rq.out,bL.out⟩
     case measure=>simp[intOf];omega
  ·obtain rfl:k=n:=by omega
   rw[show ks.take k=ks from by rw[<-HK.1,List.take_length]]at cu;have bG:l.length=k:=by rw[aK cu,HK.1]
   have HE:=ae cu;have HW:=ae hown;have HX:=ae bR;clear cu hown bR;have HG:=ae iy.out;obtain⟨xm,⟨cs,iR,jh⟩,_,Rl⟩:=iy.out;have t4:wr.cell? ⟨fb,4,none⟩=some (.slice (some ⟨tb,0,none⟩) tp.length tp.length):=xm.cell (j:=4) rfl;have t5:=iR.free (m*2);have t6:=iR.free (m*2+1);have t7:∃u,wr.cell? ⟨tb,m*2,none⟩=some u:=⟨_,iR.cell (Array.getElem?_eq_getElem (by rw[jh.1];omega))⟩
   have t8:∃u,wr.cell? ⟨tb,m*2+1,none⟩=some u:=⟨_,iR.cell (Array.getElem?_eq_getElem (by rw[jh.1];omega))⟩
   obtain⟨u7,t7⟩:=t7;obtain⟨u8,t8⟩:=t8;have tq:=xm.lt;have uY:=iR.lt;clear xm iR jh;obtain⟨inv,outv,aU,rb,jV⟩:=kB.out;have m3:wr.cell? ⟨mc,3,none⟩=some inv:=jV.row.cell (j:=3) rfl;have mf3:=jV.row.free 3;have U5:=jV.lt;obtain⟨Ai,Jh,rfl,hle,Ck,qW⟩:=jV.rest.inp;have x7:s.inp.length=il.length+1:=by rw[yX.out];rfl
   rw[x7]at m3;rw[x7]at hle qW;rw[yX.out]at qW;obtain⟨ib,ioff,rfl,hib,qW⟩:=qW (by omega);have hibl:ib<wr.heap.size:=by omega
   have hc0:=(qW 0 y rfl).1;simp only[Nat.add_zero]at hc0;have Em:=ae jV;have HCE:=ae qW;have UI:(m:Int)<(tp.length:Int):=by omega
   clear jV qW x7 bG;have Ix:¬tb=mc:=λe=>HO.tb.1 (by rw[e];exact fG.out);have Cg:¬fb=mc:=λe=>HO.fb.1 (by rw[e];exact fG.out);have hne3:¬mc=tb:=λe=>Ix e.symm;have hne4:¬mc=fb:=λe=>Cg e.symm;have hne5:¬w.heap.size=mc:=by omega
   have hne6:¬mc=w.heap.size:=by omega
   have hne7:¬wr.heap.size=mc:=by omega
   by_cases hc1:Jh=1
   ·subst hc1;have hil0:il.length=0:=by omega
    obtain rfl:il=[]:=List.eq_nil_of_length_eq_zero hil0;simp only[List.length_nil,Nat.zero_add]at m3 hle;go_wp2_with fail;refine fB 8 (by kernel_rfl) (by kernel_rfl) ?_;simp only[List.take_succ_cons,List.take_zero,List.drop_succ_cons,List.drop_zero]
    repeat still_step
    try refine wpStill_nil ?_
    go_wp2_with fail;go_ret;have hres:bu R ah lo s tp ⟨5,(m:Int),size,fn,ks⟩=(true,{s with steps:=s.steps+1,inp:=[]},tp.set m ⟨0,y⟩):=by obtain⟨l',hl'⟩:=qh.out;rw[cF HY.out sY.out hl'];simp[ik,pN,yX.out]
    rw[hres];have Lr:=Em.Th (.slice (some ⟨ib,ioff,none⟩) 0 0) [] vE.empty;have Uw:=Wr.cell1 wr mc 3 (.slice (some ⟨ib,ioff,none⟩) 0 0);have QW:=eB (wr.setCell ⟨mc,3,none⟩ (.slice (some ⟨ib,ioff,none⟩) 0 0)) tb (m*2) (m*2+1) (.int .i64 0) (.int .i64 y);have hwc:Wr (λ_=>False) (((wr.setCell ⟨mc,3,none⟩ (.slice (some ⟨ib,ioff,none⟩) 0 0)).setCell ⟨tb,m*2,none⟩ (.int .i64 0)).setCell ⟨tb,m*2+1,none⟩ (.int .i64 y)) _:=Wr.of_below ((aj _ (.cells #[.int .i64 0,.int .i64 y] 72)).drew);have hwd:=QW.trans hwc (λi hi=>hi.elim);have hMC:=cN.wr ⟨_,_,_,_,Lr⟩ hwd (λk hk=>(by subst hk;exact⟨HO.tb.2,HO.tb.1⟩));have Cp:=(HG.wr Uw (λe=>HO.fb.1 (by rw[e];exact fG.out)) (λe=>HO.tb.1 (by rw[e];exact fG.out)) (λg hg e=>(HO.lv g hg).1 (by rw[e];exact fG.out))).set m ⟨0,y⟩
    refine⟨rfl,own,λ_ h=>h,λ_ h=>aH h,hMC,λ_=>Cp.below ((aj _ _).drew),?_⟩;exact(((((Wr.of_below (aj _ _)).trans dG (λi hi=>aH (aH (hi▸fG.out)))).trans (di HX.out) (λi hi=>hi.elim))).trans Uw (λi hi=>aH (aH (hi▸fG.out)))).trans hwd (λi hi=>aH (aT hi))
   ·have J3:il.length+1<=Jh:=hle;go_wp2_with fail;refine fB 8 (by kernel_rfl) (by kernel_rfl) ?_;simp only[List.take_succ_cons,List.take_zero,List.drop_succ_cons,List.drop_zero]
    repeat still_step
    try refine wpStill_nil ?_
    go_wp2_with fail;go_ret;have hres:bu R ah lo s tp ⟨5,(m:Int),size,fn,ks⟩=(true,{s with steps:=s.steps+1,inp:=il},tp.set m ⟨0,y⟩):=by obtain⟨l',hl'⟩:=qh.out;rw[cF HY.out sY.out hl'];simp[ik,pN,yX.out]
    rw[hres];have Lr:=Em.Th (.slice (some ⟨ib,ioff+1,none⟩) il.length (Jh-1)) il (vE.tail HCE.out hib rfl J3 Ck);have Uw:=Wr.cell1 wr mc 3 (.slice (some ⟨ib,ioff+1,none⟩) il.length (Jh-1));have QW:=eB (wr.setCell ⟨mc,3,none⟩ (.slice (some ⟨ib,ioff+1,none⟩) il.length (Jh-1))) tb (m*2) (m*2+1) (.int .i64 0) (.int .i64 y);have hwc:Wr (λ_=>False) (((wr.setCell ⟨mc,3,none⟩ (.slice (some ⟨ib,ioff+1,none⟩) il.length (Jh-1))).setCell ⟨tb,m*2,none⟩ (.int .i64 0)).setCell ⟨tb,m*2+1,none⟩ (.int .i64 y)) _:=Wr.of_below ((aj _ (.cells #[.int .i64 0,.int .i64 y] 72)).drew);have hwd:=QW.trans hwc (λi hi=>hi.elim);have hMC:=cN.wr ⟨_,_,_,_,Lr⟩ hwd (λk hk=>(by subst hk;exact⟨HO.tb.2,HO.tb.1⟩))
    have Cp:=(HG.wr Uw (λe=>HO.fb.1 (by rw[e];exact fG.out)) (λe=>HO.tb.1 (by rw[e];exact fG.out)) (λg hg e=>(HO.lv g hg).1 (by rw[e];exact fG.out))).set m ⟨0,y⟩;refine⟨rfl,own,λ_ h=>h,λ_ h=>aH h,hMC,λ_=>Cp.below ((aj _ _).drew),?_⟩;exact(((((Wr.of_below (aj _ _)).trans dG (λi hi=>aH (aH (hi▸fG.out)))).trans (di HX.out) (λi hi=>hi.elim))).trans Uw (λi hi=>aH (aH (hi▸fG.out)))).trans hwd (λi hi=>aH (aT hi))
end Go.Proofs.YtikbdplllopjlaaGreat
