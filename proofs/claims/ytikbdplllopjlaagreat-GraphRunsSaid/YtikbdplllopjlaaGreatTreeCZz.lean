/- The page's machine: an op of values that comes to a value. Conditions: as stated. -/
import Derived.Test.YtikbdplllopjlaaGreatQ02Zz
set_option linter.unusedVariables false
set_option linter.unusedSimpArgs false
set_option maxHeartbeats 8000000
set_option maxRecDepth 100000
open Go.Proofs.Tryz
namespace Go.Proofs.YtikbdplllopjlaaGreat
open Go.RowKit
theorem KA(m:Nat)(ih:r9 m):z8 (m+1) (λt s tp lo=>∃op x ks lf,t= .node op x ks/\aD s.mem tp lo ks=some lf/\5<=op/\∃r,iJ s.mem op lf=some r):=by
 rintro⟨op,x,ks⟩ ai mc own P ah s fb tb G tp lv lo ng w v0 v1 v2 hm hM cA hF DF kM hT hv hQ;obtain⟨A,aA,n,rfl,rfl,hop,hx,rfl,hk⟩:=bC.gI hv;have oF:e9 ks:=(aX.KH _ hv).2;simp only[T.size]at hm;simp only[C8]at hT;obtain⟨o1,o2,o3,o4,o5,o6,o7⟩:=hT;have hB:ai<=w.heap.size:=by
  obtain⟨_,_,_,_,h⟩:=hM;have:=h.rest.own mc h.mine;omega
 have hn:=hk.2.1;have iD:n<=2:=by
  have h:=hk.1;rw[o3]at h;unfold rB at h
  (repeat' split at h)<;>omega
 have HK:=ae hk;have HM:=ae hM;have HF:=ae hF;have IH:=ae ih;have HO:=ae (And.intro DF kM);have H7:=ae o7;have H3:=ae o3;have HS:=ae hm;have HI:=ae cA;have HL:=ae (show∃lf,aD s.mem tp lo ks=some lf from by obtain⟨_,_,_,lf,he,hn,_⟩:=hQ;injection he with _ _ h3;rw[h3];exact⟨lf,hn⟩);have HQ:=ae (show∀lf,aD s.mem tp lo ks=some lf->∃r,iJ s.mem op lf=some r from by obtain⟨_,_,_,lf,he,hn,_,h⟩:=hQ;injection he with h1 _ h3;intro l hl;rw[h3,hn]at hl;injection hl with hl;rw[<-hl,h1];exact h);have p5:5<=op:=by obtain⟨_,_,_,lf,he,_,h,_⟩:=hQ;injection he with h1;omega
 clear hQ;clear hk hM hF ih DF kM o7 o3 hm cA hv;go_enter func53,ntmps53;go_wp2_with fail;go_loopw [8,9] (λv i wr=>∃(k:Nat)(l:List V),k<=n/\i= .int .i64 k/\aD s.mem tp lo (ks.take k)=some l/\wr.ownsRow (w.heap.size+2) 72 2 v k (bV l)/\
   Below (w.heap.size+2) ((w.alloc (.cells #[.int .i64 op,.int .i64 x,.slice A n aA] 90)).alloc (.cells #[.int .i64 0,.int .i64 0] 72)) wr) (λ_ i _=>n-(intOf i).toNat)
 case atStart=>exact⟨0,[],by omega,rfl,by simp[aD],World.ownsRow_nil _ _ _ _,bI _ _⟩
 case round=>
  obtain⟨k,l,hk,rfl,cu,hown,bR⟩:=hrel;obtain⟨dw,hr1⟩:=zZ bR;have aG:Below w.heap.size w wr:=(aJ _ _ _).trans (bR.mono (by omega));have hsz:=bR.size;simp only[World.size_alloc]at hsz;have IB:=ae (show∀k,own k->ai<=k/\k<w.heap.size from by obtain⟨_,_,_,_,h⟩:=HM.out;exact h.rest.own);have c0:wr.cell? ⟨w.heap.size,0,none⟩=some (.int .i64 op):=dw.cell (j:=0) rfl;have c1:wr.cell? ⟨w.heap.size,1,none⟩=some (.int .i64 x):=dw.cell (j:=1) rfl;have c2:wr.cell? ⟨w.heap.size,2,none⟩=some (.slice A n aA):=dw.cell (j:=2) rfl;have M4:=ae (HM.below aG);have S3:=ae (HF.below aG);by_cases hlt:k<n
  ·obtain⟨b,off,t,v0,v1,v2,rfl,hb,bA,k0,k1,k2,ht⟩:=(HK.below (aG.mono hB) (aN _)).get hlt;have fH:t.size<=m:=by have:=T.dC bA;have:=HS.out;omega
   have HC:=ae (IH.out t ai mc own P ah s fb tb G tp lv lo ng wr v0 v1 v2 fH M4.out HI.out S3.out HO.1 HO.2 (H7.get bA) ht);have iw:=ae bA;have eY:(k:Int)<(n:Int):=by omega
   have HE:=ae cu;have HW:=ae hown;have HX:=ae bR;have R0:=ae dw;have R1:=ae hr1;have cV:=ae aG;clear bA ht cu hown bR dw hr1 aG;cases hv:bZ s.mem tp lo t with
   |none=>
    exact absurd (cI iw.out hv) (by rw[HL.choose_spec];simp)
   |some v=>
    rw[hv]at HC;obtain⟨i0,hi,hz0,hz1,hz2⟩:=info_parts dK;go_wp2_with fail;refine HC.mono ?_;rintro e w1 ⟨rfl,hb1⟩;simp only[aI];have hz:=hb1.size;have hown1:=(aB HW (di hb1) (λ_ _ h=>h))
    have bG:l.length=k:=by
     have:=aK HE.out;rw[List.length_take,HK.1]at this;omega
    go_wp2_with(at_builtin;refine wpList_append_own _ rfl (.tmp 35) (.tmp 37) 67 rfl (w.heap.size+2) 72 i0 (.agg #[.int .i64 0,.int .i64 0]) 2 16 underlying67 hi hz0 hz1 hz2 rfl (by decide) _ _ _ rfl ((hown1.alloc _).alloc _) ⟨w1.heap.size+1,0,none⟩ 1 1 [.int .i64 v.obj,.int .i64 v.n] rfl rfl ?c1 ?c2 ?c3 ?c4 ?c5 ?_)
    case c1=>exact cK _ _ _ _ _ (by simp)
    case c2=>exact dS _ _
    case c3=>have:=iD;unfold maxLen;omega
    case c4=>have:=iD;omega
    case c5=>simp;omega
    ·intro v' w2 hown2 hgrow _;have bL:=ae ((((HX.trans (hb1.mono (show w.heap.size+2<=wr.heap.size from by omega))).alloc (by omega) _).alloc (by simp;omega) _).grown hgrow (by simp;omega) (λg hg=>(HW.lt g hg).1));have rq:=ae hown2;clear hown2 hgrow hown1 hb1;go_wp2_with fail;go_roundw
     case rel=>exact⟨k+1,l++[v],by omega,by go_num,cE HE.out iw.out hv,by rw[bP];exact rq.out,bL.out⟩
     case measure=>simp[intOf];omega
  ·obtain rfl:k=n:=by omega
   rw[show ks.take k=ks from by rw[<-HK.1,List.take_length]]at cu;have bG:l.length=k:=by rw[aK cu,HK.1]
   have hE:=ae (show bZ s.mem tp lo (.node op x ks)=rI s.mem tp lo op x l from by simp[bZ,cu]);have e0:wr.cell? ⟨w.heap.size+1,0,none⟩=some (.int .i64 0):=hr1.cell (j:=0) rfl;have e1:wr.cell? ⟨w.heap.size+1,1,none⟩=some (.int .i64 0):=hr1.cell (j:=1) rfl;have f0:=hr1.free 0;have f1:=hr1.free 1;have cV:=ae aG;have HOW:=ae hown;have qh:=ae cu;have R1:=ae hr1;have hap:=HQ _ qh.out;clear cu hown bR aG dw hr1;have p1:¬op=1:=by omega
   have p2:¬op=2:=by omega
   have p3:¬op=3:=by omega
   have p4:¬op=4:=by omega
   have q1:(op==1)=false:=by simpa using p1
   have q2:(op==2)=false:=by simpa using p2
   have q3:(op==3)=false:=by simpa using p3
   have q4:(op==4)=false:=by simpa using p4
   have Bd:l.length=if 12<=op/\op<=30 then 2 else 1:=by
    rw[bG,<-HK.1,H3.out,rB,if_neg (by omega)]
   have Ok:0<l.length:=by rw[Bd];split<;>omega
   have hres:rI s.mem tp lo op x l=iJ s.mem op l:=by simp[rI,p1,p2,p3,p4]
   rw[hres]at hE;clear hres;have Ol:∀v,v∈l->CJ s.mem.length v:=λv hv=>(iF (lJ HO.1) HO.2 ks oF H7 (by rw[eN];exact qh.out) v hv).Pm;obtain⟨g,gc,rfl,hg0,hg1,sJ⟩:=qT (show wr.ownsRow (w.heap.size+2) 72 2 _ l.length (bV l)from bG.symm▸HOW.out) Ok;obtain⟨A',cap',Bf,DG,Ba⟩:=M4.QM;have HC:=ae (λW(hb:Below wr.heap.size wr W)=>C7 mc 10 g 0 gc A' s.mem.length cap' wr.heap.size op l s.mem W hb.size (kL Ba hb.size) (kL hg1 hb.size) (ag Bf hb Ba) (DG.below hb (aN _)) Ol (λj v hj=>(sJ j v hj).below hb hg1) (by omega) o2 Bd)
   rw[bG]at HC;have hz2:w.heap.size+1<wr.heap.size:=by omega
   have hz3:w.heap.size<wr.heap.size:=by omega
   clear Bf DG sJ Ol Bd;obtain⟨r,hap⟩:=hap;rw[hap]at HC hE;simp only[cH,aI]at HC;go_wp2_with fail
   go_region_with ((go_at_call 68;refine(HC _ (by first|exact(bI _ _).drew|exact(aj _ _).drew)).mono ?_;rintro e w1 ⟨rfl,hb1⟩;have qX:Below wr.heap.size wr w1:=(by first|exact(bI _ _).drew.trans (hb1.mono (aN _))|exact(aj _ _).drew.trans (hb1.mono (by simp)));obtain⟨hc1,rT⟩:=aY hb1;have hz1:=qX.size;have yC:w.heap.size+1<w1.heap.size:=(by omega);have QS:¬w.heap.size+1=w1.heap.size:=(by omega);have S1:=R1.out.below qX hz2;have g0:w1.cell? ⟨w.heap.size+1,0,none⟩=some (.int .i64 0):=S1.cell (j:=0) rfl;have g1:w1.cell? ⟨w.heap.size+1,1,none⟩=some (.int .i64 0):=S1.cell (j:=1) rfl;have g2:=S1.free 0;have g3:=S1.free 1;have rG:=ae qX;clear S1 qX))
   all_goals(try go_wp2_with fail)
   all_goals
    refine aR (v:=aI (some r)) ?_ rfl ?_
    ·simp[results,results53,go_sem,aI, *]
    ·rw[hE.out];have hb2:Below w.heap.size w w1:=cV.trans (rG.mono (by omega))
     first
      |exact⟨rfl,(fI hb2 (by omega) _ _).alloc (by simp;omega) _⟩
      |exact⟨rfl,fI (fI hb2 (by omega) _ _) (by omega) _ _⟩
end Go.Proofs.YtikbdplllopjlaaGreat
