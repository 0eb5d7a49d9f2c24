/- step: calls. Conditions: as stated. -/
import Derived.Test.YtikbdplllopjlaaGreatQ16Zz
set_option linter.unusedVariables false
set_option linter.unusedSimpArgs false
set_option maxHeartbeats 8000000
set_option maxRecDepth 100000
open Go.Proofs.Tryz
namespace Go.Proofs.YtikbdplllopjlaaGreat
open Go.RowKit
theorem Uc(p:aM)(g:aP)(dst size fn:Int)(ks:List T)(hl:ks.length<=200000000000000)(hg1:g.az.length<=9223372036854775807)(qK:p.ax.length<=9223372036854775807):kI p g ⟨3,dst,size,fn,ks⟩:=by
 intro P LV BV A n aA B w hB hP hG hk;obtain⟨GA,gc,FA,fc,rfl⟩:=hP.shape;obtain⟨LA,lc,BA,bc,rfl,rfl⟩:=hG.shape;have lV:=hk.1;simp only at lV;have Qa:=hk.2.1;have HN:=ae lV;have hlen:n<=200000000000000:=by omega
 have HK:=ae (show∀W,Below w.heap.size w W->bC W B ks A n from λW hb=>bC.below hk (hb.mono hB) (aN _));have SX:=ae (λW=>gW fn ((p.funcs.length:Int)-1) W);have tq:=hP.2.1.len.2;have HP:=ae hP;clear hP hG hk lV;cases Rb:fN fn ((p.funcs.length:Int)-1)with
 |false=>
  rw[Rb]at SX;have Aa:=ae (show lB p ⟨3,dst,size,fn,ks⟩= -1 from by simp[lB,Rb]);have k1:(n:Int)≠ -1:=by omega
  have e1:((n:Int) != -1)=true:=by simp
  have HE:=ae (show a8 p g ⟨3,dst,size,fn,ks⟩=(0,false)from by unfold a8;rw[if_pos (show bK p g ⟨3,dst,size,fn,ks⟩from(aT (aH (by rw[Aa.out];exact λe=>k1 (by rw[<-HN.out];exact e)))))]);have HW:=ae ((bN w (.cells #[.slice GA p.ax.length gc,.slice FA p.funcs.length fc,.int .i64 p.main] 31) (.cells #[.int .i64 g.params,.int .i64 g.ay,.slice LA g.az.length lc,.slice BA g.blocks.length bc] 54) (.cells #[.int .i64 3,.int .i64 dst,.int .i64 size,.int .i64 fn,.slice A n aA] 96) (.cells #[.int .i64 3,.int .i64 dst,.int .i64 0,.int .i64 fn,.slice A n aA] 96)).drew);clear Rb k1;go_enter func35,ntmps35;refine ak λQ HQ=>?_;go_wp2_with fail;go_region;go_wp2_with fail;refine(SX _).mono ?_;rintro e w' ⟨rfl,rfl⟩;go_wp2_with fail;refine HQ _ _ _ ?_
  exact aR (v:= .tuple #[.int .i64 0,.bool false]) (by simp[results,results35,go_sem]) rfl ⟨by rw[HE.out],HW.out⟩
 |true=>
  rw[Rb]at SX;have hfn:0<=fn/\fn<(p.funcs.length:Int):=by simp[fN]at Rb;omega
  obtain⟨f,rfl⟩:=Int.eq_ofNat_of_zero_le hfn.1;have hfl2:f<p.funcs.length:=by omega
  obtain⟨gb,mD,g',Cp,hgb,iU,BP⟩:=HP.2.1.get hfl2;subst Cp;have y0:=BP.1;simp only[Nat.add_zero]at y0;have DC:gb<w.heap.size:=by omega
  have hgbl1:gb<w.heap.size+1:=by omega
  have hgbl2:gb<w.heap.size+1+1:=by omega
  have hgbl3:gb<w.heap.size+1+1+1:=by omega
  have hgd:p.funcs.getD (f:Int).toNat jv=g':=by rw[Int.toNat_natCast,List.getD_eq_getElem?_getD,iU];rfl
  have Aa:=ae (show∀(dst size:Int),lB p ⟨3,dst,size,(f:Int),ks⟩=g'.params from λ_ _=>by simp[lB,Rb];rw[iU];rfl);have Rm:(0:Int)<=(f:Int):=by omega
  have rT:(f:Int)<(p.funcs.length:Int):=by omega
  clear hfn Rb BP iU hgd hgb HP;by_cases k1:(n:Int)≠g'.params
  ·have e1:((n:Int) !=g'.params)=true:=by simpa using k1
   have HE:=ae (show a8 p g ⟨3,dst,size,(f:Int),ks⟩=(0,false)from by unfold a8;rw[if_pos (show bK p g ⟨3,dst,size,(f:Int),ks⟩from(aT (aH (by rw[Aa _ _];exact λe=>k1 (by rw[<-HN.out];exact e)))))]);have HW:=ae ((bN w (.cells #[.slice GA p.ax.length gc,.slice (some ⟨gb,mD,none⟩) p.funcs.length fc,.int .i64 p.main] 31) (.cells #[.int .i64 g.params,.int .i64 g.ay,.slice LA g.az.length lc,.slice BA g.blocks.length bc] 54) (.cells #[.int .i64 3,.int .i64 dst,.int .i64 size,.int .i64 (f:Int),.slice A n aA] 96) (.cells #[.int .i64 3,.int .i64 dst,.int .i64 0,.int .i64 (f:Int),.slice A n aA] 96)).drew);clear k1;go_enter func35,ntmps35;refine ak λQ HQ=>?_;go_wp2_with fail;go_region;go_wp2_with fail;refine(SX _).mono ?_
   rintro e w' ⟨rfl,rfl⟩;go_wp2_with fail;refine HQ _ _ _ ?_;exact aR (v:= .tuple #[.int .i64 0,.bool false]) (by simp[results,results35,go_sem]) rfl ⟨by rw[HE.out],HW.out⟩
  ·have e1:((n:Int) !=g'.params)=false:=by simpa using k1
   by_cases k3:size≠0
   ·have e3:(size !=0)=true:=by simpa using k3
    have HE:=ae (show a8 p g ⟨3,dst,size,(f:Int),ks⟩=(0,false)from by unfold a8;rw[if_pos (show bK p g ⟨3,dst,size,(f:Int),ks⟩from(aT (aT (aT (aH (⟨(by simp),k3⟩))))))]);have HW:=ae ((bN w (.cells #[.slice GA p.ax.length gc,.slice (some ⟨gb,mD,none⟩) p.funcs.length fc,.int .i64 p.main] 31) (.cells #[.int .i64 g.params,.int .i64 g.ay,.slice LA g.az.length lc,.slice BA g.blocks.length bc] 54) (.cells #[.int .i64 3,.int .i64 dst,.int .i64 size,.int .i64 (f:Int),.slice A n aA] 96) (.cells #[.int .i64 3,.int .i64 dst,.int .i64 0,.int .i64 (f:Int),.slice A n aA] 96)).drew);clear k1 k3;go_enter func35,ntmps35;refine ak λQ HQ=>?_;go_wp2_with fail;go_region;go_wp2_with fail;refine(SX _).mono ?_;rintro e w' ⟨rfl,rfl⟩;go_wp2_with fail
    refine HQ _ _ _ ?_;exact aR (v:= .tuple #[.int .i64 0,.bool false]) (by simp[results,results35,go_sem]) rfl ⟨by rw[HE.out],HW.out⟩
   ·obtain rfl:size=0:=by omega
    by_cases k5:dst≥g.ay
    ·have e5:decide (g.ay<=dst)=true:=by simpa using k5
     have HE:=ae (show a8 p g ⟨3,dst,0,(f:Int),ks⟩=(0,false)from by unfold a8;rw[if_pos (show bK p g ⟨3,dst,0,(f:Int),ks⟩from(aT (aT (aT (aT (aT (aH (⟨aT (aH rfl),k5⟩))))))))]);have HW:=ae ((bN w (.cells #[.slice GA p.ax.length gc,.slice (some ⟨gb,mD,none⟩) p.funcs.length fc,.int .i64 p.main] 31) (.cells #[.int .i64 g.params,.int .i64 g.ay,.slice LA g.az.length lc,.slice BA g.blocks.length bc] 54) (.cells #[.int .i64 3,.int .i64 dst,.int .i64 0,.int .i64 (f:Int),.slice A n aA] 96) (.cells #[.int .i64 3,.int .i64 dst,.int .i64 0,.int .i64 (f:Int),.slice A n aA] 96)).drew);clear k1 k5;go_enter func35,ntmps35;refine ak λQ HQ=>?_;go_wp2_with fail;go_region;go_wp2_with fail;refine(SX _).mono ?_;rintro e w' ⟨rfl,rfl⟩
     go_wp2_with fail;refine HQ _ _ _ ?_;exact aR (v:= .tuple #[.int .i64 0,.bool false]) (by simp[results,results35,go_sem]) rfl ⟨by rw[HE.out],HW.out⟩
    ·have e5:decide (g.ay<=dst)=false:=by simpa using k5
     by_cases k6:dst< -1
     ·have e6:decide (dst<0)=true:=by simp;omega
      have e7:decide (dst< -1)=true:=by simpa using k6
      have HE:=ae (show a8 p g ⟨3,dst,0,(f:Int),ks⟩=(0,false)from by unfold a8;rw[if_pos (show bK p g ⟨3,dst,0,(f:Int),ks⟩from(aT (aT (aT (aT (aT (aT (aT (⟨by simp only;omega,aT (aT k6)⟩)))))))))]);have HW:=ae ((bN w (.cells #[.slice GA p.ax.length gc,.slice (some ⟨gb,mD,none⟩) p.funcs.length fc,.int .i64 p.main] 31) (.cells #[.int .i64 g.params,.int .i64 g.ay,.slice LA g.az.length lc,.slice BA g.blocks.length bc] 54) (.cells #[.int .i64 3,.int .i64 dst,.int .i64 0,.int .i64 (f:Int),.slice A n aA] 96) (.cells #[.int .i64 3,.int .i64 dst,.int .i64 0,.int .i64 (f:Int),.slice A n aA] 96)).drew);clear k1 k5 k6;go_enter func35,ntmps35;refine ak λQ HQ=>?_;go_wp2_with fail;go_region;go_wp2_with fail;refine(SX _).mono ?_
      rintro e w' ⟨rfl,rfl⟩;go_wp2_with fail;refine HQ _ _ _ ?_;exact aR (v:= .tuple #[.int .i64 0,.bool false]) (by simp[results,results35,go_sem]) rfl ⟨by rw[HE.out],HW.out⟩
     ·have e7:decide (dst< -1)=false:=by simpa using k6
      by_cases k7:dst<0
      ·have e6:decide (dst<0)=true:=by simpa using k7
       have hr:a8 p g ⟨3,dst,0,(f:Int),ks⟩=eR g.ay g.az.length p.ax.length ks 0:=by
        unfold a8;rw[if_neg (by have h1:=Aa.out;have h2:=HN.out;unfold bK;have h9:(ks.length:Int)=g'.params:=(by simp only[ne_eq,Classical.not_not]at k1;omega);rw[h1 _ _];simp[h9];omega)]
       rw[hr];have HW:=ae ((bN w (.cells #[.slice GA p.ax.length gc,.slice (some ⟨gb,mD,none⟩) p.funcs.length fc,.int .i64 p.main] 31) (.cells #[.int .i64 g.params,.int .i64 g.ay,.slice LA g.az.length lc,.slice BA g.blocks.length bc] 54) (.cells #[.int .i64 3,.int .i64 dst,.int .i64 0,.int .i64 (f:Int),.slice A n aA] 96) (.cells #[.int .i64 3,.int .i64 dst,.int .i64 0,.int .i64 (f:Int),.slice A n aA] 96)).drew);clear hr k1 k5 k6 k7;go_enter func35,ntmps35;refine ak λQ HQ=>?_;go_wp2_with fail;go_region;go_wp2_with fail;refine(SX _).mono ?_;rintro e w' ⟨rfl,rfl⟩;go_wp2_with fail;have SM:=HW
       refine lH g.ay g.az.length p.ax.length w.heap.size (w.heap.size+1) (w.heap.size+1+1) B n ks A GA LA aA gc lc _ (by simp<;>omega) (HK _ HW.out) hlen hg1 qK (by simp[go_sem]) (by simp[go_sem]) (by simp[go_sem]) (by simp[go_sem]) (by simp<;>omega) (by simp<;>omega) (by simp<;>omega) _ _ _ _ _ _ _ _ _ _ _ _ _ _ _ _ _ _ _ _ _ _ _ _ _ _ _ _ _ _ _ _ _ _ _ _ _ _ _ _ _ _ _ _ _ _ _ _ _ _ _ _ _ _ _ _ _ _ _ _ _ _ _ _ _ _ _ _ _ _ _ _ _ _ _ _ _ _ _ _ _ _ _ _ _ _ _ _ _ _ _ _ _ _ _ _ _ _ _ _ _ _ _ _ _ _ _ _ _ _ _ _ _ _ _ _ _ _ _ _ _ _ _ _ _ _ _ _ _ _ _ _ _ _ _ _ _ _ _ _ _ _ ?_ ?_
       ·intro hy u6 u7 BM BX BW pL pK pJ pI pH pG pF pE pD pC pB pA pz pq pg o9 o8 oZ oY oX oW oV u138 oU oT oQ oP oO oN w' hb;have HB:=ae hb;have HY:=ae hy;clear hb hy;go_wp2_with fail;refine HQ _ _ _ ?_;refine aR (v:= .tuple #[.int .i64 (eR g.ay g.az.length p.ax.length ks 0).1,.bool true]) (by simp[results,results35,go_sem]) rfl ⟨by rw[HY.out],HW.trans (HB.mono (by simp<;>omega))⟩
       ·intro hy BM BX BW pL pK pJ pI pH pG pF pE pD pC pB pA pz pq pg o9 o8 oZ oY oX oW oV u138 oU oT oQ oP oO oN Tf w' hb;refine HQ _ _ _ ?_;refine aR (v:= .tuple #[.int .i64 0,.bool false]) (by simp[results,results35,go_sem]) rfl ⟨by rw[gH hy],HW.trans (hb.mono (by simp<;>omega))⟩
      ·have e6:decide (dst<0)=false:=by simpa using k7
       have hr:a8 p g ⟨3,dst,0,(f:Int),ks⟩=eR g.ay g.az.length p.ax.length ks 0:=by
        unfold a8;rw[if_neg (by have h1:=Aa.out;have h2:=HN.out;unfold bK;have h9:(ks.length:Int)=g'.params:=(by simp only[ne_eq,Classical.not_not]at k1;omega);rw[h1 _ _];simp[h9];omega)]
       rw[hr];have HW:=ae ((bN w (.cells #[.slice GA p.ax.length gc,.slice (some ⟨gb,mD,none⟩) p.funcs.length fc,.int .i64 p.main] 31) (.cells #[.int .i64 g.params,.int .i64 g.ay,.slice LA g.az.length lc,.slice BA g.blocks.length bc] 54) (.cells #[.int .i64 3,.int .i64 dst,.int .i64 0,.int .i64 (f:Int),.slice A n aA] 96) (.cells #[.int .i64 3,.int .i64 dst,.int .i64 0,.int .i64 (f:Int),.slice A n aA] 96)).drew);clear hr k1 k5 k6 k7;go_enter func35,ntmps35;refine ak λQ HQ=>?_;go_wp2_with fail;go_region;go_wp2_with fail;refine(SX _).mono ?_;rintro e w' ⟨rfl,rfl⟩;go_wp2_with fail;have SM:=HW
       refine lH g.ay g.az.length p.ax.length w.heap.size (w.heap.size+1) (w.heap.size+1+1) B n ks A GA LA aA gc lc _ (by simp<;>omega) (HK _ HW.out) hlen hg1 qK (by simp[go_sem]) (by simp[go_sem]) (by simp[go_sem]) (by simp[go_sem]) (by simp<;>omega) (by simp<;>omega) (by simp<;>omega) _ _ _ _ _ _ _ _ _ _ _ _ _ _ _ _ _ _ _ _ _ _ _ _ _ _ _ _ _ _ _ _ _ _ _ _ _ _ _ _ _ _ _ _ _ _ _ _ _ _ _ _ _ _ _ _ _ _ _ _ _ _ _ _ _ _ _ _ _ _ _ _ _ _ _ _ _ _ _ _ _ _ _ _ _ _ _ _ _ _ _ _ _ _ _ _ _ _ _ _ _ _ _ _ _ _ _ _ _ _ _ _ _ _ _ _ _ _ _ _ _ _ _ _ _ _ _ _ _ _ _ _ _ _ _ _ _ _ _ _ _ _ ?_ ?_
       ·intro hy u6 u7 BM BX BW pL pK pJ pI pH pG pF pE pD pC pB pA pz pq pg o9 o8 oZ oY oX oW oV u138 oU oT oQ oP oO oN w' hb;have HB:=ae hb;have HY:=ae hy;clear hb hy;go_wp2_with fail;refine HQ _ _ _ ?_;refine aR (v:= .tuple #[.int .i64 (eR g.ay g.az.length p.ax.length ks 0).1,.bool true]) (by simp[results,results35,go_sem]) rfl ⟨by rw[HY.out],HW.trans (HB.mono (by simp<;>omega))⟩
       ·intro hy BM BX BW pL pK pJ pI pH pG pF pE pD pC pB pA pz pq pg o9 o8 oZ oY oX oW oV u138 oU oT oQ oP oO oN Tf w' hb;refine HQ _ _ _ ?_;refine aR (v:= .tuple #[.int .i64 0,.bool false]) (by simp[results,results35,go_sem]) rfl ⟨by rw[gH hy],HW.trans (hb.mono (by simp<;>omega))⟩
end Go.Proofs.YtikbdplllopjlaaGreat
