/- LiveZero: its walk. Conditions: as stated. -/
import Derived.Test.YtlenilbkifofjaaGreatDoorQ14Zz
import Derived.Test.YtlenilbkifofjaaGreatDoorRVirtZz
set_option linter.unusedVariables false
set_option linter.unusedSimpArgs false
set_option maxHeartbeats 8000000
set_option maxRecDepth 100000
namespace Go.Proofs.YtlenilbkifofjaaGreatDoor
open Go.RowKit
theorem within32_any(w:World):Calls Tryz.prog 11 #[.int .i64 3,.int .i64 2] w fun e w'=>e= .returned (.int .i64 1)∧w'=w:=by
 go_enter Tryz.func11,Tryz.ntmps11;go_wp2_with fail;go_ret;exact⟨rfl,rfl⟩
theorem lzero_law(ps:List VirtS)(inp:List Int)(PA IA:Option Addr)(pc ic:Nat)(af:Int)(B:Nat)(w:World)(hB:B≤w.heap.size)(hps:SliceAt w B 3 (VirtE w B) ps (.slice PA ps.length pc))(hin:LongsAt w B inp (.slice IA inp.length ic))(hic:inp.length≤ic∧ic≤9223372036854775807)(hpn:ps.length*56≤140737488351232)(hil:inp.length*8≤140737488351232)
  (hsz:∀p,p∈ps→VirtF p)(hT:TabAt 0 Lib.deBruijn64tab w)(hg:0<w.heap.size):
  Calls Tryz.prog 3 #[.agg #[.slice PA ps.length pc,.slice IA inp.length ic,.int .i64 af]] w fun e w'=>e= .returned (.bool true)∧Below w.heap.size w w':=by
 have HHV:=Lib.hid (heavy14_any ps PA IA ps.length pc inp.length ic af B (w.alloc (.cells #[.slice PA ps.length pc,.slice IA inp.length ic,.int .i64 af] 25)) (by simp;omega) (hps.below ((below1 w _).mono hB) (Nat.le_refl _) (fun _ _ h=>h.below ((below1 w _).mono hB) (Nat.le_refl _))) (by omega) (by omega) (fun p hp=>by
  obtain⟨h1,_,h2,h3⟩:=hsz p hp;exact⟨by omega,fun g hg=>by
   obtain⟨h4,_,h5,h6⟩:=h3 g hg;exact⟨by omega,by omega,fun x hx=>by have h7:=h6 x hx;unfold InsF at h7;omega⟩⟩))
 have HPS:=Lib.hid hps;have HSZ:=Lib.hid hsz;have HIN:=Lib.hid (fun W(hW:Below w.heap.size w W)=>inw_of_longs (LongsAt.below hin (hW.mono hB) (Nat.le_refl _)) hic.1 hic.2);have HTW:=Lib.hid (fun W(hW:Below w.heap.size w W)=>wakes16_any W (tab_below hT hW hg) (by have:=hW.size;omega));have HTB:=Lib.hid (fun W(hW:Below w.heap.size w W)=>(show TabAt 0 Lib.deBruijn64tab W∧0<W.heap.size from⟨tab_below hT hW hg,by have:=hW.size;omega⟩));have hpm:ps.length≤200000000000000:=by omega
 clear hps hsz hT hin hic hpn hil;go_enter Tryz.func3,Tryz.ntmps3;refine wp_letter (fun Q hQ=>?_);have HQ:=Lib.hid hQ;clear hQ;go_wp2_with fail;refine HHV.out.mono ?_;rintro e w1 ⟨hv,rfl,hb1⟩;have HB1:=Lib.hid ((below1 w (.cells #[.slice PA ps.length pc,.slice IA inp.length ic,.int .i64 af] 25)).trans (hb1.mono (below1 w _).size));have HR1:=Lib.hid ((Row.new w #[.slice PA ps.length pc,.slice IA inp.length ic,.int .i64 af] 25).below hb1 (by simp));clear hb1;cases hv with
 |true=>
  go_wp2_with fail;refine HQ.out _ _ _ ?_;exact bodyPost_ret (v:= .bool true) (by simp[results,Tryz.results3,go_sem]) rfl ⟨rfl,HB1.out⟩
 |false=>
  go_wp2_with fail;go_loopw [3] (fun i wr=>∃k:Nat,i= .int .i64 k∧k≤ps.length∧Below w.heap.size w wr∧Row wr w.heap.size #[.slice PA ps.length pc,.slice IA inp.length ic,.int .i64 af] 25) (fun i _=>ps.length-(intOf i).toNat)
  case atStart=>exact⟨0,rfl,by omega,HB1.out,HR1.out⟩
  case round=>
   obtain⟨k,rfl,hk,hbw,hbx⟩:=hrel;have HBW:=Lib.hid hbw;have HBX:=Lib.hid hbx;have r0:=hbx.cell (j:=0) rfl;have rl:=hbx.lt;have hkcase:(k<ps.length∧k<3)∨k=ps.length∨(k<ps.length∧¬k<3):=by omega
   rcases hkcase with⟨hlt,hlt3⟩|hke|⟨hlt,hlt3⟩
   ·obtain⟨qb,qoff,p,hpa,hqb,hk1,hE⟩:=(HPS.out.below (hbw.mono hB) (Nat.le_refl _) (fun _ _ h=>h.below (hbw.mono hB) (Nat.le_refl _))).get hlt;have HPF:=Lib.hid (HSZ.out p (List.mem_of_getElem? hk1));obtain⟨P,c0,c1,c2,hpt⟩:=hE.at;simp only[Nat.add_zero]at c0 c1 c2;subst hpa;obtain⟨GA,gc,FA,fc,hPe⟩:=hpt.shape;subst hPe;simp only at c0 c1 c2;have hqbl:qb<wr.heap.size:=by have:=hbw.size;omega
    have HAT:=Lib.hid hpt;have HPR:=Lib.hid (fun W(hW:Below wr.heap.size wr W)=>rvirt_any p (.slice GA p.globs.length gc,.slice FA p.funcs.length fc,.int .i64 p.main) B W (by have:=hW.size;have:=HBW.out.size;omega) (HAT.out.below (hW.mono (by have:=HBW.out.size;omega))));have HCP:=Lib.hid (fun W(hW:Below wr.heap.size wr W)=>copyVirt_row p B W (fun j=>[Value.slice GA p.globs.length gc,.slice FA p.funcs.length fc,.int .i64 p.main][j]?) _ _ _ (by have:=hW.size;have:=HBW.out.size;omega) ((HAT.out.below (hW.mono (by have:=HBW.out.size;omega))).toE _ rfl rfl rfl) rfl rfl rfl HPF.out);have hkl:(k:Int)<(ps.length:Int):=by omega
    have hkl3:(k:Int)<3:=by omega
    have hd3:decide ((k:Int)<(ps.length:Int))=true:=by simpa using hkl
    have hd4:decide ((k:Int)<3)=true:=by simpa using hkl3
    have HB2:=Lib.hid (below1 wr (.cells #[.slice GA p.globs.length gc,.slice FA p.funcs.length fc,.int .i64 p.main] 30));have HVB:=Lib.hid (Row.new wr #[.slice GA p.globs.length gc,.slice FA p.funcs.length fc,.int .i64 p.main] 30);clear hk1 hE hpt hbw hbx;cases hmb:vmayB p with
    |false=>
     rw[hmb]at HPR;clear hmb;go_wp2_with fail;refine(HPR.out _ HB2.out).mono ?_;rintro e w2 ⟨rfl,hb2⟩;have HB3:=Lib.hid (HB2.out.trans (hb2.mono HB2.out.size));clear hb2;go_wp2_with fail;go_roundw
     case rel=>exact⟨k+1,by go_num,by omega,HBW.out.trans (HB3.out.mono HBW.out.size),HBX.out.below (HB3.out) HBX.out.lt⟩
     case measure=>simp[intOf];omega
    |true=>
     have HMB:=Lib.hid hmb;rw[hmb]at HPR;clear hmb;go_wp2_with fail;obtain⟨vb,hvb⟩:∃vb,vb=wr.heap.size:=⟨_,rfl⟩
     obtain⟨w2,hw2⟩:∃w2:World,w2=wr.alloc (.cells #[.slice GA p.globs.length gc,.slice FA p.funcs.length fc,.int .i64 p.main] 30):=⟨_,rfl⟩
     rw[←hw2]at HB2 HVB;rw[←hvb]at HVB;rw[←hw2,←hvb];clear hw2 hvb;clear r0 rl c0 c1 c2;refine(HPR.out _ HB2.out).mono ?_;rintro e w3 ⟨rfl,hb3⟩;have HB3:=Lib.hid (HB2.out.trans (hb3.mono HB2.out.size));have HVB3:=Lib.hid (HVB.out.below hb3 HVB.out.lt);have v0:=HVB3.out.cell (j:=0) rfl;have v1:=HVB3.out.cell (j:=1) rfl;have v2:=HVB3.out.cell (j:=2) rfl;have vl:=HVB3.out.lt;clear hb3 HVB;go_wp2_with fail;refine(HCP.out _ HB3.out).mono ?_;rintro e w4 ⟨XA,xc,base,YA,yc,xs,rfl,hcg,hcf,hcm,hcb,hb4⟩;have HXB:=Lib.hid (Row.new w4 #[.slice XA p.globs.length xc,.slice YA p.funcs.length yc,.int .i64 p.main] 30);have HB5:=Lib.hid (below1 w4 (.cells #[.slice XA p.globs.length xc,.slice YA p.funcs.length yc,.int .i64 p.main] 30));have HBS:=Lib.hid hcb.1;have hbsz:base≤w4.heap.size:=hcb.2
     have HCV:=Lib.hid (CopyV.below (⟨hcg,hcf,hcm,hbsz⟩:CopyV w4 base XA xc YA yc xs p) HB5.out);have HB4:=Lib.hid (hb4.trans (HB5.out.mono hb4.size));have HXV:=Lib.hid (show vb<w4.heap.size from by have:=hb4.size;omega);clear hcg hcf hcm hcb hb4 hbsz v0 v1 v2 vl;go_wp2_with fail;obtain⟨xb,hxb⟩:∃xb,xb=w4.heap.size:=⟨_,rfl⟩
     obtain⟨w5,hw5⟩:∃w5:World,w5=w4.alloc (.cells #[.slice XA p.globs.length xc,.slice YA p.funcs.length yc,.int .i64 p.main] 30):=⟨_,rfl⟩
     rw[←hw5]at HB4 HB5 HXB HCV;rw[←hxb]at HXB;rw[←hw5,←hxb];clear hw5 hxb;obtain⟨wo,rfl⟩:∃wo:World,wo=wr:=⟨_,rfl⟩
     go_loopw [6,7] (fun mo f wr2=>∃(n M:Nat)(hss:List (List Int))(p':VirtS)(xs:List Value),f= .int .i64 n∧mo= .int .i64 M∧n≤p.funcs.length∧M≤8000∧(∀hs,hs∈hss→hs.length≤M)∧(∀(j:Nat)hs c,hss[j]? =some hs→p.funcs[j]? =some c→∀r,r∈hs→c.params≤r)∧CopyV wr2 base XA xc YA yc xs p'∧Part p p' hss n∧Row wr2 xb #[.slice XA p.globs.length xc,.slice YA p.funcs.length yc,.int .i64 p.main] 30∧Below w3.heap.size w3 wr2) (fun _ f _=>p.funcs.length-(intOf f).toNat)
     case atStart=>exact⟨0,0,[],p,xs,rfl,rfl,by omega,by omega,fun hs h=>by simp at h,fun j hs c h=>by simp at h,HCV.out,Part.start p,HXB.out,HB4.out⟩
     case round=>
      obtain⟨n,M,hss,p',xs',rfl,rfl,hn,hM,hhl,hhp,hcv,hpart,hxr,hb6⟩:=hrel;obtain⟨wr2,rfl⟩:∃wr2:World,wr2=wr:=⟨_,rfl⟩
      have HB6:=Lib.hid hb6;have HCV6:=Lib.hid hcv;have HXR:=Lib.hid hxr;have HPT:=Lib.hid hpart;have HH:=Lib.hid (show(∀hs,hs∈hss→hs.length≤M)∧(∀(j:Nat)hs c,hss[j]? =some hs→p.funcs[j]? =some c→∀r,r∈hs→c.params≤r)from⟨hhl,hhp⟩);have hvr:=HVB3.out.below hb6 HVB3.out.lt;have HVR:=Lib.hid hvr;have v0:=hvr.cell (j:=0) rfl;have v1:=hvr.cell (j:=1) rfl;have v2:=hvr.cell (j:=2) rfl;have vl:=hvr.lt;have HBO:=Lib.hid (HB3.out.trans (hb6.mono HB3.out.size));have hfl:p.funcs.length≤2199023255552:=by have:=HPF.out.2.2.1;omega
      have hbr:B≤wo.heap.size:=by have:=HBW.out.size;omega
      clear hhl hhp hcv hpart hxr hb6 hvr;by_cases hnlt:n<p.funcs.length
      ·obtain⟨fb,foff,c,hFAe,hfb,hfk,d0,d1,⟨lv,d2,hlv⟩,⟨iv,d3,hiv⟩,hi0,hi1⟩:=(HAT.out.2.1.below (HBO.out.mono hbr) (Nat.le_refl _) (fun _ _ h=>h.below (HBO.out.mono hbr) (Nat.le_refl _))).get hnlt;subst hFAe;simp only[Nat.add_zero]at d0 d1 d2 d3;obtain⟨LA,lc,rfl,_⟩:=id hlv;obtain⟨BA,bc,rfl,_⟩:=id hiv;have hcm:=List.mem_of_getElem? hfk;have HCF:=Lib.hid (HPF.out.2.2.2 c hcm);have HAL:=Lib.hid (may_alone HMB.out hcm);have HFK:=Lib.hid hfk;have hc8:c.ins.length≤8000∧1≤c.ins.length∧0≤c.params∧c.params≤4∧c.regs≤8000:=by
        obtain⟨q1,q2,q3,q4,_,q5,q6,_⟩:=(alone_all HAL.out).1;omega
       have fbl:fb<wr2.heap.size:=by have:=HBO.out.size;omega
       have hn0:(0:Int)≤(n:Int):=by omega
       have hni:(n:Int)<(p.funcs.length:Int):=by omega
       have hdn:decide ((n:Int)<(p.funcs.length:Int))=true:=decide_eq_true hni;have HLV:=Lib.hid (llive_any c LA lc BA bc B wr2 (by have:=HBO.out.size;omega) hlv hiv (fun x hx=>HCF.out.2.2.2 x hx) (HTB.out _ (HBW.out.trans (HBO.out.mono HBW.out.size))).1 (HTB.out _ (HBW.out.trans (HBO.out.mono HBW.out.size))).2);have D0:=Lib.hid d0;have D3:=Lib.hid d3;clear hlv hiv hi0 hi1 hfk hcm;go_wp2_with fail;refine HLV.out.mono ?_;intro e w6 h;obtain⟨h1,_,hb7⟩:=h;obtain⟨rows,A4,c4,hlv2,rfl,hsl⟩:=h1 HAL.out;have HIL:=Lib.hid hlv2;have HSL:=Lib.hid hsl;have HB7:=Lib.hid hb7;have hrq:rows.length=c.ins.length+1:=hlv2.len;have hvr:=HVR.out.below hb7 HVR.out.lt;have u0:=hvr.cell (j:=0) rfl;have u1:=hvr.cell (j:=1) rfl;have u2:=hvr.cell (j:=2) rfl;have ul:=hvr.lt;have f0:=cell_below D0.out hb7 fbl;have f3:=cell_below D3.out hb7 fbl
       have fl:=Nat.lt_of_lt_of_le fbl hb7.size;clear h1 hb7 hlv2 hsl hvr v0 v1 v2 vl d0 d1 d2 d3;go_wp2_with fail;refine(lnum16_any 0 _).mono ?_;rintro e w' ⟨rfl,hw'⟩;rw[hw'];clear hw' w';have hrz:(rows.length:Int)=(c.ins.length:Int)+1:=by omega
       have hdr:decide ((rows.length:Int)=(c.ins.length:Int)+1)=true:=decide_eq_true hrz;go_wp2_with fail;obtain⟨w7,rfl⟩:∃w7:World,w7=w6:=⟨_,rfl⟩
       obtain⟨i0,hi,hz0,hz1,hz2⟩:=info_parts cins_info;obtain⟨rb,roff,row,hA4,hrb,hrow,rv,rg,hrv⟩:=SliceAt.get HSL.out (k:=0) (by omega);subst hA4;simp only[Nat.zero_mul,Nat.add_zero]at rg;obtain⟨A5,c5,rfl,_⟩:=id hrv;have hrm:=List.mem_of_getElem? hrow;have HRI:=Lib.hid (live_in HAL.out HIL.out hrm);have hr8:row.length≤8000:=live_few HAL.out HIL.out hrm;have HRV:=Lib.hid hrv;have HRG:=Lib.hid rg;have HB27:=Lib.hid (HB6.out.trans (HB7.out.mono HB6.out.size));have hr0:(0:Int)<(rows.length:Int):=by omega
       clear u0 u1 u2 ul f0 f3 fl hrow hrm hrv rg hrz hdr;go_loopw [10,11] (fun hd jv wr3=>∃(j:Nat)(hv:Value),hv=hd∧jv= .int .i64 j∧j≤row.length∧Below w7.heap.size w7 wr3∧wr3.ownsRow w7.heap.size 43 6 hd (zeroL c (row.take j)).length (headC (zeroL c (row.take j)))) (fun _ jv _=>row.length-(intOf jv).toNat)
       case atStart=>exact⟨0,_,rfl,rfl,Nat.zero_le _,Below.refl _ _,World.ownsRow_nil _ _ _ _⟩
       case round=>
        obtain⟨j,hv,rfl,rfl,hj,hbj,how⟩:=hrel;obtain⟨wr3,rfl⟩:∃wr3:World,wr3=wr:=⟨_,rfl⟩
        have HBJ:=Lib.hid hbj;have HOW:=Lib.hid how;have g0:=cell_below HRG.out hbj hrb;have gl:=Nat.lt_of_lt_of_le hrb hbj.size;by_cases hjlt:j<row.length
        ·obtain⟨lb,loff,r,hA5,hlb,hr,l0,hri⟩:=SliceAt.get (LongsAt.below HRV.out hbj (Nat.le_refl _)) hjlt;subst hA5;simp only[Nat.mul_one,Nat.add_zero]at l0;have HR:=Lib.hid hr;have HL0:=Lib.hid l0;have ll:=Nat.lt_of_lt_of_le hlb hbj.size;have HB2J:=Lib.hid (HB7.out.trans (hbj.mono HB7.out.size));have hvr:=HVR.out.below HB2J.out HVR.out.lt;have u0:=hvr.cell (j:=0) rfl;have u1:=hvr.cell (j:=1) rfl;have u2:=hvr.cell (j:=2) rfl;have ul:=hvr.lt;have f0:=cell_below D0.out HB2J.out fbl;have fl:=Nat.lt_of_lt_of_le fbl HB2J.out.size;have hj0:(0:Int)≤(j:Int):=by omega
         have hj1:(j:Int)<(row.length:Int):=by omega
         have hdj:decide ((j:Int)<(row.length:Int))=true:=decide_eq_true hj1;clear hbj how hvr hr;by_cases hrp:c.params≤r
         ·have hdp:decide (c.params≤r)=true:=decide_eq_true hrp;go_wp2_with fail;refine region_grow (by kernel_rfl) (by kernel_rfl) (fun hG=>?_)
          repeat(go_big_quiet_step (fail))
          refine wpQuiet_nil ?_;rintro⟨W9,hb9⟩
          dsimp only
          have HB9:=Lib.hid (HBJ.out.trans (hb9.mono HBJ.out.size));have g9:=cell_below HRG.out HB9.out hrb;have gl9:=Nat.lt_of_lt_of_le hrb HB9.out.size;have l9:=(hb9.cell (p:=⟨lb,loff+j,none⟩) ll).trans HL0.out;have ll9:=Nat.lt_of_lt_of_le ll hb9.size;have HOW9:=Lib.hid (ownsRow_wr HOW.out (Wr.of_below (F:=fun _=>False) hb9) (fun _ _ h=>h));have hz9:=HB9.out.size;have hzl:(zeroL c (row.take j)).length≤8000:=by have:=zeroL_len (c:=c) (row:=row.take j);simp at this;omega
          clear hb9 g0 gl l0 ll u0 u1 u2 ul f0 fl hdp;go_wp2_with(at_builtin;refine wpList_append_lies _ rfl (.tmp 90) (.tmp 98) 37 rfl w7.heap.size 43 i0 (.agg #[.int .i64 0,.int .i64 0,.int .i64 0,.int .i64 0,.int .i64 0,.slice none 0 0]) 6 64 Tryz.underlying37 hi hz0 hz1 hz2 rfl (by decide) _ (zeroL c (row.take j)).length (headC (zeroL c (row.take j))) rfl (ownsRow_wr HOW9.out ((Wr.refl (fun _=>False) _).allocR _) (fun _ _ h=>h)) ⟨W9.heap.size,0,none⟩ 1 1 [.int .i64 1,.int .i64 r,.int .i64 0,.int .i64 0,.int .i64 0,.slice none 0 0] rfl rfl ?c1 ?c2 (by decide) ?c3 ?c4 ?c5 _ rfl ?_)
          case c1=>exact cells_new _ _ _
          case c2=>intro u hu;simp at hu;rcases hu with rfl|rfl|rfl|rfl<;>rfl
          case c3=>unfold maxLen;omega
          case c4=>omega
          case c5=>first|omega|(simp<;>omega)
          ·intro g cap' w8 hown3 hgrow hat hglt;have hze:zeroL c (row.take (j+1))=zeroL c (row.take j)++[r]:=by rw[zeroL_take HR.out,if_pos hrp]
           have HON:=Lib.hid (show w8.ownsRow w7.heap.size 43 6 (.slice (some ⟨g,0,none⟩) ((zeroL c (row.take j)).length+1) cap') (zeroL c (row.take (j+1))).length (headC (zeroL c (row.take (j+1))))from by rw[hze,List.length_append,headC_snoc];exact hown3);have HBN:=Lib.hid (show Below w7.heap.size w7 w8 from(HB9.out.alloc (by omega) _).grown hgrow (by first|omega|(simp<;>omega)) (fun g hg=>(ownsRow_row HOW9.out hg).1));clear hown3 hgrow hat hze;go_wp2_with fail;go_roundw
           case rel=>exact⟨j+1,_,rfl,by go_num,hjlt,HBN.out,HON.out⟩
           case measure=>simp[intOf];omega
         ·have hdp:decide (c.params≤r)=false:=decide_eq_false hrp;go_wp2_with fail;refine region_grow (by kernel_rfl) (by kernel_rfl) (fun hG=>?_)
          repeat(go_big_quiet_step (fail))
          refine wpQuiet_nil ?_;rintro⟨W9,hb9⟩
          dsimp only
          have HB9:=Lib.hid (HBJ.out.trans (hb9.mono HBJ.out.size));have HOW9:=Lib.hid (show W9.ownsRow w7.heap.size 43 6 hv (zeroL c (row.take (j+1))).length (headC (zeroL c (row.take (j+1))))from by
           rw[zeroL_take HR.out,if_neg (by omega),List.append_nil];exact ownsRow_wr HOW.out (Wr.of_below (F:=fun _=>False) hb9) (fun _ _ h=>h))
          clear hb9 g0 gl l0 ll u0 u1 u2 ul f0 fl hdp;go_wp2_with fail;go_roundw
          case rel=>exact⟨j+1,_,rfl,by go_num,hjlt,HB9.out,HOW9.out⟩
          case measure=>simp[intOf];omega
        ·obtain rfl:j=row.length:=by omega
         have hdj:decide ((row.length:Int)<(row.length:Int))=false:=by simp
         obtain⟨hs,hhs⟩:∃hs,hs=zeroL c row:=⟨_,rfl⟩
         rw[List.take_length,←hhs]at HOW;obtain⟨HA,hcap,hhv⟩:=ownsRow_slice HOW.out;subst hhv;have hh8:hs.length≤8000:=by rw[hhs];have:=zeroL_len (c:=c) (row:=row);omega
         have HHI:=Lib.hid (show∀r,r∈hs→In64 r∧c.params≤r from by
          intro r hr;rw[hhs]at hr;obtain⟨h1,h2⟩:=List.mem_filter.1 hr;have h3:=HRI.out r h1;exact⟨by unfold In64;omega,by simpa using h2⟩)
         have hhi:(hs.length:Int)≤8000:=by omega
         have hmi:(M:Int)≤8000:=by omega
         clear hbj how hhs;have hyl:=HOW.out;obtain⟨g,ib,io,ic2,news,hYA,hgb,hgl,hfz,hgc,hibl,hnl,hnews,hput⟩:=HCV6.out.ready (HPT.out.here HFK.out) (by omega);subst hYA;have HB23:=Lib.hid (HB7.out.trans (HBJ.out.mono HB7.out.size));have HS7:=Lib.hid (show wr2.heap.size≤w7.heap.size∧w7.heap.size≤wr3.heap.size from⟨HB7.out.size,HBJ.out.size⟩);obtain⟨_,gcs,hgrow⟩:=ownsRow_row HCV6.out.funcs.own (g:=g) rfl;have HGX:=Lib.hid (show xb≠g from HXR.out.ne hgrow (by decide));have HPUT:=Lib.hid hput;have HGC:=Lib.hid (cell_below hgc HB23.out hgl);have HFZ:=Lib.hid (show wr3.frozen? ⟨g,n*4+3,none⟩=false from by rw[frozen_of_heap (a:=⟨g,n*4+3,none⟩) (HB23.out.block g hgl)];exact hfz)
         have HNW:=Lib.hid (show∀j u,news[j]? =some u→wr3.cell? ⟨ib,io+j,none⟩=some u∧u.oneCell'=true from fun j u hu=>⟨cell_below (hnews j u hu).1 HB23.out hibl,(hnews j u hu).2⟩);have HGL:=Lib.hid hgl;have HGB:=Lib.hid hgb;have HIB:=Lib.hid hibl;have HNL:=Lib.hid hnl;clear hyl hput hgc hfz hnews hgl hgb hibl hnl hgrow;go_wp2_with fail
         refine lzB_region xb g n p.globs.length xc p.funcs.length yc ib io c.ins.length ic2 hs.length w7.heap.size XA p.main (.slice HA hs.length hcap) (headC hs) news wr3 (HXR.out.below HB23.out HXR.out.lt) hnlt HGC.out HFZ.out (Nat.lt_of_lt_of_le HGL.out HB23.out.size) (by omega) HNL.out HNW.out HOW.out HS7.out.2 ⟨Nat.lt_of_lt_of_le HXR.out.lt HS7.out.1,Nat.lt_of_lt_of_le HGL.out HS7.out.1⟩ (Nat.lt_of_lt_of_le HIB.out HS7.out.1) ⟨hh8,hc8.1⟩ _ _ _ _ _ _ _ _ _ _ _ _ _ _ _ _ _ _ _ _ _ _ _ _ _ _ _ _ _ _ _ _ _ _ _ _ _ _ _ _ _ _ _ _ _ _ _ _ _ _ _ _ _ _ _ _ _ _ _ _ _ _ _ _ _ _ _ _ _ _ _ _ _ _ _ _ _ _ _ _ _ _ _ _ _ _ _ _ _ _ _ _ _ _ _ _ _ _ _ _ _ _ _ _ _ _ _ _ _ _ _ _ _ _ _ _ _ _ _ _ _ _ _ _ _ _ _ _ _ _ _ _ _ _ _ _ _ _ _ _ _ _ _ _ _ _ _ _ _ _ _ _ _ _ _ _ _ _ _ _ (fun W q cap y0 y1 y2 y3 y4 y5 y6 y7 y8 y9 y10 y11 y12 hown hbW=>?_);have HBW3:=Lib.hid (HB23.out.trans (hbW.mono HS7.out.1))
         have HCN:=Lib.hid (HPUT.out hs W w7.heap.size q cap (fun r h=>(HHI.out r h).1) (by omega) HBW3.out HS7.out.1 hown);have HPN:=Lib.hid (HPT.out.next HFK.out hs);have HXN:=Lib.hid ((HXR.out.below HBW3.out HXR.out.lt).other HGX.out (n*4+3) (.slice (some ⟨q,0,none⟩) (hs.length+c.ins.length) cap));have HBN:=Lib.hid ((HB6.out.trans (HBW3.out.mono HB6.out.size)).setCell (p:=⟨g,n*4+3,none⟩) (Nat.le_trans HBS.out HGB.out) (.slice (some ⟨q,0,none⟩) (hs.length+c.ins.length) cap));have HHN:=Lib.hid (heads_next HH.out.1 HH.out.2 HPT.out.done HFK.out (fun r h=>(HHI.out r h).2));obtain⟨WS,hWS⟩:∃WS:World,WS=W.setCell ⟨g,n*4+3,none⟩ (.slice (some ⟨q,0,none⟩) (hs.length+c.ins.length) cap):=⟨_,rfl⟩
         rw[←hWS]at HCN HXN HBN;rw[←hWS];clear hWS hown hbW;go_wp2_with fail;go_roundw
         case rel=>exact⟨n+1,max M hs.length,_,_,_,by go_num,by go_num,hnlt,by omega,HHN.out.1,HHN.out.2,HCN.out,HPN.out,HXN.out,HBN.out⟩
         case measure=>simp[intOf];omega
      ·obtain rfl:n=p.funcs.length:=by omega
       have hdn:decide ((p.funcs.length:Int)<(p.funcs.length:Int))=false:=by simp
       have HPX:=Lib.hid (fun W(hW:Below wr2.heap.size wr2 W)=>rvirt_any p' (.slice XA p'.globs.length xc,.slice YA p'.funcs.length yc,.int .i64 p'.main) wr2.heap.size W hW.size (HCV6.out.virt.below hW));rw[HPT.out.globs,HPT.out.len,HPT.out.main]at HPX;have x0:=HXR.out.cell (j:=0) rfl;have x1:=HXR.out.cell (j:=1) rfl;have x2:=HXR.out.cell (j:=2) rfl;have xl:=HXR.out.lt;have HBR2:=Lib.hid (HBW.out.trans (HBO.out.mono HBW.out.size));cases hvx:vmayB p' with
       |false=>
        rw[hvx]at HPX;go_wp2_with fail;refine(HPX.out _ (Below.refl _ _)).mono ?_;rintro e w7 ⟨rfl,hb7⟩;have HB7:=Lib.hid (HBO.out.trans (hb7.mono HBO.out.size));clear hb7;go_wp2_with fail;go_roundw
        case rel=>exact⟨k+1,by go_num,by omega,HBW.out.trans (HB7.out.mono HBW.out.size),HBX.out.below (HB7.out) HBX.out.lt⟩
        case measure=>simp[intOf];omega
       |true=>
        rw[hvx]at HPX;have HVX:=Lib.hid hvx;clear hvx;go_wp2_with fail;refine(HPX.out _ (Below.refl _ _)).mono ?_;rintro e w7 ⟨rfl,hb7⟩;have HB7:=Lib.hid hb7;have HB07:=Lib.hid (HBO.out.trans (hb7.mono HBO.out.size));have hvr:=HVR.out.below hb7 HVR.out.lt;have u0:=hvr.cell (j:=0) rfl;have u1:=hvr.cell (j:=1) rfl;have u2:=hvr.cell (j:=2) rfl;have ul:=hvr.lt;have hbb:=HBX.out.below HB07.out HBX.out.lt;have b0:=hbb.cell (j:=0) rfl;have b1:=hbb.cell (j:=1) rfl;have b2:=hbb.cell (j:=2) rfl;have bl:=hbb.lt;have HRUN1:=Lib.hid (rrun_main B 1000 p inp GA FA IA gc fc ic w7 (by have:=HB07.out.size;omega) (HAT.out.below (HB07.out.mono hbr)) (HIN.out w7 (HBW.out.trans (HB07.out.mono HBW.out.size))) HMB.out (by decide) (by decide));have HLF:=Lib.hid (lz_fuel hM HMB.out HAT.out.pin inp)
        have HSM:=Lib.hid (lz_same (f:=1000) HPT.out HH.out.1 HH.out.2 HMB.out HAT.out.pin inp (by decide));obtain⟨o1,ho1⟩:∃o,o=runF (virtG p) inp 1000:=⟨_,rfl⟩
        rw[←ho1]at HRUN1 HLF HSM;obtain⟨k1,q1,l1,s1,d1⟩:=o1;simp only at HLF HSM;clear hb7 hvr hbb v0 v1 v2 vl x0 x1 x2 xl ho1;go_wp2_with fail;refine HRUN1.out.mono ?_;rintro e w8 ⟨ov1,rfl,hown1,hb8⟩
        dsimp only at hown1
        obtain⟨OA1,oc1,hov1⟩:=ownsRow_slice hown1;subst hov1;have HB8:=Lib.hid (HB07.out.trans (hb8.mono HB07.out.size));have HOV1:=Lib.hid (ReadsL.of_own hown1);have HB78:=Lib.hid (HB7.out.trans (hb8.mono HB7.out.size));clear hown1 hb8 u0 u1 u2 ul b0 b1 b2 bl;have hx9:=(HXR.out.below HB78.out HXR.out.lt).alloc (.cells #[.int .i64 k1,.int .i64 q1,.slice OA1 l1.length oc1,.int .i64 s1,.int .i64 d1] 45);have hb9:=(HBX.out.below HB8.out HBX.out.lt).alloc (.cells #[.int .i64 k1,.int .i64 q1,.slice OA1 l1.length oc1,.int .i64 s1,.int .i64 d1] 45);have HX9:=Lib.hid hx9;have HBB9:=Lib.hid hb9;have HO9:=Lib.hid (Row.new w8 #[.int .i64 k1,.int .i64 q1,.slice OA1 l1.length oc1,.int .i64 s1,.int .i64 d1] 45);have HB9:=Lib.hid (below1 w8 (.cells #[.int .i64 k1,.int .i64 q1,.slice OA1 l1.length oc1,.int .i64 s1,.int .i64 d1] 45));have x0:=hx9.cell (j:=0) rfl
        have x1:=hx9.cell (j:=1) rfl;have x2:=hx9.cell (j:=2) rfl;have xl:=hx9.lt;have b0:=hb9.cell (j:=0) rfl;have b1:=hb9.cell (j:=1) rfl;have b2:=hb9.cell (j:=2) rfl;have bl:=hb9.lt;obtain⟨hs0,hs1,hf0,hf1⟩:=HLF.out;have hm0:(0:Int)≤(M:Int):=by omega
        have hm1:(M:Int)≤8000:=by omega
        clear hx9 hb9;go_wp2_with fail;obtain⟨ob,hob⟩:∃ob,ob=w8.heap.size:=⟨_,rfl⟩
        obtain⟨w9,hw9⟩:∃w9:World,w9=w8.alloc (.cells #[.int .i64 k1,.int .i64 q1,.slice OA1 l1.length oc1,.int .i64 s1,.int .i64 d1] 45):=⟨_,rfl⟩
        rw[←hw9]at HX9 HBB9 HO9 HB9;rw[←hob]at HO9;rw[←hw9,←hob];clear hw9 hob x0 x1 x2 xl b0 b1 b2 bl;have HB29:=Lib.hid (HB78.out.trans (HB9.out.mono HB78.out.size));have HB09:=Lib.hid (HB8.out.trans (HB9.out.mono HB8.out.size));have HRUN2:=Lib.hid (rrun_main w9.heap.size ((s1+10)*((M:Int)+1)) p' inp XA YA IA xc yc ic w9 (Nat.le_refl _) (HCV6.out.below HB29.out).virt ((HIN.out w9 (HBW.out.trans (HB09.out.mono HBW.out.size))).up (by have:=HB09.out.size;omega)) HVX.out hf0 hf1);obtain⟨o2,ho2⟩:∃o,o=runF (virtG p') inp ((s1+10)*((M:Int)+1)):=⟨_,rfl⟩
        rw[←ho2]at HRUN2 HSM;rw[HPT.out.globs,HPT.out.len,HPT.out.main]at HRUN2;clear ho2;refine HRUN2.out.mono ?_;rintro e w10 ⟨ov2,rfl,hown2,hb10⟩;obtain⟨k2,q2,l2,s2,d2⟩:=o2
        dsimp only at hown2
        obtain⟨OA2,oc2,hov2⟩:=ownsRow_slice hown2;subst hov2;have HB10:=Lib.hid hb10;have HOV2:=Lib.hid (ReadsL.of_own hown2);have HO10:=Lib.hid (HO9.out.below hb10 HO9.out.lt);have HO11:=Lib.hid ((HO9.out.below hb10 HO9.out.lt).alloc (.cells #[.int .i64 k2,.int .i64 q2,.slice OA2 l2.length oc2,.int .i64 s2,.int .i64 d2] 45));have HP11:=Lib.hid (Row.new w10 #[.int .i64 k2,.int .i64 q2,.slice OA2 l2.length oc2,.int .i64 s2,.int .i64 d2] 45);have HB11:=Lib.hid (below1 w10 (.cells #[.int .i64 k2,.int .i64 q2,.slice OA2 l2.length oc2,.int .i64 s2,.int .i64 d2] 45));have HE11:=Lib.hid (HB09.out.trans ((hb10.trans (HB11.out.mono hb10.size)).mono HB09.out.size));have o0:=HO11.out.cell (j:=0) rfl;have o1c:=HO11.out.cell (j:=1) rfl;have o2c:=HO11.out.cell (j:=2) rfl;have ol:=HO11.out.lt;clear hb10 hown2;by_cases hk1:k1=1
        ·obtain⟨e1,e2,e3⟩:=HSM.out hk1;simp only at e1 e2 e3;subst hk1 e1 e2 e3;have HEQ:=Lib.hid (eqLongs_read l2 (.slice OA1 l2.length oc1) (.slice OA2 l2.length oc2) (w10.alloc (.cells #[.int .i64 1,.int .i64 q2,.slice OA2 l2.length oc2,.int .i64 s2,.int .i64 d2] 45)) ((HOV1.out.below HB9.out).below HB10.out|>.below HB11.out) (HOV2.out.below HB11.out));clear HSM;go_wp2_with fail;refine HEQ.out.mono ?_;rintro e w12 ⟨rfl,hb12⟩;have HB12:=Lib.hid (HE11.out.trans (hb12.mono HE11.out.size));clear hb12 o0 o1c o2c ol;go_wp2_with fail;go_roundw
         case rel=>exact⟨k+1,by go_num,by omega,HBW.out.trans (HB12.out.mono HBW.out.size),HBX.out.below (HB12.out) HBX.out.lt⟩
         case measure=>simp[intOf];omega
        ·have hdk:decide (k1=1)=false:=decide_eq_false hk1;clear HSM;go_wp2_with fail;go_roundw
         case rel=>exact⟨k+1,by go_num,by omega,HBW.out.trans (HE11.out.mono HBW.out.size),HBX.out.below (HE11.out) HBX.out.lt⟩
         case measure=>simp[intOf];omega
   ·subst hke;have hd3:decide ((ps.length:Int)<(ps.length:Int))=false:=by simp
    clear hbw hbx;go_wp2_with fail;refine(within32_any _).mono ?_;rintro e w2 ⟨rfl,hw2⟩;rw[hw2];clear hw2 w2;go_wp2_with fail;refine(HTW.out _ HBW.out).mono ?_;rintro e w2 ⟨rfl,hb2⟩;have HB2:=Lib.hid (HBW.out.trans (hb2.mono HBW.out.size));clear hb2;go_wp2_with fail;refine HQ.out _ _ _ ?_;exact bodyPost_ret (v:= .bool true) (by simp[results,Tryz.results3,go_sem]) rfl ⟨rfl,HB2.out⟩
   ·have hd3:decide ((k:Int)<(ps.length:Int))=true:=by simpa using hlt
    have hd4:decide ((k:Int)<3)=false:=by simp;omega
    have hkl:(k:Int)<(ps.length:Int):=by omega
    clear hbw hbx;go_wp2_with fail;refine(within32_any _).mono ?_;rintro e w2 ⟨rfl,hw2⟩;rw[hw2];clear hw2 w2;go_wp2_with fail;refine(HTW.out _ HBW.out).mono ?_;rintro e w2 ⟨rfl,hb2⟩;have HB2:=Lib.hid (HBW.out.trans (hb2.mono HBW.out.size));clear hb2;go_wp2_with fail;refine HQ.out _ _ _ ?_;exact bodyPost_ret (v:= .bool true) (by simp[results,Tryz.results3,go_sem]) rfl ⟨rfl,HB2.out⟩
end Go.Proofs.YtlenilbkifofjaaGreatDoor
