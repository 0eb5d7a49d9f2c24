/- The page's Virt. Conditions: as stated. -/
import Derived.Test.YtlenilbkifofjaaGreatDoorQ09Zz
import Derived.Test.YtlenilbkifofjaaGreatDoorQ13Zz
import Derived.Test.YtlenilbkifofjaaGreatDoorQ03Zz
set_option linter.unusedVariables false
set_option linter.unusedSimpArgs false
set_option maxHeartbeats 8000000
set_option maxRecDepth 100000
namespace Go.Proofs.YtlenilbkifofjaaGreatDoor
open Go.RowKit
theorem parV_list(p:VirtS)(n k:Int)(h0:0≤n)(h1:n<p.funcs.length):parV p n k=decide ((p.funcs.map CodeS.params).getD n.toNat 0=k):=by
 obtain⟨m,rfl⟩:=Int.eq_ofNat_of_zero_le h0;have hm:m<p.funcs.length:=by omega
 unfold parV;rw[Int.toNat_natCast,List.getD_eq_getElem?_getD,List.getD_eq_getElem?_getD,List.getElem?_map,List.getElem?_eq_getElem hm];rfl
theorem rvirt_any(p:VirtS)(P:Value×Value×Value)(B:Nat)(w:World)(hB:B≤w.heap.size)(hP:VirtAt w B P p):
  Calls Tryz.prog 5 #[.agg #[P.1,P.2.1,P.2.2]] w fun e w'=>e= .returned (.bool (vmayB p))∧Below w.heap.size w w':=by
 obtain⟨GA,gc,FA,fc,rfl⟩:=hP.shape;have hfl:=hP.2.1.len.2;have hgl:=hP.1.len.2;have HPIN:=Lib.hid (fun(g:CodeS)(hg:g∈p.funcs)=>(show In64 g.params from by obtain⟨c,hc⟩:=SliceAt.mem' hP.2.1 hg;exact hc.2.2.2.2.1));have HO:=Lib.hid (fun W(hb:Below w.heap.size w W)=>objs_any p.globs GA p.globs.length gc 16 B W (by have:=hb.size;omega) (hP.1.below (hb.mono hB) (Nat.le_refl _) (fun _ _ h=>h.below (hb.mono hB) (Nat.le_refl _))));have HBT:=Lib.hid (fun W=>between_any (p.funcs.length:Int) 1 8 W);have HNM:=Lib.hid (fun W=>num_any p.main ((p.funcs.length:Int)-1) W);have HPB:=Lib.hid (Row.new w #[.slice GA p.globs.length gc,.slice FA p.funcs.length fc,.int .i64 p.main] 30);have HP:=Lib.hid hP;clear hP;cases c1:objsB p.globs 16 with
 |false=>
  rw[c1]at HO;have HE:=Lib.hid (show vmayB p=false from by unfold vmayB;rw[if_neg (fun h=>absurd h.1 (by rw[c1];decide))]);clear c1;go_enter Tryz.func5,Tryz.ntmps5;refine wp_letter (fun Q hQ=>?_);have HQ:=Lib.hid hQ;clear hQ;go_wp2_with fail;refine(HO.out _ (below1 w _)).mono ?_;rintro e w1 ⟨rfl,hb1⟩;have HB1:=Lib.hid ((below1 w (.cells #[.slice GA p.globs.length gc,.slice FA p.funcs.length fc,.int .i64 p.main] 30)).trans (hb1.mono (below1 w (.cells #[.slice GA p.globs.length gc,.slice FA p.funcs.length fc,.int .i64 p.main] 30)).size));have hg1:=HPB.out.below hb1 HPB.out.lt;have HG1:=Lib.hid hg1;have g0:=hg1.cell (j:=0) rfl;have g1:=hg1.cell (j:=1) rfl;have g2:=hg1.cell (j:=2) rfl;have gl:=hg1.lt;clear hb1 hg1;go_wp2_with fail;refine HQ.out _ _ _ ?_
  exact bodyPost_ret (v:= .bool false) (by simp[results,Tryz.results5,go_sem]) rfl ⟨by rw[HE.out],HB1.out⟩
 |true=>
  rw[c1]at HO;cases c2:betwB p.funcs.length 1 8 with
  |false=>
   rw[c2]at HBT;have HE:=Lib.hid (show vmayB p=false from by unfold vmayB;rw[if_neg (fun h=>by have h1:=h.2.1;have h2:=h.2.2.1;unfold betwB at c2;simp at c2;omega)]);clear c1 c2;go_enter Tryz.func5,Tryz.ntmps5;refine wp_letter (fun Q hQ=>?_);have HQ:=Lib.hid hQ;clear hQ;go_wp2_with fail;refine(HO.out _ (below1 w _)).mono ?_;rintro e w1 ⟨rfl,hb1⟩;have HB1:=Lib.hid ((below1 w (.cells #[.slice GA p.globs.length gc,.slice FA p.funcs.length fc,.int .i64 p.main] 30)).trans (hb1.mono (below1 w (.cells #[.slice GA p.globs.length gc,.slice FA p.funcs.length fc,.int .i64 p.main] 30)).size));have hg1:=HPB.out.below hb1 HPB.out.lt;have HG1:=Lib.hid hg1;have g0:=hg1.cell (j:=0) rfl;have g1:=hg1.cell (j:=1) rfl;have g2:=hg1.cell (j:=2) rfl;have gl:=hg1.lt;clear hb1 hg1;go_wp2_with fail;refine(HBT.out _).mono ?_;rintro e w' ⟨rfl,rfl⟩;go_wp2_with fail
   refine HQ.out _ _ _ ?_;exact bodyPost_ret (v:= .bool false) (by simp[results,Tryz.results5,go_sem]) rfl ⟨by rw[HE.out],HB1.out⟩
  |true=>
   rw[c2]at HBT;have hl8:1≤p.funcs.length∧p.funcs.length≤8:=by unfold betwB at c2;simp at c2;omega
   have HL8:=Lib.hid hl8;have hwrap:IntKind.i64.wrap ((p.funcs.length:Int)-1)=(p.funcs.length:Int)-1:=IntWalk.i64_in _ (by omega);cases c4:numB p.main ((p.funcs.length:Int)-1)with
   |false=>
    rw[c4]at HNM;have HE:=Lib.hid (show vmayB p=false from by unfold vmayB;rw[if_neg (fun h=>by have h1:=h.2.2.2.1;unfold numB at c4;simp at c4;omega)]);clear c1 c2 c4;go_enter Tryz.func5,Tryz.ntmps5;refine wp_letter (fun Q hQ=>?_);have HQ:=Lib.hid hQ;clear hQ;go_wp2_with fail;refine(HO.out _ (below1 w _)).mono ?_;rintro e w1 ⟨rfl,hb1⟩;have HB1:=Lib.hid ((below1 w (.cells #[.slice GA p.globs.length gc,.slice FA p.funcs.length fc,.int .i64 p.main] 30)).trans (hb1.mono (below1 w (.cells #[.slice GA p.globs.length gc,.slice FA p.funcs.length fc,.int .i64 p.main] 30)).size));have hg1:=HPB.out.below hb1 HPB.out.lt;have HG1:=Lib.hid hg1;have g0:=hg1.cell (j:=0) rfl;have g1:=hg1.cell (j:=1) rfl;have g2:=hg1.cell (j:=2) rfl;have gl:=hg1.lt;clear hb1 hg1;go_wp2_with fail;refine(HBT.out _).mono ?_;rintro e w' ⟨rfl,rfl⟩;go_wp2_with fail
    refine(HNM.out _).mono ?_;rintro e w' ⟨rfl,rfl⟩;go_wp2_with fail;refine HQ.out _ _ _ ?_;exact bodyPost_ret (v:= .bool false) (by simp[results,Tryz.results5,go_sem]) rfl ⟨by rw[HE.out],HB1.out⟩
   |true=>
    rw[c4]at HNM;have hmr:0≤p.main∧p.main<(p.funcs.length:Int):=by unfold numB at c4;simp at c4;omega
    obtain⟨mf,hmf'⟩:=Int.eq_ofNat_of_zero_le hmr.1;have hmfl:mf<p.funcs.length:=by omega
    have HMG:=Lib.hid (List.getElem?_eq_getElem hmfl);have hgd:p.funcs.getD p.main.toNat noCode=p.funcs[mf]:=by rw[hmf',Int.toNat_natCast,List.getD_eq_getElem?_getD,HMG.out];rfl
    have hm0:(0:Int)≤(mf:Int):=by omega
    have hm1:(mf:Int)<(p.funcs.length:Int):=by omega
    have hmay:vmayP p↔p.funcs[mf].params=0:=by unfold vmayP;rw[hgd];exact⟨fun h=>h.2.2.2.2,fun h=>⟨c1,by omega,by omega,hmr,h⟩⟩
    have HMAY:=Lib.hid hmay;have HPV:=Lib.hid (HP.out.2.1);rw[hmf']at HNM HPB ⊢;clear hmay hgd hmf' hmr c1 c2 c4 hl8;by_cases c5:p.funcs[mf].params=0
    ·have d5:(p.funcs[mf].params !=0)=false:=by simpa using c5
     have HE:=Lib.hid (show vmayB p=p.funcs.all (fun c=>codeB c p.globs.length p.funcs.length (parV p))from by unfold vmayB;rw[if_pos (HMAY.out.2 c5)]);rw[HE.out];obtain⟨i0,hi,hz0,hz1,hz2⟩:=info_parts int_info14;obtain⟨pl,hpl⟩:∃pl,pl=p.funcs.map CodeS.params:=⟨_,rfl⟩
     have hpll:pl.length=p.funcs.length:=by rw[hpl];simp
     have HPL:=Lib.hid hpl;have HPLL:=Lib.hid hpll;clear c5 hpl hpll;go_enter Tryz.func5,Tryz.ntmps5;refine wp_letter (fun Q hQ=>?_);have HQ:=Lib.hid hQ;clear hQ;go_wp2_with fail;refine(HO.out _ (below1 w _)).mono ?_;rintro e w1 ⟨rfl,hb1⟩;have HB1:=Lib.hid ((below1 w (.cells #[.slice GA p.globs.length gc,.slice FA p.funcs.length fc,.int .i64 (mf:Nat)] 30)).trans (hb1.mono (below1 w (.cells #[.slice GA p.globs.length gc,.slice FA p.funcs.length fc,.int .i64 (mf:Nat)] 30)).size));have hg1:=HPB.out.below hb1 HPB.out.lt;have HG1:=Lib.hid hg1;have g0:=hg1.cell (j:=0) rfl;have g1:=hg1.cell (j:=1) rfl;have g2:=hg1.cell (j:=2) rfl;have gl:=hg1.lt;clear hb1 hg1;obtain⟨gb,goff,g',hFA,hgb,hg',hGE⟩:=(HPV.out.below (HB1.out.mono hB) (Nat.le_refl _) (fun _ _ h=>h.below (HB1.out.mono hB) (Nat.le_refl _))).get hmfl;subst hFA;have y0:=hGE.1
     rw[HMG.out]at hg';injection hg' with hg';subst hg';simp only[Nat.add_zero]at y0;have hgbl:gb<w1.heap.size:=by have:=HB1.out.size;omega
     clear hGE;go_wp2_with fail;refine(HBT.out _).mono ?_;rintro e w' ⟨rfl,rfl⟩;go_wp2_with fail;refine(HNM.out _).mono ?_;rintro e w' ⟨rfl,rfl⟩;go_wp2_with fail;clear hwrap g0 g2 y0;go_loopw [3,4] (fun r i wr=>∃(k:Nat)(LA:Option Addr)(ln lc:Nat)(xs:List Value),k≤p.funcs.length∧i= .int .i64 (k:Nat)∧r= .slice LA ln lc∧RowE LongE 3 1 (w.heap.size+1) wr (.slice LA ln lc) (pl.take k) xs∧Below w.heap.size w wr∧Row wr w.heap.size #[.slice GA p.globs.length gc,.slice (some ⟨gb,goff,none⟩) p.funcs.length fc,.int .i64 (mf:Nat)] 30) (fun _ i _=>p.funcs.length-(intOf i).toNat)
     case atStart=>exact⟨0,none,0,0,[],by omega,rfl,rfl,RowE.nil _ _ _ _ _,HB1.out,HG1.out⟩
     case round=>
      obtain⟨k,LA,ln,lc,xs,hk,rfl,rfl,hR,hbw,hx⟩:=hrel;have HR:=Lib.hid hR;have HBW:=Lib.hid hbw;have HXK:=Lib.hid hx;have p0:=hx.cell (j:=0) rfl;have p1:=hx.cell (j:=1) rfl;have hxl:=hx.lt;have hzw:=hbw.size;clear g1 gl;by_cases hlt:k<p.funcs.length
      ·obtain⟨fb,foff,g,hFA,hfb,hfk,hGE⟩:=(HPV.out.below (hbw.mono hB) (Nat.le_refl _) (fun _ _ h=>h.below (hbw.mono hB) (Nat.le_refl _))).get hlt;injection hFA with hFA;injection hFA with e1 e2;subst e1 e2;have z0:=hGE.1;simp only[Nat.add_zero]at z0;have HK1:=Lib.hid (show pl[k]? =some g.params from by rw[HPL.out,List.getElem?_map,hfk];rfl);have hkl:(k:Int)<(p.funcs.length:Int):=by omega
       have hfbl:gb<wr.heap.size:=by omega
       have htl:(pl.take k).length=k:=by have:=HPLL.out;simp;omega
       have HTL:=Lib.hid htl;have HX:=Lib.hid (HPIN.out g (List.mem_iff_getElem?.2 ⟨k,hfk⟩));have hk8:k≤8:=by have:=HL8.out;omega
       clear hR hbw hx hfk hGE htl;go_wp2_with(at_builtin;refine wpList_append_lies _ rfl (.tmp 44) (.tmp 51) 41 rfl (w.heap.size+1) 3 i0 (.int .i64 0) 1 8 Tryz.underlying41 hi hz0 hz1 hz2 rfl (by decide) _ k xs rfl (by have h:=HR.out.own;rw[HTL.out]at h;exact(ownsRow_wr h ((Wr.refl (fun _=>False) _).allocR _) (fun _ _ h=>h))) ⟨wr.heap.size,0,none⟩ 1 1 [.int .i64 g.params] rfl rfl (by exact cells_new _ _ _) (by intro u hu;simp at hu;rcases hu with rfl;rfl) (by decide) (by unfold maxLen;omega) (by omega) (by first|omega|(simp<;>omega)) _ rfl ?_)
       ·intro gg cap' w3 hown3 hgrow hat hglt;have HN:=Lib.hid (show RowE LongE 3 1 (w.heap.size+1) w3 (.slice (some ⟨gg,0,none⟩) (k+1) cap') (pl.take (k+1)) (xs++[.int .i64 g.params])from by
         have h:=RowE.next LongE.mono HR.out (by omega) (Below.refl _ _) (us:=[.int .i64 g.params]) (x:=g.params) ⟨rfl,HX.out⟩ rfl (below1 wr _) (by rw[HTL.out];exact hown3) hgrow (by simpa using hat);rw[HTL.out]at h;rw[take_succ_of HK1.out];exact h)
        have hb3:Below (w.heap.size+1) wr w3:=((Below.refl _ _).alloc (by omega) _).grown hgrow (by first|omega|(simp<;>omega)) (fun g hg=>(HR.out.lt hg).1);have HBN:=Lib.hid (HBW.out.trans (hb3.mono (by omega)));have HXN:=Lib.hid (HXK.out.below hb3 (by omega));clear hown3 hgrow hat hb3;go_wp2_with fail;go_roundw
        case rel=>exact⟨k+1,_,_,_,_,by omega,by go_num,rfl,HN.out,HBN.out,HXN.out⟩
        case measure=>simp[intOf];omega
      ·obtain rfl:k=p.funcs.length:=by omega
       rw[List.take_of_length_le (by have:=HPLL.out;omega)]at hR;have hLG:LongsAt wr wr.heap.size pl (.slice LA ln lc):=LongsAt.sub (hR.slice LongE.mono) (only_sub _ _) (Nat.le_refl _);obtain⟨PA,pc,hsl,_⟩:=id hLG;injection hsl with hsl1 hsl2 hsl3;subst hsl1 hsl3;rw[HPLL.out]at hsl2;subst hsl2;have HLG:=Lib.hid hLG;clear hR hLG hx hbw;obtain⟨wo,hwo⟩:∃wo:World,wo=wr:=⟨_,rfl⟩
       rw[←hwo]at HLG HBW HXK hzw ⊢;rw[←hwo]at p0 p1 hxl;clear hwo;go_wp2_with fail;go_loopw [5] (fun i ws=>∃k:Nat,i= .int .i64 (k:Nat)∧k≤p.funcs.length∧(p.funcs.drop k).all (fun c=>codeB c p.globs.length p.funcs.length (parV p))=p.funcs.all (fun c=>codeB c p.globs.length p.funcs.length (parV p))∧Below wo.heap.size wo ws) (fun i _=>p.funcs.length-(intOf i).toNat)
       case atStart=>exact⟨0,rfl,Nat.zero_le _,rfl,Below.refl _ _⟩
       case round=>
        obtain⟨k,rfl,hk,hcs,hbk⟩:=hrel;have HCS:=Lib.hid hcs;have HBK:=Lib.hid hbk;have hbw:=HBW.out.trans (hbk.mono hzw);have HBW2:=Lib.hid hbw;have hx:=HXK.out.below hbk hxl;have HX2:=Lib.hid hx;have p0:=hx.cell (j:=0) rfl;have p1:=hx.cell (j:=1) rfl;have hxl2:=hx.lt;have hzk:=hbk.size;clear hcs;by_cases hlt:k<p.funcs.length
        ·obtain⟨fb,foff,g,hFA,hfb,hfk,hGE⟩:=(HPV.out.below (hbw.mono hB) (Nat.le_refl _) (fun _ _ h=>h.below (hbw.mono hB) (Nat.le_refl _))).get hlt;injection hFA with hFA;injection hFA with e1 e2;subst e1 e2;obtain⟨z0,z1,⟨lv,z2,hlv⟩,⟨bv,z3,hbv⟩,_,_⟩:=hGE;simp only[Nat.add_zero]at z0 z1 z2 z3;obtain⟨⟨LA2,lc2,hlv0,_⟩,⟨BA,bc,hbv0,_⟩⟩:=And.intro hlv hbv;subst hlv0 hbv0;have hCE:=codeR_eq g p.globs.length p.funcs.length (parV p) pl (by rw[HPLL.out]) (fun n k h0 h1=>by rw[HPL.out];exact parV_list p n k h0 h1)
         have HS:=Lib.hid (fun W(hb:Below wr.heap.size wr W)=>rcode_any g LA2 lc2 BA bc p.globs.length pl LA lc W.heap.size W (Nat.le_refl _) (hlv.below (hb.mono (by omega)) (by have:=hb.size;omega) (fun _ _ h=>h.below (hb.mono (by omega)) (by have:=hb.size;omega))) (hbv.below (hb.mono (by omega)) (by have:=hb.size;omega) (fun _ _ h=>h.below (hb.mono (by omega)) (by have:=hb.size;omega))) (show LongsAt W W.heap.size pl (.slice LA pl.length lc) by rw[HPLL.out];exact HLG.out.below (HBK.out.trans (hb.mono hzk)) (by have:=hb.size;omega)));rw[HPLL.out,hCE]at HS;have HD:=Lib.hid (show(p.funcs.drop k).all (fun c=>codeB c p.globs.length p.funcs.length (parV p))=(codeB g p.globs.length p.funcs.length (parV p)&& (p.funcs.drop (k+1)).all (fun c=>codeB c p.globs.length p.funcs.length (parV p)))from by rw[drop_of hfk];rfl)
         have hkl:(k:Int)<(p.funcs.length:Int):=by omega
         have hfbl:gb<wr.heap.size:=by omega
         clear hlv hbv hbw hbk hfk hx hCE;cases hg1:codeB g p.globs.length p.funcs.length (parV p)with
         |true=>
          rw[hg1]at HS HD;clear hg1;go_wp2_with fail;refine region_grow (by kernel_rfl) (by kernel_rfl) (fun hGG=>?_)
          repeat(go_big_quiet_step ((go_at_call 17;exact call_grow (HS.out _ (grow_below (Below.refl _ _) (Nat.le_refl _) _)))))
          refine wpQuiet_nil ?_;rintro⟨w5,hb5⟩;simp only[];have HB5:=Lib.hid (HBK.out.trans (hb5.mono hzk));clear hGG hb5;go_wp2_with fail;go_roundw
          case rel=>exact⟨k+1,by go_num,by omega,by rw[←HCS.out,HD.out];rfl,HB5.out⟩
          case measure=>simp[intOf];omega
         |false=>
          have H9:=Lib.hid (show p.funcs.all (fun c=>codeB c p.globs.length p.funcs.length (parV p))=false by rw[←HCS.out,HD.out,hg1];rfl);rw[hg1]at HS;clear hg1;go_wp2_with fail;refine region_grow (by kernel_rfl) (by kernel_rfl) (fun hGG=>?_)
          repeat(go_big_quiet_step ((go_at_call 17;exact call_grow (HS.out _ (grow_below (Below.refl _ _) (Nat.le_refl _) _)))))
          refine wpQuiet_nil ?_;rintro⟨w5,hb5⟩;simp only[];have HB5:=Lib.hid (HBK.out.trans (hb5.mono hzk));clear hGG hb5;go_wp2_with fail;refine HQ.out _ _ _ ?_;exact bodyPost_ret (v:= .bool false) (by simp[results,Tryz.results5,go_sem]) rfl ⟨by rw[H9.out],HBW.out.trans (HB5.out.mono hzw)⟩
        ·obtain rfl:k=p.funcs.length:=by omega
         have H9:=Lib.hid (show p.funcs.all (fun c=>codeB c p.globs.length p.funcs.length (parV p))=true by rw[←HCS.out,drop_nil_of (Nat.le_refl _)];rfl);clear hbw hbk hx;go_wp2_with fail;refine HQ.out _ _ _ ?_;exact bodyPost_ret (v:= .bool true) (by simp[results,Tryz.results5,go_sem]) rfl ⟨by rw[H9.out],HBW2.out⟩
    ·have d5:(p.funcs[mf].params !=0)=true:=by simpa using c5
     have HE:=Lib.hid (show vmayB p=false from by unfold vmayB;rw[if_neg (fun h=>c5 (HMAY.out.1 h))]);clear c5;go_enter Tryz.func5,Tryz.ntmps5;refine wp_letter (fun Q hQ=>?_);have HQ:=Lib.hid hQ;clear hQ;go_wp2_with fail;refine(HO.out _ (below1 w _)).mono ?_;rintro e w1 ⟨rfl,hb1⟩;have HB1:=Lib.hid ((below1 w (.cells #[.slice GA p.globs.length gc,.slice FA p.funcs.length fc,.int .i64 (mf:Nat)] 30)).trans (hb1.mono (below1 w (.cells #[.slice GA p.globs.length gc,.slice FA p.funcs.length fc,.int .i64 (mf:Nat)] 30)).size));have hg1:=HPB.out.below hb1 HPB.out.lt;have HG1:=Lib.hid hg1;have g0:=hg1.cell (j:=0) rfl;have g1:=hg1.cell (j:=1) rfl;have g2:=hg1.cell (j:=2) rfl;have gl:=hg1.lt;clear hb1 hg1
     obtain⟨gb,goff,g',hFA,hgb,hg',hGE⟩:=(HPV.out.below (HB1.out.mono hB) (Nat.le_refl _) (fun _ _ h=>h.below (HB1.out.mono hB) (Nat.le_refl _))).get hmfl;subst hFA;have y0:=hGE.1;rw[HMG.out]at hg';injection hg' with hg';subst hg';simp only[Nat.add_zero]at y0;have hgbl:gb<w1.heap.size:=by have:=HB1.out.size;omega
     clear hGE;go_wp2_with fail;refine(HBT.out _).mono ?_;rintro e w' ⟨rfl,rfl⟩;go_wp2_with fail;refine(HNM.out _).mono ?_;rintro e w' ⟨rfl,rfl⟩;go_wp2_with fail;refine HQ.out _ _ _ ?_;exact bodyPost_ret (v:= .bool false) (by simp[results,Tryz.results5,go_sem]) rfl ⟨by rw[HE.out],HB1.out⟩
end Go.Proofs.YtlenilbkifofjaaGreatDoor
