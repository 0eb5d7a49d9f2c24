/- virt: address, reckon. Conditions: as stated. virt: reckon, every instruction. Conditions: as stated. virt: an instruction: what it reckons is laid into a register; stuck; a label. Conditions: as stated. virt: an instruction: a label, a number put out, an exit. Conditions: as stated. virt: an instruction: a store. Conditions: as stated. virt: an instruction: a number comes in; every instruction but a call. Conditions: as stated. virt: an instruction: every one but a call. Conditions: as stated. virt: a call's contract; a call's arguments. Conditions: as stated. -/
import Derived.Test.YtinmgbodgecoeaaGreatVReckRZz
set_option linter.unusedSimpArgs false
set_option linter.unusedVariables false
set_option maxHeartbeats 8000000
set_option maxRecDepth 100000
open Go.Proofs.Tryz
namespace Go.Proofs.YtinmgbodgecoeaaGreat
open Go.RowKit
theorem Dr(op dst b n:Int)(AV:Value)(ma:Nat)(rb fb:Nat)(M:List MO)(tp:List V)(lo:List Nat)(ng:Nat)(w:World)(hR:x7 w w.heap.size rb fb M tp lo ng)(hN:eI M)(lq:fV M tp lo ng)(lh:ma<tp.length)(oh:In64 b):
  Calls prog 80 #[.pointer (some ⟨rb,0,none⟩),.pointer (some ⟨fb,0,none⟩),.agg #[.int .i64 op,.int .i64 dst,.int .i64 (ma:Nat),.int .i64 b,.int .i64 n,AV]] w λe w'=>cN (dm bF M 12 (tp.getD ma ⟨0,0⟩) ⟨0,b⟩) e/\Below w.heap.size w w':=by
 obtain⟨hb',n',cap',tc,lc,gc,A',TA,LA,GA,r4,h0,hM,r5,hG,f0,hT,f1,hL,l1,l2,l3⟩:=hR;obtain⟨va,jr⟩:∃v,tp[ma]? =some v:=⟨_,List.getElem?_eq_getElem lh⟩
 obtain⟨Fg,yZ,uS,rP,IQ,IP⟩:=hT ma va jr;have Bh:tp.getD ma ⟨0,0⟩=va:=by rw[List.getD_eq_getElem?_getD,jr];rfl
 obtain⟨Tk,Tj,Yd⟩:=lq.bN va (List.mem_of_getElem? jr);subst uS;have HC:=λW(hW:Below w.heap.size w W)=>(Bl hb' n' cap' w.heap.size 12 va ⟨0,b⟩ A' M W hW.size (fQ l3 hW.size) (ag h0 hW l3) (hM.below hW (aY _)) (λh=>⟨Tk,Tj h⟩) (λh=>absurd rfl h) oh (by decide) (by decide):Calls prog _ _ W λe w'=>cN _ e/\Below W.heap.size W w').mono (λe w' h=>(⟨h.1.fits,h.2⟩:(∃y0 y1,e= .returned (.tuple #[.agg #[.int .i64 y0,.int .i64 y1],.bool _])/\Fits _ y0 y1)/\Below W.heap.size W w'));rw[Bh];obtain⟨r,hr⟩:∃r:Option V,r=dm bF M 12 va ⟨0,b⟩:=⟨_,rfl⟩
 rw[<-hr];rw[<-hr]at HC;have HC:=ae HC;have bC:=ae (aB w (.cells #[.int .i64 op,.int .i64 dst,.int .i64 (ma:Nat),.int .i64 b,.int .i64 n,AV] 94) (.cells #[.int .i64 0,.int .i64 0] 75));clear hr hM hG hL hN lq;go_enter func80,ntmps80;refine aj λQ HQ=>?_;go_wp2_with fail
 refine Jg rb fb w.heap.size (w.heap.size+1) hb' Fg yZ tp.length tc ma op dst b n AV va r ((w.alloc (.cells #[.int .i64 op,.int .i64 dst,.int .i64 (ma:Nat),.int .i64 b,.int .i64 n,AV] 94)).alloc (.cells #[.int .i64 0,.int .i64 0] 75)) (ag r4 bC.out l1) (by simp;omega) (by omega) (ag f0 bC.out l2) (by simp;omega) (by omega) ((Row.new w _ 94).alloc _) (by omega) lh (by simp;omega) (by omega) (ag IQ bC.out rP) (ag IP bC.out rP) (by have:=Row.new (w.alloc (.cells #[.int .i64 op,.int .i64 dst,.int .i64 (ma:Nat),.int .i64 b,.int .i64 n,AV] 94)) #[.int .i64 0,.int .i64 0] 75;simpa using this) (λW hW=>HC.out W (bC.trans (hW.below bC.size (λi(hi:i=w.heap.size+1)=>by omega)))) _ _ _ _ _ _ _ _ _ _ _ _ _ _ _ _ _ _ _ _ _ _ _ (λW y0 y1 Y hw hrow hf=>?_);have c0:=hrow.cell (j:=0) rfl
 have c1:=hrow.cell (j:=1) rfl;have hrl:=hrow.lt;have HF:=ae hf;have HW:=ae hw;clear hrow hf hw;go_wp2_with fail;refine HQ _ _ _ ?_;exact aS (v:= .tuple #[.agg #[.int .i64 y0,.int .i64 y1],.bool r.isSome]) (by simp[results,results80,go_sem,c0,c1]) rfl ⟨HF.ans,bC.trans (HW.below bC.size (λi(hi:i=w.heap.size+1)=>by omega))⟩
theorem T6(dst n:Int)(AV:Value)(ma mb:Nat)(rb fb:Nat)(M:List MO)(tp:List V)(lo:List Nat)(ng:Nat)(w:World)(hR:x7 w w.heap.size rb fb M tp lo ng)(hN:eI M)(lq:fV M tp lo ng)(lh:ma<tp.length)(hmb:mb<tp.length)(hn:12<=n/\n<=30):
  Calls prog 85 #[.pointer (some ⟨rb,0,none⟩),.pointer (some ⟨fb,0,none⟩),.agg #[.int .i64 5,.int .i64 dst,.int .i64 (ma:Nat),.int .i64 (mb:Nat),.int .i64 n,AV]] w λe w'=>cN (dm bF M n (tp.getD ma ⟨0,0⟩) (tp.getD mb ⟨0,0⟩)) e/\Below w.heap.size w w':=by
 obtain⟨hb',n',cap',tc,lc,gc,A',TA,LA,GA,r4,h0,hM,r5,hG,f0,hT,f1,hL,l1,l2,l3⟩:=hR;obtain⟨va,jr⟩:∃v,tp[ma]? =some v:=⟨_,List.getElem?_eq_getElem lh⟩
 obtain⟨Fg,yZ,uS,rP,IQ,IP⟩:=hT ma va jr;have Bh:tp.getD ma ⟨0,0⟩=va:=by rw[List.getD_eq_getElem?_getD,jr];rfl
 obtain⟨Tk,Tj,Yd⟩:=lq.bN va (List.mem_of_getElem? jr);subst uS;obtain⟨vb,hvb⟩:∃v,tp[mb]? =some v:=⟨_,List.getElem?_eq_getElem hmb⟩
 obtain⟨tbb,tofb,Vj,ltbb,tb0,tb1⟩:=hT mb vb hvb;have hgdb:tp.getD mb ⟨0,0⟩=vb:=by rw[List.getD_eq_getElem?_getD,hvb];rfl
 obtain⟨vb1,vb2,vb3⟩:=lq.bN vb (List.mem_of_getElem? hvb);injection Vj with Vj;injection Vj with e1 e2;subst e1 e2;have HC:=λW(hW:Below w.heap.size w W)=>(Bl hb' n' cap' w.heap.size n va vb A' M W hW.size (fQ l3 hW.size) (ag h0 hW l3) (hM.below hW (aY _)) (λh=>⟨Tk,Tj h⟩) (λh=>⟨vb1,vb2 h⟩) vb3 hn.1 hn.2:Calls prog _ _ W λe w'=>cN _ e/\Below W.heap.size W w').mono (λe w' h=>(⟨h.1.fits,h.2⟩:(∃y0 y1,e= .returned (.tuple #[.agg #[.int .i64 y0,.int .i64 y1],.bool _])/\Fits _ y0 y1)/\Below W.heap.size W w'));rw[Bh,hgdb];obtain⟨r,hr⟩:∃r:Option V,r=dm bF M n va vb:=⟨_,rfl⟩
 rw[<-hr];rw[<-hr]at HC;have HC:=ae HC;have bC:=ae (aB w (.cells #[.int .i64 5,.int .i64 dst,.int .i64 (ma:Nat),.int .i64 (mb:Nat),.int .i64 n,AV] 94) (.cells #[.int .i64 0,.int .i64 0] 75));clear hr hM hG hL hN lq;go_enter func85,ntmps85;refine aj λQ HQ=>?_;go_wp2_with fail
 refine I3 mb rb fb w.heap.size (w.heap.size+1) hb' Fg yZ tp.length tc ma 5 dst (mb:Nat) n AV va vb r ((w.alloc (.cells #[.int .i64 5,.int .i64 dst,.int .i64 (ma:Nat),.int .i64 (mb:Nat),.int .i64 n,AV] 94)).alloc (.cells #[.int .i64 0,.int .i64 0] 75)) (ag r4 bC.out l1) (by simp;omega) (by omega) (ag f0 bC.out l2) (by simp;omega) (by omega) ((Row.new w _ 94).alloc _) (by omega) lh (by simp;omega) (by omega) (ag IQ bC.out rP) (ag IP bC.out rP) (by have:=Row.new (w.alloc (.cells #[.int .i64 5,.int .i64 dst,.int .i64 (ma:Nat),.int .i64 (mb:Nat),.int .i64 n,AV] 94)) #[.int .i64 0,.int .i64 0] 75;simpa using this) hmb (ag tb0 bC.out rP) (ag tb1 bC.out rP) (λW hW=>HC.out W (bC.trans (hW.below bC.size (λi(hi:i=w.heap.size+1)=>by omega)))) _ (λW y0 y1 Y hw hrow hf=>?_)
 have c0:=hrow.cell (j:=0) rfl;have c1:=hrow.cell (j:=1) rfl;have hrl:=hrow.lt;have HF:=ae hf;have HW:=ae hw;clear hrow hf hw;go_wp2_with fail;refine HQ _ _ _ ?_;exact aS (v:= .tuple #[.agg #[.int .i64 y0,.int .i64 y1],.bool r.isSome]) (by simp[results,results85,go_sem,c0,c1]) rfl ⟨HF.ans,bC.trans (HW.below bC.size (λi(hi:i=w.heap.size+1)=>by omega))⟩
theorem T3(dst b n xv:Int)(ab qU ac ma:Nat)(rb fb:Nat)(M:List MO)(tp:List V)(lo:List Nat)(ng:Nat)(w:World)(hR:x7 w w.heap.size rb fb M tp lo ng)(hN:eI M)(lq:fV M tp lo ng)(lh:ma<tp.length)(hn:12<=n/\n<=30)(pI:In64 xv)(hab:ab<w.heap.size)(Ks:w.cell? ⟨ab,qU,none⟩=some (.int .i64 xv)):
  Calls prog 85 #[.pointer (some ⟨rb,0,none⟩),.pointer (some ⟨fb,0,none⟩),.agg #[.int .i64 6,.int .i64 dst,.int .i64 (ma:Nat),.int .i64 b,.int .i64 n,.slice (some ⟨ab,qU,none⟩) 1 ac]] w λe w'=>cN (dm bF M n (tp.getD ma ⟨0,0⟩) ⟨0,xv⟩) e/\Below w.heap.size w w':=by
 obtain⟨hb',n',cap',tc,lc,gc,A',TA,LA,GA,r4,h0,hM,r5,hG,f0,hT,f1,hL,l1,l2,l3⟩:=hR;obtain⟨va,jr⟩:∃v,tp[ma]? =some v:=⟨_,List.getElem?_eq_getElem lh⟩
 obtain⟨Fg,yZ,uS,rP,IQ,IP⟩:=hT ma va jr;have Bh:tp.getD ma ⟨0,0⟩=va:=by rw[List.getD_eq_getElem?_getD,jr];rfl
 obtain⟨Tk,Tj,Yd⟩:=lq.bN va (List.mem_of_getElem? jr);subst uS;have HC:=λW(hW:Below w.heap.size w W)=>(Bl hb' n' cap' w.heap.size n va ⟨0,xv⟩ A' M W hW.size (fQ l3 hW.size) (ag h0 hW l3) (hM.below hW (aY _)) (λh=>⟨Tk,Tj h⟩) (λh=>absurd rfl h) pI hn.1 hn.2:Calls prog _ _ W λe w'=>cN _ e/\Below W.heap.size W w').mono (λe w' h=>(⟨h.1.fits,h.2⟩:(∃y0 y1,e= .returned (.tuple #[.agg #[.int .i64 y0,.int .i64 y1],.bool _])/\Fits _ y0 y1)/\Below W.heap.size W w'));rw[Bh];obtain⟨r,hr⟩:∃r:Option V,r=dm bF M n va ⟨0,xv⟩:=⟨_,rfl⟩
 rw[<-hr];rw[<-hr]at HC;have HC:=ae HC;have bC:=ae (aB w (.cells #[.int .i64 6,.int .i64 dst,.int .i64 (ma:Nat),.int .i64 b,.int .i64 n,.slice (some ⟨ab,qU,none⟩) 1 ac] 94) (.cells #[.int .i64 0,.int .i64 0] 75));clear hr hM hG hL hN lq;go_enter func85,ntmps85;refine aj λQ HQ=>?_;go_wp2_with fail
 refine I2 ab qU 1 ac rb fb w.heap.size (w.heap.size+1) hb' Fg yZ tp.length tc ma 6 dst b n xv va r ((w.alloc (.cells #[.int .i64 6,.int .i64 dst,.int .i64 (ma:Nat),.int .i64 b,.int .i64 n,.slice (some ⟨ab,qU,none⟩) 1 ac] 94)).alloc (.cells #[.int .i64 0,.int .i64 0] 75)) (ag r4 bC.out l1) (by simp;omega) (by omega) (ag f0 bC.out l2) (by simp;omega) (by omega) ((Row.new w _ 94).alloc _) (by omega) lh (by simp;omega) (by omega) (ag IQ bC.out rP) (ag IP bC.out rP) (by have:=Row.new (w.alloc (.cells #[.int .i64 6,.int .i64 dst,.int .i64 (ma:Nat),.int .i64 b,.int .i64 n,.slice (some ⟨ab,qU,none⟩) 1 ac] 94)) #[.int .i64 0,.int .i64 0] 75;simpa using this) (by omega) (by simp;omega) (by omega) (ag Ks bC.out hab) (λW hW=>HC.out W (bC.trans (hW.below bC.size (λi(hi:i=w.heap.size+1)=>by omega)))) _ (λW y0 y1 Y hw hrow hf=>?_)
 have c0:=hrow.cell (j:=0) rfl;have c1:=hrow.cell (j:=1) rfl;have hrl:=hrow.lt;have HF:=ae hf;have HW:=ae hw;clear hrow hf hw;go_wp2_with fail;refine HQ _ _ _ ?_;exact aS (v:= .tuple #[.agg #[.int .i64 y0,.int .i64 y1],.bool r.isSome]) (by simp[results,results85,go_sem,c0,c1]) rfl ⟨HF.ans,bC.trans (HW.below bC.size (λi(hi:i=w.heap.size+1)=>by omega))⟩
theorem TZ(dst b n:Int)(AV:Value)(ma:Nat)(rb fb:Nat)(M:List MO)(tp:List V)(lo:List Nat)(ng:Nat)(w:World)(hR:x7 w w.heap.size rb fb M tp lo ng)(hN:eI M)(lq:fV M tp lo ng)(lh:ma<tp.length)(hn:31<=n/\n<=36):
  Calls prog 85 #[.pointer (some ⟨rb,0,none⟩),.pointer (some ⟨fb,0,none⟩),.agg #[.int .i64 7,.int .i64 dst,.int .i64 (ma:Nat),.int .i64 b,.int .i64 n,AV]] w λe w'=>cN ((if(tp.getD ma ⟨0,0⟩).obj=0 then some ⟨0,CN n (tp.getD ma ⟨0,0⟩).n⟩else none)) e/\Below w.heap.size w w':=by
 obtain⟨hb',n',cap',tc,lc,gc,A',TA,LA,GA,r4,h0,hM,r5,hG,f0,hT,f1,hL,l1,l2,l3⟩:=hR;obtain⟨va,jr⟩:∃v,tp[ma]? =some v:=⟨_,List.getElem?_eq_getElem lh⟩
 obtain⟨Fg,yZ,uS,rP,IQ,IP⟩:=hT ma va jr;have Bh:tp.getD ma ⟨0,0⟩=va:=by rw[List.getD_eq_getElem?_getD,jr];rfl
 obtain⟨Tk,Tj,Yd⟩:=lq.bN va (List.mem_of_getElem? jr);subst uS;have HC:=λW(hW:Below w.heap.size w W)=>(M5 hb' n va W hn.1 hn.2:Calls prog _ _ W λe w'=>cN _ e/\Below W.heap.size W w').mono (λe w' h=>(⟨h.1.fits,h.2⟩:(∃y0 y1,e= .returned (.tuple #[.agg #[.int .i64 y0,.int .i64 y1],.bool _])/\Fits _ y0 y1)/\Below W.heap.size W w'));rw[Bh];obtain⟨r,hr⟩:∃r:Option V,r=(if va.obj=0 then some ⟨0,CN n va.n⟩else none):=⟨_,rfl⟩
 rw[<-hr];rw[<-hr]at HC;have HC:=ae HC;have bC:=ae (aB w (.cells #[.int .i64 7,.int .i64 dst,.int .i64 (ma:Nat),.int .i64 b,.int .i64 n,AV] 94) (.cells #[.int .i64 0,.int .i64 0] 75));clear hr hM hG hL hN lq;go_enter func85,ntmps85;refine aj λQ HQ=>?_;go_wp2_with fail
 refine I1 rb fb w.heap.size (w.heap.size+1) hb' Fg yZ tp.length tc ma 7 dst b n AV va r ((w.alloc (.cells #[.int .i64 7,.int .i64 dst,.int .i64 (ma:Nat),.int .i64 b,.int .i64 n,AV] 94)).alloc (.cells #[.int .i64 0,.int .i64 0] 75)) (ag r4 bC.out l1) (by simp;omega) (by omega) (ag f0 bC.out l2) (by simp;omega) (by omega) ((Row.new w _ 94).alloc _) (by omega) lh (by simp;omega) (by omega) (ag IQ bC.out rP) (ag IP bC.out rP) (by have:=Row.new (w.alloc (.cells #[.int .i64 7,.int .i64 dst,.int .i64 (ma:Nat),.int .i64 b,.int .i64 n,AV] 94)) #[.int .i64 0,.int .i64 0] 75;simpa using this) (λW hW=>HC.out W (bC.trans (hW.below bC.size (λi(hi:i=w.heap.size+1)=>by omega)))) _ (λW y0 y1 Y hw hrow hf=>?_);have c0:=hrow.cell (j:=0) rfl;have c1:=hrow.cell (j:=1) rfl;have hrl:=hrow.lt
 have HF:=ae hf;have HW:=ae hw;clear hrow hf hw;go_wp2_with fail;refine HQ _ _ _ ?_;exact aS (v:= .tuple #[.agg #[.int .i64 y0,.int .i64 y1],.bool r.isSome]) (by simp[results,results85,go_sem,c0,c1]) rfl ⟨HF.ans,bC.trans (HW.below bC.size (λi(hi:i=w.heap.size+1)=>by omega))⟩
theorem Ua(dst b n ma:Int)(AV:Value)(p q:Option Addr)(w:World):
  Calls prog 85 #[.pointer p,.pointer q,.agg #[.int .i64 1,.int .i64 dst,.int .i64 ma,.int .i64 b,.int .i64 n,AV]] w λe w'=>cN (some ⟨0,n⟩) e/\Below w.heap.size w w':=by
 have bC:=ae (aB w (.cells #[.int .i64 1,.int .i64 dst,.int .i64 ma,.int .i64 b,.int .i64 n,AV] 94) (.cells #[.int .i64 0,.int .i64 n] 75));go_enter func85,ntmps85;refine aj λQ HQ=>?_;go_wp2_with fail;refine HQ _ _ _ ?_;exact aS (v:= .tuple #[.agg #[.int .i64 0,.int .i64 n],.bool true]) (by simp[results,results85,go_sem]) rfl ⟨rfl,bC.out⟩
theorem T9(dst b n:Int)(AV:Value)(ma:Nat)(rb fb:Nat)(M:List MO)(tp:List V)(lo:List Nat)(ng:Nat)(w:World)(hR:x7 w w.heap.size rb fb M tp lo ng)(hN:eI M)(lq:fV M tp lo ng)(lh:ma<tp.length)(htl:tp.length<=1000000):
  Calls prog 85 #[.pointer (some ⟨rb,0,none⟩),.pointer (some ⟨fb,0,none⟩),.agg #[.int .i64 2,.int .i64 dst,.int .i64 (ma:Nat),.int .i64 b,.int .i64 n,AV]] w λe w'=>cN (some (tp.getD ma ⟨0,0⟩)) e/\Below w.heap.size w w':=by
 obtain⟨hb',n',cap',tc,lc,gc,A',TA,LA,GA,r4,h0,hM,r5,hG,f0,hT,f1,hL,l1,l2,l3⟩:=hR;obtain⟨va,jr⟩:∃v,tp[ma]? =some v:=⟨_,List.getElem?_eq_getElem lh⟩
 obtain⟨Fg,yZ,uS,rP,IQ,IP⟩:=hT ma va jr;have Bh:tp.getD ma ⟨0,0⟩=va:=by rw[List.getD_eq_getElem?_getD,jr];rfl
 obtain⟨Tk,Tj,Yd⟩:=lq.bN va (List.mem_of_getElem? jr);subst uS;rw[Bh];have hm1:(ma:Int)<(tp.length:Int):=by omega
 have hm0:(0:Int)<=(ma:Int):=by omega
 have hz1:rb<w.heap.size+1:=by omega
 have hz2:rb<w.heap.size+1+1:=by omega
 have hz3:fb<w.heap.size+1:=by omega
 have vT:fb<w.heap.size+1+1:=by omega
 have Xz:Fg<w.heap.size+1:=by omega
 have YW:Fg<w.heap.size+1+1:=by omega
 have bC:=ae (aB w (.cells #[.int .i64 2,.int .i64 dst,.int .i64 (ma:Nat),.int .i64 b,.int .i64 n,AV] 94) (.cells #[.int .i64 0,.int .i64 0] 75));have cB:=ae (show∀W:World,Wr (λi=>i=w.heap.size+1) ((w.alloc (.cells #[.int .i64 2,.int .i64 dst,.int .i64 (ma:Nat),.int .i64 b,.int .i64 n,AV] 94)).alloc (.cells #[.int .i64 0,.int .i64 0] 75)) W->Below w.heap.size w W from λW hW=>bC.trans (hW.below bC.size (λi(hi:i=w.heap.size+1)=>by omega)));clear hM hG hL hN lq hT;go_enter func85,ntmps85;refine aj λQ HQ=>?_;go_wp2_with fail;refine aX 8 (by kernel_rfl) (by kernel_rfl) ?_;simp only[List.take_succ_cons,List.take_zero,List.drop_succ_cons,List.drop_zero]
 repeat(go_big_quiet_step (fail))
 refine wpQuiet_nil ?_;go_wp2_with fail;refine HQ _ _ _ ?_;refine aS (v:= .tuple #[.agg #[.int .i64 va.obj,.int .i64 va.n],.bool true]) (by simp[results,results85,go_sem]) rfl ⟨rfl,by first|exact aB w _ _|exact(aB w _ _).drew⟩
theorem T8(dst b av:Int)(AV:Value)(ma:Nat)(rb fb:Nat)(M:List MO)(tp:List V)(lo:List Nat)(ng:Nat)(w:World)(hR:x7 w w.heap.size rb fb M tp lo ng)(hN:eI M)(lq:fV M tp lo ng)(lh:ma<lo.length)(htl:lo.length<=1000000):
  Calls prog 85 #[.pointer (some ⟨rb,0,none⟩),.pointer (some ⟨fb,0,none⟩),.agg #[.int .i64 3,.int .i64 dst,.int .i64 av,.int .i64 b,.int .i64 (ma:Nat),AV]] w λe w'=>cN (some ⟨lo.getD ma 0,0⟩) e/\Below w.heap.size w w':=by
 obtain⟨hb',n',cap',tc,lc,gc,A',TA,LA,GA,r4,h0,hM,r5,hG,f0,hT,f1,hL,l1,l2,l3⟩:=hR;obtain⟨Fg,yZ,uS,rP,IQ,IP⟩:=hL ma _ (Gl lh);subst uS;have hm1:(ma:Int)<(lo.length:Int):=by omega
 obtain⟨va,jr⟩:∃va:V,va=⟨lo.getD ma 0,0⟩:=⟨_,rfl⟩
 rw[<-jr]at IQ IP ⊢;clear jr;have hm0:(0:Int)<=(ma:Int):=by omega
 have hz1:rb<w.heap.size+1:=by omega
 have hz2:rb<w.heap.size+1+1:=by omega
 have hz3:fb<w.heap.size+1:=by omega
 have vT:fb<w.heap.size+1+1:=by omega
 have Xz:Fg<w.heap.size+1:=by omega
 have YW:Fg<w.heap.size+1+1:=by omega
 have bC:=ae (aB w (.cells #[.int .i64 3,.int .i64 dst,.int .i64 av,.int .i64 b,.int .i64 (ma:Nat),AV] 94) (.cells #[.int .i64 0,.int .i64 0] 75));have cB:=ae (show∀W:World,Wr (λi=>i=w.heap.size+1) ((w.alloc (.cells #[.int .i64 3,.int .i64 dst,.int .i64 av,.int .i64 b,.int .i64 (ma:Nat),AV] 94)).alloc (.cells #[.int .i64 0,.int .i64 0] 75)) W->Below w.heap.size w W from λW hW=>bC.trans (hW.below bC.size (λi(hi:i=w.heap.size+1)=>by omega)));clear hM hG hL hN lq hT;go_enter func85,ntmps85;refine aj λQ HQ=>?_;go_wp2_with fail;refine aX 8 (by kernel_rfl) (by kernel_rfl) ?_;simp only[List.take_succ_cons,List.take_zero,List.drop_succ_cons,List.drop_zero]
 repeat(go_big_quiet_step (fail))
 refine wpQuiet_nil ?_;go_wp2_with fail;refine HQ _ _ _ ?_;refine aS (v:= .tuple #[.agg #[.int .i64 va.obj,.int .i64 va.n],.bool true]) (by simp[results,results85,go_sem]) rfl ⟨rfl,by first|exact aB w _ _|exact(aB w _ _).drew⟩
theorem T7(dst b av:Int)(AV:Value)(ma:Nat)(rb fb:Nat)(M:List MO)(tp:List V)(lo:List Nat)(ng:Nat)(w:World)(hR:x7 w w.heap.size rb fb M tp lo ng)(hN:eI M)(lq:fV M tp lo ng)(lh:ma<ng)(htl:ng<=1000000):
  Calls prog 85 #[.pointer (some ⟨rb,0,none⟩),.pointer (some ⟨fb,0,none⟩),.agg #[.int .i64 4,.int .i64 dst,.int .i64 av,.int .i64 b,.int .i64 (ma:Nat),AV]] w λe w'=>cN (some ⟨ma+1,0⟩) e/\Below w.heap.size w w':=by
 obtain⟨hb',n',cap',tc,lc,gc,A',TA,LA,GA,r4,h0,hM,r5,hG,f0,hT,f1,hL,l1,l2,l3⟩:=hR;obtain⟨Fg,yZ,uS,rP,IQ,IP⟩:=hG ma _ (M9 lh);subst uS;have hm1:(ma:Int)<(ng:Int):=by omega
 obtain⟨va,jr⟩:∃va:V,va=⟨ma+1,0⟩:=⟨_,rfl⟩
 rw[<-jr]at IQ IP ⊢;clear jr;have hm0:(0:Int)<=(ma:Int):=by omega
 have hz1:rb<w.heap.size+1:=by omega
 have hz2:rb<w.heap.size+1+1:=by omega
 have hz3:fb<w.heap.size+1:=by omega
 have vT:fb<w.heap.size+1+1:=by omega
 have Xz:Fg<w.heap.size+1:=by omega
 have YW:Fg<w.heap.size+1+1:=by omega
 have bC:=ae (aB w (.cells #[.int .i64 4,.int .i64 dst,.int .i64 av,.int .i64 b,.int .i64 (ma:Nat),AV] 94) (.cells #[.int .i64 0,.int .i64 0] 75));have cB:=ae (show∀W:World,Wr (λi=>i=w.heap.size+1) ((w.alloc (.cells #[.int .i64 4,.int .i64 dst,.int .i64 av,.int .i64 b,.int .i64 (ma:Nat),AV] 94)).alloc (.cells #[.int .i64 0,.int .i64 0] 75)) W->Below w.heap.size w W from λW hW=>bC.trans (hW.below bC.size (λi(hi:i=w.heap.size+1)=>by omega)));clear hM hG hL hN lq hT;go_enter func85,ntmps85;refine aj λQ HQ=>?_;go_wp2_with fail;refine aX 8 (by kernel_rfl) (by kernel_rfl) ?_;simp only[List.take_succ_cons,List.take_zero,List.drop_succ_cons,List.drop_zero]
 repeat(go_big_quiet_step (fail))
 refine wpQuiet_nil ?_;go_wp2_with fail;refine HQ _ _ _ ?_;refine aS (v:= .tuple #[.agg #[.int .i64 va.obj,.int .i64 va.n],.bool true]) (by simp[results,results85,go_sem]) rfl ⟨rfl,by first|exact aB w _ _|exact(aB w _ _).drew⟩
theorem TY(dst b n:Int)(AV:Value)(ma:Nat)(rb fb:Nat)(M:List MO)(tp:List V)(lo:List Nat)(ng:Nat)(w:World)(hR:x7 w w.heap.size rb fb M tp lo ng)(hN:eI M)(lq:fV M tp lo ng)(XM:cQ M)(lh:ma<tp.length)(oh:In64 b)(hn:5<=n/\n<=11):
  Calls prog 85 #[.pointer (some ⟨rb,0,none⟩),.pointer (some ⟨fb,0,none⟩),.agg #[.int .i64 8,.int .i64 dst,.int .i64 (ma:Nat),.int .i64 b,.int .i64 n,AV]] w λe w'=>cN (match dm bF M 12 (tp.getD ma ⟨0,0⟩) ⟨0,b⟩with|none=>none|some v=>gZ M n v) e/\Below w.heap.size w w':=by
 have HAD:=ae (λW(hW:Below w.heap.size w W)=>Dr 8 dst b n AV ma rb fb M tp lo ng W (hR.below hW hW.size) hN lq lh oh);have Y4:kW M.length (tp.getD ma ⟨0,0⟩):=lq.bN _ (by rw[List.getD_eq_getElem?_getD,List.getElem?_eq_getElem lh];exact List.getElem_mem lh);obtain⟨hb',n',cap',tc,lc,gc,A',TA,LA,GA,r4,h0,hM,r5,hG,f0,hT,f1,hL,l1,l2,l3⟩:=hR;obtain⟨va,jr⟩:∃v,tp[ma]? =some v:=⟨_,List.getElem?_eq_getElem lh⟩
 obtain⟨Fg,yZ,uS,rP,IQ,IP⟩:=hT ma va jr;have Bh:tp.getD ma ⟨0,0⟩=va:=by rw[List.getD_eq_getElem?_getD,jr];rfl
 obtain⟨Tk,Tj,Yd⟩:=lq.bN va (List.mem_of_getElem? jr);subst uS;rw[Bh]at HAD Y4 ⊢;have bC:=ae (aB w (.cells #[.int .i64 8,.int .i64 dst,.int .i64 (ma:Nat),.int .i64 b,.int .i64 n,AV] 94) (.cells #[.int .i64 0,.int .i64 0] 75));obtain⟨ra,CE⟩:∃ra:Option V,ra=dm bF M 12 va ⟨0,b⟩:=⟨_,rfl⟩
 have vZ:∀v,ra=some v->kW M.length v:=λv hv=>Cu XM Y4 (kW.num (by have:=lq.ay;omega) oh) (CE▸hv);rw[<-CE]at HAD ⊢;have K2:=ae r4;have CB:=ae f0;have Dg:=ae IQ;have Df:=ae IP;cases ra with
 |none=>
  clear CE vZ hM hG hL hN lq hT r4 f0 IQ IP;have HADN:=ae (λW(hW:Below w.heap.size w W)=>(HAD.out W hW).mono (λe w' h=>(⟨h.1.fits,h.2⟩:(∃y0 y1,e= .returned (.tuple #[.agg #[.int .i64 y0,.int .i64 y1],.bool false])/\Fits none y0 y1)/\Below W.heap.size W w')));clear HAD;go_enter func85,ntmps85;refine aj λQ HQ=>?_;go_wp2_with fail;refine(HADN _ bC.out).mono ?_;rintro e w3 ⟨⟨y0,y1,rfl,_⟩,hb3⟩;have q0:w3.cell? ⟨w.heap.size+1,0,none⟩=some (.int .i64 0):=ag (by simp[go_sem]) hb3 (by simp);have q1:w3.cell? ⟨w.heap.size+1,1,none⟩=some (.int .i64 0):=ag (by simp[go_sem]) hb3 (by simp);have q2:w3.frozen? ⟨w.heap.size+1,0,none⟩=false:=((bL hb3).2 _ _ (by simp)).trans (by simp[go_sem])
  have q3:w3.frozen? ⟨w.heap.size+1,1,none⟩=false:=((bL hb3).2 _ _ (by simp)).trans (by simp[go_sem]);have q4:w.heap.size+1<w3.heap.size:=by have:=hb3.size;simp at this;omega
  have eO:=ae (bC.trans (hb3.mono bC.size));have cB:=ae (show∀W:World,Wr (λi=>i=w.heap.size+1) w3 W->Below w.heap.size w W from λW hW=>eO.trans (hW.below eO.size (λi(hi:i=w.heap.size+1)=>by omega)));clear hb3;go_wp2_with fail;refine HQ _ _ _ ?_;refine aS (v:= .tuple #[.agg #[.int .i64 y0,.int .i64 y1],.bool false]) (by simp[results,results85,go_sem,q0,q1,q4,Nat.ne_of_lt q4]) rfl ⟨⟨_,_,rfl⟩,cB _ ?_⟩
  repeat(first|(with_reducible exact Wr.refl _ _)|(with_reducible refine Wr.bR ?_)|(with_reducible refine Wr.bH ?_ _)|(with_reducible refine Wr.cJ ?_ _ _ _ (aK rfl)))
 |some wv=>
  have hwo:=vZ wv rfl;have HLD:=ae (λW(hW:Below w.heap.size w W)=>(Na hb' A' n' cap' w.heap.size n wv M W hW.size (fQ l3 hW.size) (ag h0 hW l3) (hM.below hW (aY _)) hN (λ_=>hwo.1) hwo.2.1 hn.1 hn.2).mono (λe w' h=>(⟨h.1.fits,h.2⟩:(∃y0 y1,e= .returned (.tuple #[.agg #[.int .i64 y0,.int .i64 y1],.bool (gZ M n wv).isSome])/\Fits (gZ M n wv) y0 y1)/\Below W.heap.size W w')));show Calls _ _ _ w λe w'=>cN (gZ M n wv) e/\Below w.heap.size w w'
  obtain⟨r,hr⟩:∃r,r=gZ M n wv:=⟨_,rfl⟩
  rw[<-hr]at HLD ⊢;clear hr CE vZ hM hG hL hN lq hT r4 f0 IQ IP;go_enter func85,ntmps85;refine aj λQ HQ=>?_;go_wp2_with fail;refine(HAD _ bC.out).mono ?_;rintro e w3 ⟨he,hb3⟩;simp only[cN,aO]at he;subst he;have hrow2:=(show Row ((w.alloc (.cells #[.int .i64 8,.int .i64 dst,.int .i64 (ma:Nat),.int .i64 b,.int .i64 n,AV] 94)).alloc (.cells #[.int .i64 0,.int .i64 0] 75)) (w.heap.size+1) #[.int .i64 0,.int .i64 0] 75 from by have:=Row.new (w.alloc (.cells #[.int .i64 8,.int .i64 dst,.int .i64 (ma:Nat),.int .i64 b,.int .i64 n,AV] 94)) #[.int .i64 0,.int .i64 0] 75;simpa using this)
  have E7:=ae (((Row.new w #[.int .i64 8,.int .i64 dst,.int .i64 (ma:Nat),.int .i64 b,.int .i64 n,AV] 94).alloc (.cells #[.int .i64 0,.int .i64 0] 75)).below hb3 (by simp;omega));have Di:=ae (hrow2.below hb3 (by simp));have eO:=ae (bC.trans (hb3.mono bC.size));have q4:w.heap.size+1<w3.heap.size:=by have:=hb3.size;simp at this;omega
  clear hb3 hrow2;go_wp2_with fail;have fO:=ae (eO.trans ((ax w3 (.cells #[.int .i64 wv.obj,.int .i64 wv.n] 75)).mono eO.size));refine I0 w3.heap.size rb fb w.heap.size (w.heap.size+1) hb' Fg yZ tp.length tc ma 8 dst b n AV va wv r _ (ag K2.out fO.out l1) (by simp;omega) (by omega) (ag CB.out fO.out l2) (by simp;omega) (by omega) (E7.alloc _) (by omega) lh (by simp;omega) (by omega) (ag Dg.out fO.out rP) (ag Df.out fO.out rP) (Di.alloc _) (Row.new w3 _ _) (by omega) (λW hW=>HLD.out W (fO.trans (hW.below fO.size (λi(hi:i=w.heap.size+1)=>by omega)))) _ (λW y0 y1 Y hw hrow hf=>?_);have c0:=hrow.cell (j:=0) rfl;have c1:=hrow.cell (j:=1) rfl;have hrl:=hrow.lt;have HF:=ae hf;have HW:=ae hw;clear hrow hf hw;go_wp2_with fail;refine HQ _ _ _ ?_
  exact aS (v:= .tuple #[.agg #[.int .i64 y0,.int .i64 y1],.bool r.isSome]) (by simp[results,results85,go_sem,c0,c1]) rfl ⟨HF.ans,fO.trans (HW.below fO.size (λi(hi:i=w.heap.size+1)=>by omega))⟩
theorem LP{c:aR}{ng nf:Nat}{par:Int->Int->Bool}(x:bg)(A:Option Addr)(aA B:Nat)(rb fb:Nat)(M:List MO)(tp:List V)(lo:List Nat)(w:World)(h:pP c ng nf par x)(h8:x.op<=8)(wu:c.regs=(tp.length:Int))(hlo:c.az.length=lo.length)(oh:In64 x.b)(hB:B<=w.heap.size)(pZ:aD w B x.arg (.slice A x.arg.length aA))
  (hR:x7 w w.heap.size rb fb M tp lo ng)(XM:cQ M)(hN:eI M)(lq:fV M tp lo ng)(hf1:tp.length<=1000000)(hf2:lo.length<=1000000)(hf3:ng<=1000000):
  Calls prog 85 #[.pointer (some ⟨rb,0,none⟩),.pointer (some ⟨fb,0,none⟩),.agg #[.int .i64 x.op,.int .i64 x.dst,.int .i64 x.a,.int .i64 x.b,.int .i64 x.n,.slice A x.arg.length aA]] w λe w'=>cN (vK M tp lo x) e/\Below w.heap.size w w':=by
 obtain⟨hop,_,ha,hb,hn⟩:=h;obtain⟨op,dst,a,b,n,arg⟩:=x;simp only at*;have hs:op=1\/op=2\/op=3\/op=4\/op=5\/op=6\/op=7\/op=8:=by omega
 rcases hs with rfl|rfl|rfl|rfl|rfl|rfl|rfl|rfl
 ·exact Ua dst b n a _ _ _ w
 ·obtain⟨ma,rfl⟩:=Int.eq_ofNat_of_zero_le (ha (by simp)).1;exact T9 dst b n _ ma rb fb M tp lo ng w hR hN lq (by have:=(ha (by simp)).2;omega) hf1
 ·simp[aH]at hn;obtain⟨ma,rfl⟩:=Int.eq_ofNat_of_zero_le hn.1;exact T8 dst b a _ ma rb fb M tp lo ng w hR hN lq (by omega) hf2
 ·simp[aH]at hn;obtain⟨ma,rfl⟩:=Int.eq_ofNat_of_zero_le hn.1;exact T7 dst b a _ ma rb fb M tp lo ng w hR hN lq (by omega) hf3
 ·simp[aH]at hn;obtain⟨ma,rfl⟩:=Int.eq_ofNat_of_zero_le (ha (by simp)).1;obtain⟨mb,rfl⟩:=Int.eq_ofNat_of_zero_le (hb rfl).1;exact T6 dst n _ ma mb rb fb M tp lo ng w hR hN lq (by have:=(ha (by simp)).2;omega) (by have:=(hb rfl).2;omega) hn
 ·simp[aH]at hn;obtain⟨ma,rfl⟩:=Int.eq_ofNat_of_zero_le (ha (by simp)).1;obtain⟨xv,rfl⟩:∃xv,arg=[xv]:=by
   match arg,hn.2.1 with
   |[q],_=>exact⟨q,rfl⟩
  obtain⟨ab,qU,x',rfl,hab,hx,hc0,pI⟩:=SliceAt.get pZ (k:=0) (by simp);obtain rfl:xv=x':=by simpa using hx
  simp only[Nat.zero_mul,Nat.add_zero]at hc0;exact T3 dst b n xv ab qU aA ma rb fb M tp lo ng w hR hN lq (by have:=(ha (by simp)).2;omega) hn.1 pI (by omega) hc0
 ·simp[aH]at hn;obtain⟨ma,rfl⟩:=Int.eq_ofNat_of_zero_le (ha (by simp)).1;exact TZ dst b n _ ma rb fb M tp lo ng w hR hN lq (by have:=(ha (by simp)).2;omega) hn
 ·simp[aH]at hn;obtain⟨ma,rfl⟩:=Int.eq_ofNat_of_zero_le (ha (by simp)).1;exact TY dst b n _ ma rb fb M tp lo ng w hR hN lq XM (by have:=(ha (by simp)).2;omega) oh hn.1
def aW(R:bT)(lo:List Nat)(s:St)(tp:List V)(y:qC):Bool×St×List V:=
 match cF s.mem tp lo y.args with
 |none=>(false,{s with kind:=3},tp)
 |some l=>kX R s tp y l
theorem qx{R:bT}{ah:Int}{lo:List Nat}{s:St}{tp:List V}{y:qC}(h:(aL ah 1 s).1=true):oz R ah lo s tp y=aW R lo (aL ah 1 s).2 tp y:=by
 unfold oz aW;rw[if_neg (by rw[h];simp)];rfl
theorem iw{tp:List V}{m:Nat}{v:V}:zf tp (m:Int) v=tp.set m v:=by
 unfold zf;rw[if_pos (by omega),Int.toNat_natCast]
def sF(ai cb hb:Nat)(ah:Int)(fb tb mb:Nat)(lv:Value)(lo:List Nat)(own:Nat->Prop)(r:Bool×St×List V)(w:World)(e:Ending)(w':World):Prop:=
 e= .returned (.bool r.1)/\∃own':Nat->Prop,(∀k,own k->own' k)/\(∀k,own' k->own k\/w.heap.size<=k)/\iH w' ai own' cb hb ah r.2.1/\(r.1=true->bX w' fb tb r.2.2 lv lo mb)/\Wr (λb=>own b\/b=tb) w w'
theorem bX.set{w:World}{fb tb mb:Nat}{tp:List V}{lv:Value}{lo:List Nat}(h:bX w fb tb tp lv lo mb)(k:Nat)(v:V):
  bX ((w.setCell ⟨tb,k*2,none⟩ (.int .i64 v.obj)).setCell ⟨tb,k*2+1,none⟩ (.int .i64 v.n)) fb tb (tp.set k v) lv lo mb:=by
 obtain⟨h1,h2,h3,h4,h5,h6⟩:=h;have hw:=gI w tb (k*2) (k*2+1) (.int .i64 v.obj) (.int .i64 v.n);obtain⟨cs,hr,hv⟩:=id h2;refine⟨?_,h2.set k v,aF h3 hw h4,h4,by simpa using h5,h6⟩;rw[List.length_set];exact h1.wr hw (λe=>h1.ne hr (by decide) e)
theorem Od{ai cb hb fb tb rb mb:Nat}{own:Nat->Prop}{ah:Int}{s:St}{tp:List V}{lv gv:Value}{lo:List Nat}{w W:World}(h:iH w ai own cb hb ah s)(hF:bX w fb tb tp lv lo mb)(hO:oW ai own rb fb tb lv gv)(hb2:Below w.heap.size w W)(m:Nat)(v:V):
  iH ((W.setCell ⟨tb,m*2,none⟩ (.int .i64 v.obj)).setCell ⟨tb,m*2+1,none⟩ (.int .i64 v.n)) ai own cb hb ah s/\bX ((W.setCell ⟨tb,m*2,none⟩ (.int .i64 v.obj)).setCell ⟨tb,m*2+1,none⟩ (.int .i64 v.n)) fb tb (tp.set m v) lv lo mb/\
  Wr (λb=>own b\/b=tb) w ((W.setCell ⟨tb,m*2,none⟩ (.int .i64 v.obj)).setCell ⟨tb,m*2+1,none⟩ (.int .i64 v.n)):=by
 have Pk:=gI W tb (m*2) (m*2+1) (.int .i64 v.obj) (.int .i64 v.n);exact⟨(h.below hb2).wr Pk (λk hk=>(by subst hk;exact⟨hO.El.2,hO.El.1⟩)),(hF.below hb2).set m v,
  (Wr.of_below (F:=λb=>own b\/b=tb) hb2).trans Pk (λi hi=>aK (bu hi))⟩
theorem Jb{c:aR}{ng nf:Nat}{par:Int->Int->Bool}(ai cb hb rb fb tb mb:Nat)(own:Nat->Prop)(P:Value×Value×Value)(gv bv lv:Value)(ah:Int)(s:St)(tp:List V)(lo:List Nat)(R:bT)(op:Int)(m:Nat)(a b n:Int)(arg:List Int)(A:Option Addr)(aA:Nat)(w:World)
  (hi:pP c ng nf par ⟨op,(m:Int),a,b,n,arg⟩)(h8:op<=8)(wu:c.regs=(tp.length:Int))(hlo:c.az.length=lo.length)(oh:In64 b)(pZ:aD w ai arg (.slice A arg.length aA))(xu:m<tp.length)
  (h:iH w ai own cb hb ah s)(hR:jd w rb cb hb P gv bv ng)(hF:bX w fb tb tp lv lo mb)(hO:oW ai own rb fb tb lv gv)(lq:fV (au s.mem) tp lo ng):
  Calls prog 65 #[.pointer (some ⟨rb,0,none⟩),.pointer (some ⟨fb,0,none⟩),.agg #[.int .i64 op,.int .i64 (m:Int),.int .i64 a,.int .i64 b,.int .i64 n,.slice A arg.length aA]] w λe w'=>sF ai cb hb ah fb tb mb lv lo own (aW R lo s tp (aT ⟨op,(m:Int),a,b,n,arg⟩)) w e w':=by
 have hev:=Dt (M:=au s.mem) (tp:=tp) (lo:=lo) hi h8;rw[lu]at hev;have hop:=hi.ops;simp only at hop;have hst:(aT ⟨op,(m:Int),a,b,n,arg⟩).op=1/\(aT ⟨op,(m:Int),a,b,n,arg⟩).to=(m:Int):=by
  have hs:op=1\/op=2\/op=3\/op=4\/op=5\/op=6\/op=7\/op=8:=by omega
  rcases hs with rfl|rfl|rfl|rfl|rfl|rfl|rfl|rfl<;>exact⟨rfl,rfl⟩
 have pK:aW R lo s tp (aT ⟨op,(m:Int),a,b,n,arg⟩)=(match vK (au s.mem) tp lo ⟨op,(m:Int),a,b,n,arg⟩with|none=>(false,{s with kind:=3},tp)|some v=>(true,s,tp.set m v)):=by
  unfold aW;rw[hev];cases vK (au s.mem) tp lo ⟨op,(m:Int),a,b,n,arg⟩with
  |none=>rfl
  |some v=>
   show kX R s tp _ [v]=_;unfold kX;rw[if_pos hst.1,hst.2,iw];rfl
 rw[pK];clear pK hev hst;have hbk:=h.blocks;have S5:=ae (λW(hW:Below w.heap.size w W)=>LP (c:=c) (ng:=ng) (nf:=nf) (par:=par) ⟨op,(m:Int),a,b,n,arg⟩ A aA ai rb fb (au s.mem) tp lo W hi h8 wu hlo oh (by have:=hW.size;have:=hbk.2.2 cb hbk.1;omega) (pZ.below (hW.mono (by have:=hbk.2.2 cb hbk.1;omega)) (aY _))
  (sZ (h.below hW) (hR.below hW) (hF.below hW)).1 (sZ h hR hF).2.1 (sZ h hR hF).2.2 lq hF.few hF.Z7 hR.few)
 obtain⟨r,hr⟩:∃r,r=vK (au s.mem) tp lo ⟨op,(m:Int),a,b,n,arg⟩:=⟨_,rfl⟩
 rw[<-hr]at S5 ⊢;have t9:(op==9)=false:=by simp;omega
 have t10:(op==10)=false:=by simp;omega
 have t11:(op==11)=false:=by simp;omega
 have t12:(op==12)=false:=by simp;omega
 have t13:(op==13)=false:=by simp;omega
 have t14:(op==14)=false:=by simp;omega
 have bQ:=ae (ax w (.cells #[.int .i64 op,.int .i64 (m:Int),.int .i64 a,.int .i64 b,.int .i64 n,.slice A arg.length aA] 94));have zP:=ae (Row.new w #[.int .i64 op,.int .i64 (m:Int),.int .i64 a,.int .i64 b,.int .i64 n,.slice A arg.length aA] 94);have HH:=ae h;have HR:=ae hR;have HF:=ae hF;have HO:=ae hO;have fD:=ae hbk;have tT:=hR.row.lt;clear hi hop h8 wu hlo oh pZ h hR hF hO lq hbk hr;cases r with
 |none=>
  go_enter func65,ntmps65;refine aj λQ HQ=>?_;go_wp2_with fail;refine(S5 _ bQ.out).mono ?_;rintro e w3 ⟨⟨y0,y1,rfl⟩,hb3⟩;have eO:=ae (bQ.trans (hb3.mono bQ.size));have hr3:=(HR.below eO.out).row;have k0:=hr3.cell (j:=0) rfl;have Ps:=hr3.lt;have HSK:=ae (λW(hW:Below w3.heap.size w3 W)=>Am (w:=W) ((HH.below eO.out).below hW));clear hb3 hr3;go_wp2_with fail;refine(HSK _ (ax _ _)).mono ?_;rintro e w4 ⟨rfl,P5,hw4⟩;have Xg:=ae P5;have zQ:=ae ((Wr.of_below (F:=λb=>own b\/b=tb) (eO.trans ((ax w3 (.cells #[.int .i64 y0,.int .i64 y1] 75)).mono eO.size))).trans hw4 (λi hi=>aK (aK (hi▸fD.1))));clear P5 hw4;go_wp2_with fail;refine HQ _ _ _ ?_
  exact aS (v:= .bool false) (by simp[results,results65,go_sem]) rfl ⟨rfl,own,λ_ h=>h,λ_ h=>aK h,Xg.out,λh=>(by cases h),zQ.out⟩
 |some v=>
  go_enter func65,ntmps65;refine aj λQ HQ=>?_;go_wp2_with fail;refine(S5 _ bQ.out).mono ?_;rintro e w3 ⟨he,hb3⟩;simp only[cN,aO]at he;subst he;have eO:=ae (bQ.trans (hb3.mono bQ.size));have hx3:=zP.below hb3 (by simp);have x1:=hx3.cell (j:=1) rfl;have hxl:=hx3.lt;have ig:=HF.below eO.out;have ft:=ig.row.cell (j:=0) rfl;have Vc:=ig.row.lt;have UM:=ig.lt.2;obtain⟨cs,htr,gT⟩:=id ig.bN;obtain⟨lT,lS⟩:=gT.2 m _ (List.getElem?_eq_getElem xu);have t0:=htr.cell lT;have t1:=htr.cell lS;have t2:=htr.free (m*2);have t3:=htr.free (m*2+1);have Vb:fb<w3.heap.size+1:=by omega
  have UL:tb<w3.heap.size+1:=by omega
  have MT:¬tb=w3.heap.size:=by omega
  have UJ:w.heap.size<w3.heap.size+1:=by omega
  have hm0:(0:Int)<=(m:Int):=by omega
  have hm1:(m:Int)<(tp.length:Int):=by omega
  have zi:(tp.length:Int)<=1000000:=by have:=ig.few;omega
  have uf:=ae ig;clear hb3 hx3 gT lT lS htr ig;go_wp2_with fail;refine aX 8 (by kernel_rfl) (by kernel_rfl) ?_;simp only[List.take_succ_cons,List.take_zero,List.drop_succ_cons,List.drop_zero]
  repeat(go_big_quiet_step (fail))
  refine wpQuiet_nil ?_;go_wp2_with fail;refine HQ _ _ _ ?_;obtain⟨z1,z2,z3⟩:=Od HH.out HF.out HO.out eO.out m v;have hbz:=(ax ((w3.setCell ⟨tb,m*2,none⟩ (.int .i64 v.obj)).setCell ⟨tb,m*2+1,none⟩ (.int .i64 v.n)) (.cells #[.int .i64 v.obj,.int .i64 v.n] 75)).drew;exact aS (v:= .bool true) (by simp[results,results65,go_sem]) rfl ⟨rfl,own,λ_ h=>h,λ_ h=>aK h,z1.below hbz,λ_=>z2.below hbz,z3.trans (eW hbz) (λ_ h=>h.elim)⟩
theorem AW{w:World}{b o:Nat}{v:V}(h:w.cell? ⟨b,o,none⟩=some (.int .i64 v.obj))(hv:v.obj=0):w.cell? ⟨b,o,none⟩=some (.int .i64 0):=by
 rw[hv]at h;exact h
theorem iV{R:bT}{lo:List Nat}{s:St}{tp:List V}{y:qC}{r:Int}(h:y.args=[fX r]):aW R lo s tp y=kX R s tp y [tp.getD r.toNat ⟨0,0⟩]:=by
 unfold aW;rw[h,cE,fH];rfl
theorem FC(ai cb hb rb fb tb mb:Nat)(own:Nat->Prop)(P:Value×Value×Value)(gv bv lv:Value)(ah:Int)(s:St)(tp:List V)(lo:List Nat)(R:bT)(ng:Nat)(dst a b n:Int)(AV:Value)(l:List Int)(w:World)
  (h:iH w ai own cb hb ah s)(hR:jd w rb cb hb P gv bv ng)(hF:bX w fb tb tp lv lo mb)(hO:oW ai own rb fb tb lv gv):
  Calls prog 65 #[.pointer (some ⟨rb,0,none⟩),.pointer (some ⟨fb,0,none⟩),.agg #[.int .i64 14,.int .i64 dst,.int .i64 a,.int .i64 b,.int .i64 n,AV]] w λe w'=>sF ai cb hb ah fb tb mb lv lo own (aW R lo s tp (aT ⟨14,dst,a,b,n,l⟩)) w e w':=by
 have pK:aW R lo s tp (aT ⟨14,dst,a,b,n,l⟩)=(true,s,tp):=by
  unfold aW;rw[show(aT ⟨14,dst,a,b,n,l⟩).args=[qc 0]from rfl,cE,nT];rfl
 rw[pK];clear pK;have bQ:=ae (ax w (.cells #[.int .i64 14,.int .i64 dst,.int .i64 a,.int .i64 b,.int .i64 n,AV] 94));have HH:=ae h;have HF:=ae hF;clear h hR hF hO;go_enter func65,ntmps65;refine aj λQ HQ=>?_;go_wp2_with fail;refine HQ _ _ _ ?_;exact aS (v:= .bool true) (by simp[results,results65,go_sem]) rfl ⟨rfl,own,λ_ h=>h,λ_ h=>aK h,HH.below bQ.out,λ_=>HF.below bQ.out,Wr.of_below bQ.out⟩
theorem LW(ai cb hb rb fb tb mb:Nat)(own:Nat->Prop)(P:Value×Value×Value)(gv bv lv:Value)(ah:Int)(s:St)(tp:List V)(lo:List Nat)(R:bT)(ng:Nat)(dst b n:Int)(ma:Nat)(AV:Value)(l:List Int)(w:World)
  (h:iH w ai own cb hb ah s)(hR:jd w rb cb hb P gv bv ng)(hF:bX w fb tb tp lv lo mb)(hO:oW ai own rb fb tb lv gv)(lh:ma<tp.length)(hz:(tp.getD ma ⟨0,0⟩).obj=0)(hout:s.out.length<=1000000000):
  Calls prog 65 #[.pointer (some ⟨rb,0,none⟩),.pointer (some ⟨fb,0,none⟩),.agg #[.int .i64 11,.int .i64 dst,.int .i64 (ma:Int),.int .i64 b,.int .i64 n,AV]] w λe w'=>sF ai cb hb ah fb tb mb lv lo own (aW R lo s tp (aT ⟨11,dst,(ma:Int),b,n,l⟩)) w e w':=by
 have pK:aW R lo s tp (aT ⟨11,dst,(ma:Int),b,n,l⟩)=(true,{s with out:=s.out++[(tp.getD ma ⟨0,0⟩).n]},tp):=by
  rw[show aT ⟨11,dst,(ma:Int),b,n,l⟩=⟨4,-1,0,0,[fX (ma:Int)]⟩from rfl,iV (r:=(ma:Int)) rfl,Int.toNat_natCast];unfold kX;simp only[List.getD_cons_zero];rw[if_neg (show¬(4:Int)=1 by decide),if_neg (show¬(4:Int)=2 by decide),if_neg (show¬(4:Int)=3 by decide),if_neg (show¬(4:Int)=5 by decide),if_neg (show¬(tp.getD ma ⟨0,0⟩).obj>0 by omega),if_neg (show¬(4:Int)=6 by decide)]
 rw[pK];clear pK;have hbk:=h.blocks;have bQ:=ae (ax w (.cells #[.int .i64 11,.int .i64 dst,.int .i64 (ma:Int),.int .i64 b,.int .i64 n,AV] 94));have sW:=ae (Row.new w #[.int .i64 11,.int .i64 dst,.int .i64 (ma:Int),.int .i64 b,.int .i64 n,AV] 94);have E8:=ae (h.below (ax w (.cells #[.int .i64 11,.int .i64 dst,.int .i64 (ma:Int),.int .i64 b,.int .i64 n,AV] 94)));have hR1:=hR.below (ax w (.cells #[.int .i64 11,.int .i64 dst,.int .i64 (ma:Int),.int .i64 b,.int .i64 n,AV] 94));have zx:=hF.below (ax w (.cells #[.int .i64 11,.int .i64 dst,.int .i64 (ma:Int),.int .i64 b,.int .i64 n,AV] 94));have k0:=hR.row.cell (j:=0) rfl;have tT:=hR.row.lt;have Ez:rb<w.heap.size+1:=by omega
 have ft:=hF.row.cell (j:=0) rfl;have hfb:=hF.row.lt;have NY:=hF.lt.2;have xQ:fb<w.heap.size+1:=by omega
 have uj:tb<w.heap.size+1:=by omega
 have MT:¬tb=w.heap.size:=by omega
 obtain⟨v,hv⟩:∃v,tp[ma]? =some v:=⟨_,List.getElem?_eq_getElem lh⟩
 obtain⟨cs,htr,gT⟩:=id hF.bN;obtain⟨lT,lS⟩:=gT.2 ma v hv;have t0:=htr.cell lT;have t1:=htr.cell lS;have hm0:(0:Int)<=(ma:Int):=by omega
 have hm1:(ma:Int)<(tp.length:Int):=by omega
 have zi:(tp.length:Int)<=1000000:=by have:=hF.few;omega
 have HF:=ae hF;have HO:=ae hO;have fD:=ae hbk;have hgd:tp.getD ma ⟨0,0⟩=v:=by rw[List.getD_eq_getElem?_getD,hv];rfl
 rw[hgd]at hz;rw[hgd];have t0':=AW t0 hz;clear t0;clear h hR hF hO hbk hR1 zx gT lT lS htr hv hgd;go_enter func65,ntmps65;refine aj λQ HQ=>?_;go_wp2_with fail;refine aX 12 (by kernel_rfl) (by kernel_rfl) ?_;simp only[List.take_succ_cons,List.take_zero,List.drop_succ_cons,List.drop_zero]
 repeat(go_big_quiet_step (fail))
 refine wpQuiet_nil ?_;go_wp2_with fail;refine(UC v.n (E8.below (aV _ _).drew) hout).mono ?_;rintro e w3 ⟨rfl,own',h1,h2,h3,h4⟩;have vT:=h4.size;simp only[World.size_drew,World.size_alloc]at vT;have uq:=ae (And.intro h1 (And.intro h2 h3));have vB:=ae h4;clear h1 h2 h3 h4;go_wp2_with fail;refine HQ _ _ _ ?_;refine aS (v:= .bool true) (by simp[results,results65,go_sem]) rfl ⟨rfl,own',uq.1,λk hk=>?_,uq.2.2,λ_=>(HF.below bQ.drew).wr vB.out HO.My.1 HO.El.1 (λg hg=>(HO.Lm g hg).1),(Wr.of_below (F:=λb=>own b\/b=tb) bQ.drew).trans vB (λi hi=>aK (aK hi))⟩;rcases uq.2.1 k hk with h'|h'
 ·exact aK h'
 ·simp only[World.size_drew,World.size_alloc]at h';exact bu (by omega)
theorem yY(ai cb hb rb fb tb mb:Nat)(own:Nat->Prop)(P:Value×Value×Value)(gv bv lv:Value)(ah:Int)(s:St)(tp:List V)(lo:List Nat)(R:bT)(ng:Nat)(dst b n:Int)(ma:Nat)(AV:Value)(l:List Int)(w:World)
  (h:iH w ai own cb hb ah s)(hR:jd w rb cb hb P gv bv ng)(hF:bX w fb tb tp lv lo mb)(hO:oW ai own rb fb tb lv gv)(lh:ma<tp.length)(hz:(tp.getD ma ⟨0,0⟩).obj≠0):
  Calls prog 65 #[.pointer (some ⟨rb,0,none⟩),.pointer (some ⟨fb,0,none⟩),.agg #[.int .i64 11,.int .i64 dst,.int .i64 (ma:Int),.int .i64 b,.int .i64 n,AV]] w λe w'=>sF ai cb hb ah fb tb mb lv lo own (aW R lo s tp (aT ⟨11,dst,(ma:Int),b,n,l⟩)) w e w':=by
 have pK:aW R lo s tp (aT ⟨11,dst,(ma:Int),b,n,l⟩)=(false,{s with kind:=3},tp):=by
  rw[show aT ⟨11,dst,(ma:Int),b,n,l⟩=⟨4,-1,0,0,[fX (ma:Int)]⟩from rfl,iV (r:=(ma:Int)) rfl,Int.toNat_natCast];unfold kX;simp only[List.getD_cons_zero];rw[if_neg (show¬(4:Int)=1 by decide),if_neg (show¬(4:Int)=2 by decide),if_neg (show¬(4:Int)=3 by decide),if_neg (show¬(4:Int)=5 by decide),if_pos (show(tp.getD ma ⟨0,0⟩).obj>0 by omega)]
 rw[pK];clear pK;have hbk:=h.blocks;have bQ:=ae (ax w (.cells #[.int .i64 11,.int .i64 dst,.int .i64 (ma:Int),.int .i64 b,.int .i64 n,AV] 94));have sW:=ae (Row.new w #[.int .i64 11,.int .i64 dst,.int .i64 (ma:Int),.int .i64 b,.int .i64 n,AV] 94);have E8:=ae (h.below (ax w (.cells #[.int .i64 11,.int .i64 dst,.int .i64 (ma:Int),.int .i64 b,.int .i64 n,AV] 94)));have hR1:=hR.below (ax w (.cells #[.int .i64 11,.int .i64 dst,.int .i64 (ma:Int),.int .i64 b,.int .i64 n,AV] 94));have zx:=hF.below (ax w (.cells #[.int .i64 11,.int .i64 dst,.int .i64 (ma:Int),.int .i64 b,.int .i64 n,AV] 94));have k0:=hR.row.cell (j:=0) rfl;have tT:=hR.row.lt;have Ez:rb<w.heap.size+1:=by omega
 have ft:=hF.row.cell (j:=0) rfl;have hfb:=hF.row.lt;have NY:=hF.lt.2;have xQ:fb<w.heap.size+1:=by omega
 have uj:tb<w.heap.size+1:=by omega
 have MT:¬tb=w.heap.size:=by omega
 obtain⟨v,hv⟩:∃v,tp[ma]? =some v:=⟨_,List.getElem?_eq_getElem lh⟩
 obtain⟨cs,htr,gT⟩:=id hF.bN;obtain⟨lT,lS⟩:=gT.2 ma v hv;have t0:=htr.cell lT;have t1:=htr.cell lS;have hm0:(0:Int)<=(ma:Int):=by omega
 have hm1:(ma:Int)<(tp.length:Int):=by omega
 have zi:(tp.length:Int)<=1000000:=by have:=hF.few;omega
 have HF:=ae hF;have HO:=ae hO;have fD:=ae hbk;have hgd:tp.getD ma ⟨0,0⟩=v:=by rw[List.getD_eq_getElem?_getD,hv];rfl
 rw[hgd]at hz;clear h hR hF hO hbk hR1 zx gT lT lS htr hv hgd;go_enter func65,ntmps65;refine aj λQ HQ=>?_;go_wp2_with fail;refine aX 12 (by kernel_rfl) (by kernel_rfl) ?_;simp only[List.take_succ_cons,List.take_zero,List.drop_succ_cons,List.drop_zero]
 repeat(go_big_quiet_step (fail))
 refine wpQuiet_nil ?_;go_wp2_with fail;refine(FZ v (E8.below (aV _ _).drew) hz).mono ?_;rintro e w3 ⟨rfl,SC,hw3⟩;have uq:=ae SC;have vB:=ae ((Wr.of_below (F:=λb=>own b\/b=tb) bQ.drew).trans hw3 (λi hi=>aK (aK (hi▸fD.1))));clear SC hw3;go_wp2_with fail;refine HQ _ _ _ ?_;exact aS (v:= .bool false) (by simp[results,results65,go_sem]) rfl ⟨rfl,own,λ_ h=>h,λ_ h=>aK h,uq.out,λh=>(by cases h),vB.out⟩
theorem Jc(ai cb hb rb fb tb mb:Nat)(own:Nat->Prop)(P:Value×Value×Value)(gv bv lv:Value)(ah:Int)(s:St)(tp:List V)(lo:List Nat)(R:bT)(ng:Nat)(dst b n:Int)(ma:Nat)(AV:Value)(l:List Int)(w:World)
  (h:iH w ai own cb hb ah s)(hR:jd w rb cb hb P gv bv ng)(hF:bX w fb tb tp lv lo mb)(hO:oW ai own rb fb tb lv gv)(lh:ma<tp.length):
  Calls prog 65 #[.pointer (some ⟨rb,0,none⟩),.pointer (some ⟨fb,0,none⟩),.agg #[.int .i64 13,.int .i64 dst,.int .i64 (ma:Int),.int .i64 b,.int .i64 n,AV]] w λe w'=>sF ai cb hb ah fb tb mb lv lo own (aW R lo s tp (aT ⟨13,dst,(ma:Int),b,n,l⟩)) w e w':=by
 have pK:aW R lo s tp (aT ⟨13,dst,(ma:Int),b,n,l⟩)=(false,(if(tp.getD ma ⟨0,0⟩).obj>0 then {s with kind:=3}else {s with code:=(tp.getD ma ⟨0,0⟩).n,kind:=1}),tp):=by
  rw[show aT ⟨13,dst,(ma:Int),b,n,l⟩=⟨6,-1,0,0,[fX (ma:Int)]⟩from rfl,iV (r:=(ma:Int)) rfl,Int.toNat_natCast];unfold kX;simp only[List.getD_cons_zero];rw[if_neg (show¬(6:Int)=1 by decide),if_neg (show¬(6:Int)=2 by decide),if_neg (show¬(6:Int)=3 by decide),if_neg (show¬(6:Int)=5 by decide)];by_cases hz:(tp.getD ma ⟨0,0⟩).obj>0
  ·rw[if_pos hz,if_pos hz]
  ·rw[if_neg hz,if_neg hz];rfl
 rw[pK];clear pK;have hbk:=h.blocks;have bQ:=ae (ax w (.cells #[.int .i64 13,.int .i64 dst,.int .i64 (ma:Int),.int .i64 b,.int .i64 n,AV] 94));have sW:=ae (Row.new w #[.int .i64 13,.int .i64 dst,.int .i64 (ma:Int),.int .i64 b,.int .i64 n,AV] 94);have E8:=ae (h.below (ax w (.cells #[.int .i64 13,.int .i64 dst,.int .i64 (ma:Int),.int .i64 b,.int .i64 n,AV] 94)));have hR1:=hR.below (ax w (.cells #[.int .i64 13,.int .i64 dst,.int .i64 (ma:Int),.int .i64 b,.int .i64 n,AV] 94));have zx:=hF.below (ax w (.cells #[.int .i64 13,.int .i64 dst,.int .i64 (ma:Int),.int .i64 b,.int .i64 n,AV] 94));have k0:=hR.row.cell (j:=0) rfl;have tT:=hR.row.lt;have Ez:rb<w.heap.size+1:=by omega
 have ft:=hF.row.cell (j:=0) rfl;have hfb:=hF.row.lt;have NY:=hF.lt.2;have xQ:fb<w.heap.size+1:=by omega
 have uj:tb<w.heap.size+1:=by omega
 have MT:¬tb=w.heap.size:=by omega
 obtain⟨v,hv⟩:∃v,tp[ma]? =some v:=⟨_,List.getElem?_eq_getElem lh⟩
 obtain⟨cs,htr,gT⟩:=id hF.bN;obtain⟨lT,lS⟩:=gT.2 ma v hv;have t0:=htr.cell lT;have t1:=htr.cell lS;have hm0:(0:Int)<=(ma:Int):=by omega
 have hm1:(ma:Int)<(tp.length:Int):=by omega
 have zi:(tp.length:Int)<=1000000:=by have:=hF.few;omega
 have HF:=ae hF;have HO:=ae hO;have fD:=ae hbk;have hgd:tp.getD ma ⟨0,0⟩=v:=by rw[List.getD_eq_getElem?_getD,hv];rfl
 rw[hgd];clear h hR hF hO hbk hR1 zx gT lT lS htr hv hgd;go_enter func65,ntmps65;refine aj λQ HQ=>?_;go_wp2_with fail;refine aX 12 (by kernel_rfl) (by kernel_rfl) ?_;simp only[List.take_succ_cons,List.take_zero,List.drop_succ_cons,List.drop_zero]
 repeat(go_big_quiet_step (fail))
 refine wpQuiet_nil ?_;go_wp2_with fail;refine(LC v (E8.below (aV _ _).drew)).mono ?_;rintro e w3 ⟨rfl,SC,hw3⟩;have uq:=ae SC;have vB:=ae ((Wr.of_below (F:=λb=>own b\/b=tb) bQ.drew).trans hw3 (λi hi=>aK (aK (hi▸fD.1))));clear SC hw3;go_wp2_with fail;refine HQ _ _ _ ?_;exact aS (v:= .bool false) (by simp[results,results65,go_sem]) rfl ⟨rfl,own,λ_ h=>h,λ_ h=>aK h,uq.out,λh=>(by cases h),vB.out⟩
theorem wX{R:bT}{lo:List Nat}{s:St}{tp:List V}{ma md:Nat}{b n:Int}{l:List Int}:aW R lo s tp (aT ⟨9,(md:Int),(ma:Int),b,n,l⟩)=match dm bF (au s.mem) 12 (tp.getD ma ⟨0,0⟩) ⟨0,b⟩with
  |none=>(false,{s with kind:=3},tp)
  |some va=>match bS s.mem n va (tp.getD md ⟨0,0⟩)with
   |some M=>(true,{s with mem:=M},tp)
   |none=>(false,{s with kind:=3},tp):=by
 rw[show aT ⟨9,(md:Int),(ma:Int),b,n,l⟩=⟨2,-1,n,0,[.node 12 0 [fX (ma:Int),qc b],fX (md:Int)]⟩from rfl];unfold aW;simp only;rw[<-lu s.mem,cF,tV (by decide) (fH _ _ _ _) (nT _ _ _ _),cE,fH,Int.toNat_natCast,Int.toNat_natCast];cases dm bF (au s.mem) 12 (tp.getD ma ⟨0,0⟩) ⟨0,b⟩with
 |none=>rfl
 |some va=>
  show kX R s tp ⟨2,-1,n,0,_⟩ [va,tp.getD md ⟨0,0⟩]=_;unfold kX;simp only[List.getD_cons_zero,List.getD_cons_succ];rw[if_neg (show¬(2:Int)=1 by decide),if_pos trivial];cases bS s.mem n va (tp.getD md ⟨0,0⟩)<;>rfl
theorem FB(ai cb hb rb fb tb mb:Nat)(own:Nat->Prop)(P:Value×Value×Value)(gv bv lv:Value)(ah:Int)(s:St)(tp:List V)(lo:List Nat)(R:bT)(ng:Nat)(b:Int)(ma md sz:Nat)(AV:Value)(l:List Int)(w:World)
  (h:iH w ai own cb hb ah s)(hR:jd w rb cb hb P gv bv ng)(hF:bX w fb tb tp lv lo mb)(hO:oW ai own rb fb tb lv gv)(lq:fV (au s.mem) tp lo ng)(lh:ma<tp.length)(hmd:md<tp.length)(hsz:sz=1\/sz=2\/sz=4\/sz=8)(oh:In64 b):
  Calls prog 65 #[.pointer (some ⟨rb,0,none⟩),.pointer (some ⟨fb,0,none⟩),.agg #[.int .i64 9,.int .i64 (md:Int),.int .i64 (ma:Int),.int .i64 b,.int .i64 (sz:Int),AV]] w λe w'=>sF ai cb hb ah fb tb mb lv lo own (aW R lo s tp (aT ⟨9,(md:Int),(ma:Int),b,(sz:Int),l⟩)) w e w':=by
 rw[wX];have hbk:=h.blocks;obtain⟨hRR,XM,hNM⟩:=sZ h hR hF;have HAD:=ae (λW(hW:Below w.heap.size w W)=>Dr 9 (md:Int) b (sz:Int) AV ma rb fb (au s.mem) tp lo ng W (sZ (h.below hW) (hR.below hW) (hF.below hW)).1 hNM lq lh oh);have Y4:kW (au s.mem).length (tp.getD ma ⟨0,0⟩):=lq.bN _ (by rw[List.getD_eq_getElem?_getD,List.getElem?_eq_getElem lh];exact List.getElem_mem lh);have Pn:kW (au s.mem).length (tp.getD md ⟨0,0⟩):=lq.bN _ (by rw[List.getD_eq_getElem?_getD,List.getElem?_eq_getElem hmd];exact List.getElem_mem hmd);obtain⟨ra,CE⟩:∃ra:Option V,ra=dm bF (au s.mem) 12 (tp.getD ma ⟨0,0⟩) ⟨0,b⟩:=⟨_,rfl⟩
 have vZ:∀v,ra=some v->kW (au s.mem).length v:=λv hv=>Cu XM Y4 (kW.num (by have:=lq.ay;omega) oh) (CE▸hv);rw[<-CE]at HAD ⊢;have bQ:=ae (ax w (.cells #[.int .i64 9,.int .i64 (md:Int),.int .i64 (ma:Int),.int .i64 b,.int .i64 (sz:Int),AV] 94));have zP:=ae (Row.new w #[.int .i64 9,.int .i64 (md:Int),.int .i64 (ma:Int),.int .i64 b,.int .i64 (sz:Int),AV] 94);have HH:=ae h;have HR:=ae hR;have HF:=ae hF;have HO:=ae hO;have fD:=ae hbk;have HVD:=ae Pn;have HROK:=ae vZ;clear h hR hF hO lq hbk hRR XM hNM Y4 CE Pn vZ;cases ra with
 |none=>
  go_enter func65,ntmps65;refine aj λQ HQ=>?_;go_wp2_with fail;refine(HAD _ bQ.out).mono ?_;rintro e w3 ⟨⟨y0,y1,rfl⟩,hb3⟩;have eO:=ae (bQ.trans (hb3.mono bQ.size));have hr3:=(HR.below eO.out).row;have k0:=hr3.cell (j:=0) rfl;have Ps:=hr3.lt;have Zb:rb<w3.heap.size+1:=by omega
  have HSK:=ae (λW(hW:Below w3.heap.size w3 W)=>Am (w:=W) ((HH.below eO.out).below hW));clear hb3 hr3;go_wp2_with fail;refine aX 17 (by kernel_rfl) (by kernel_rfl) ?_;simp only[List.take_succ_cons,List.take_zero,List.drop_succ_cons,List.drop_zero]
  repeat(go_big_quiet_step (fail))
  refine wpQuiet_nil ?_;go_wp2_with fail;refine(HSK _ (ax _ _).drew).mono ?_;rintro e w4 ⟨rfl,P5,hw4⟩;have Xg:=ae P5;have zQ:=ae ((Wr.of_below (F:=λb=>own b\/b=tb) (eO.trans ((ax w3 (.cells #[.int .i64 y0,.int .i64 y1] 75)).drew.mono eO.size))).trans hw4 (λi hi=>aK (aK (hi▸fD.1))));clear P5 hw4;go_wp2_with fail;refine HQ _ _ _ ?_;exact aS (v:= .bool false) (by simp[results,results65,go_sem]) rfl ⟨rfl,own,λ_ h=>h,λ_ h=>aK h,Xg.out,λh=>(by cases h),zQ.out⟩
 |some va=>
  obtain⟨vd,Pn⟩:∃v,tp[md]? =some v:=⟨_,List.getElem?_eq_getElem hmd⟩
  have hgd:tp.getD md ⟨0,0⟩=vd:=by rw[List.getD_eq_getElem?_getD,Pn];rfl
  rw[hgd]at HVD ⊢;obtain⟨rs,hrs⟩:∃rs,rs=bS s.mem (sz:Int) va vd:=⟨_,rfl⟩
  have HST:=ae (λ(W:World)(hW:Below w.heap.size w W)=>Ou (w:=W) sz va vd (HH.below hW) (HROK.out va rfl) HVD.out hsz);rw[<-hrs]at HST;show Calls _ _ _ w λe w'=>sF ai cb hb ah fb tb mb lv lo own (match bS s.mem (sz:Int) va vd with|some M=>(true,{s with mem:=M},tp)|none=>(false,{s with kind:=3},tp)) w e w'
  rw[<-hrs];clear hrs hgd HROK HVD;cases rs with
  |some M=>
   go_enter func65,ntmps65;refine aj λQ HQ=>?_;go_wp2_with fail;refine(HAD _ bQ.out).mono ?_;rintro e w3 ⟨he,hb3⟩;simp only[cN,aO]at he;subst he;have eO:=ae (bQ.trans (hb3.mono bQ.size));have hr3:=(HR.below eO.out).row;have k0:=hr3.cell (j:=0) rfl;have k4:=hr3.cell (j:=4) rfl;have Ps:=hr3.lt;have Zb:rb<w3.heap.size+1:=by omega
   have hx3:=zP.below hb3 (by simp);have x1:=hx3.cell (j:=1) rfl;have x4:=hx3.cell (j:=4) rfl;have hxl:=hx3.lt;have ig:=HF.below eO.out;have ft:=ig.row.cell (j:=0) rfl;have Vc:=ig.row.lt;have UM:=ig.lt.2;obtain⟨cs,htr,gT⟩:=id ig.bN;obtain⟨lT,lS⟩:=gT.2 md vd Pn;have t0:=htr.cell lT;have t1:=htr.cell lS;have Vb:fb<w3.heap.size+1:=by omega
   have UL:tb<w3.heap.size+1:=by omega
   have MT:¬tb=w3.heap.size:=by omega
   have UJ:w.heap.size<w3.heap.size+1:=by omega
   have hm0:(0:Int)<=(md:Int):=by omega
   have hm1:(md:Int)<(tp.length:Int):=by omega
   have zi:(tp.length:Int)<=1000000:=by have:=ig.few;omega
   have uf:=ae ig;have WO:=ae (λW(hW:Below w3.heap.size w3 W)=>HST.out W (eO.trans (hW.mono eO.size)));clear hb3 hx3 gT lT lS htr ig hr3 Pn;go_wp2_with fail;refine aX 17 (by kernel_rfl) (by kernel_rfl) ?_;simp only[List.take_succ_cons,List.take_zero,List.drop_succ_cons,List.drop_zero]
   repeat(go_big_quiet_step (fail))
   refine wpQuiet_nil ?_;go_wp2_with fail;refine(WO _ (ax _ _).drew).mono ?_;intro e w4 hS;simp only[tM]at hS;obtain⟨rfl,P5,hw4⟩:=hS;have Xg:=ae P5;have fO:=ae (eO.trans ((ax w3 (.cells #[.int .i64 va.obj,.int .i64 va.n] 75)).drew.mono eO.size));have ve:=ae ((HF.below fO.out).wr hw4 HO.My.1 HO.El.1 (λg hg=>(HO.Lm g hg).1));have zQ:=ae ((Wr.of_below (F:=λb=>own b\/b=tb) fO.out).trans hw4 (λi hi=>aK (aK hi)));clear P5 hw4;go_wp2_with fail;refine HQ _ _ _ ?_;exact aS (v:= .bool true) (by simp[results,results65,go_sem]) rfl ⟨rfl,own,λ_ h=>h,λ_ h=>aK h,Xg.out,λ_=>ve.out,zQ.out⟩
  |none=>
   go_enter func65,ntmps65;refine aj λQ HQ=>?_;go_wp2_with fail;refine(HAD _ bQ.out).mono ?_;rintro e w3 ⟨he,hb3⟩;simp only[cN,aO]at he;subst he;have eO:=ae (bQ.trans (hb3.mono bQ.size));have hr3:=(HR.below eO.out).row;have k0:=hr3.cell (j:=0) rfl;have k4:=hr3.cell (j:=4) rfl;have Ps:=hr3.lt;have Zb:rb<w3.heap.size+1:=by omega
   have hx3:=zP.below hb3 (by simp);have x1:=hx3.cell (j:=1) rfl;have x4:=hx3.cell (j:=4) rfl;have hxl:=hx3.lt;have ig:=HF.below eO.out;have ft:=ig.row.cell (j:=0) rfl;have Vc:=ig.row.lt;have UM:=ig.lt.2;obtain⟨cs,htr,gT⟩:=id ig.bN;obtain⟨lT,lS⟩:=gT.2 md vd Pn;have t0:=htr.cell lT;have t1:=htr.cell lS;have Vb:fb<w3.heap.size+1:=by omega
   have UL:tb<w3.heap.size+1:=by omega
   have MT:¬tb=w3.heap.size:=by omega
   have UJ:w.heap.size<w3.heap.size+1:=by omega
   have hm0:(0:Int)<=(md:Int):=by omega
   have hm1:(md:Int)<(tp.length:Int):=by omega
   have zi:(tp.length:Int)<=1000000:=by have:=ig.few;omega
   have WO:=ae (λW(hW:Below w3.heap.size w3 W)=>HST.out W (eO.trans (hW.mono eO.size)));clear hb3 hx3 gT lT lS htr ig hr3 Pn;go_wp2_with fail;refine aX 17 (by kernel_rfl) (by kernel_rfl) ?_;simp only[List.take_succ_cons,List.take_zero,List.drop_succ_cons,List.drop_zero]
   repeat(go_big_quiet_step (fail))
   refine wpQuiet_nil ?_;go_wp2_with fail;refine(WO _ (ax _ _).drew).mono ?_;intro e w4 hS;simp only[tM]at hS;obtain⟨rfl,P5,hw4⟩:=hS;have fO:=ae (eO.trans ((ax w3 (.cells #[.int .i64 va.obj,.int .i64 va.n] 75)).drew.mono eO.size));have hR4:=(HR.below fO.out).wr hw4 HO.Ll.1 (λg hg=>(HO.JL g hg).1);have j0:=hR4.row.cell (j:=0) rfl;have jl:=hR4.row.lt;have Xg:=ae P5;have zQ:=ae ((Wr.of_below (F:=λb=>own b\/b=tb) fO.out).trans hw4 (λi hi=>aK (aK hi)));clear P5 hw4 hR4;go_wp2_with fail;refine(Am Xg.out).mono ?_;rintro e w5 ⟨rfl,hH5,ji⟩;have HH5:=ae hH5;have Cy:=ae (zQ.trans ji (λi hi=>aK (aK (hi▸fD.1))));clear hH5 ji;go_wp2_with fail;refine HQ _ _ _ ?_
   exact aS (v:= .bool false) (by simp[results,results65,go_sem]) rfl ⟨rfl,own,λ_ h=>h,λ_ h=>aK h,HH5.out,λh=>(by cases h),Cy.out⟩
theorem WG{es:Array Edge}{j:Nat}(h:es.any (λe=>decide (e.on=j)&& Region.binds .any e)=true):∃e∈es,e.on=j/\Region.binds .any e=true:=by
 obtain⟨i,hi,h⟩:=Array.any_eq_true.1 h;simp only[Bool.and_eq_true,decide_eq_true_eq]at h;exact⟨es[i],Array.getElem_mem hi,h.1,h.2⟩
def vgtL(rb fb ib cb tb tl m:Nat)(x:Int):List (Value->Prop):=[λv=>v= .pointer (some ⟨fb,0,none⟩),
 λv=>v= .pointer (some ⟨fb,0,none⟩),
 λv=>v= .pointer (some ⟨fb,0,none⟩),
 λv=>v= .slice (some ⟨tb,0,none⟩) tl tl,
 λv=>v= .pointer (some ⟨ib,1,none⟩),
 λv=>v= .int .i64 (m:Nat),
 λv=>v= .pointer (some ⟨rb,0,none⟩),
 λv=>v= .pointer (some ⟨rb,0,none⟩),
 λv=>v= .pointer (some ⟨rb,0,none⟩),
 λv=>v= .pointer (some ⟨cb,0,none⟩),
 λ_=>True,
 λv=>v= .pointer (some ⟨tb,m*2,none⟩),
 λ_=>True]
def vgtC(rb fb ib cb tb tl m:Nat)(x:Int)(i:Nat)(v:Value):Prop:=((vgtL rb fb ib cb tb tl m x).getD i (λ_=>True)) v
noncomputable def vgtR:Code:=(fU (Tryz.f65.body.getD .skip)).getD 12 .skip
theorem Ja(rb fb ib cb tb tl m:Nat)(x:Int)(PW:World->Prop)(w:World)
  (hold:∀W,(W=w.drew\/PW W)->W.cell? ⟨fb,0,none⟩=some (.slice (some ⟨tb,0,none⟩) tl tl)/\W.cell? ⟨ib,1,none⟩=some (.int .i64 (m:Nat))/\W.cell? ⟨rb,0,none⟩=some (.pointer (some ⟨cb,0,none⟩)))
  (hst:∀W,PW W->(∃v0 v1,W.cell? ⟨tb,m*2,none⟩=some v0/\W.cell? ⟨tb,m*2+1,none⟩=some v1)/\W.frozen? ⟨tb,m*2,none⟩=false/\W.frozen? ⟨tb,m*2+1,none⟩=false/\tb<W.heap.size)
  (hm:m<tl)(hget:Calls prog 84 #[.pointer (some ⟨cb,0,none⟩)] w.drew λe w'=>e= .returned (.agg #[.int .i64 0,.int .i64 x])/\PW w')
  {c2 c3 c4 c6 c7 c8 c9 c10 c11 c12 c13 c14 c15 c16 c17 c18 c19 c20 c21 iU iT iX iW jM jL jK jJ jI jH jG jF jE jD jC jB jA jo jm jy kG kF kE kD kC kB jw c49 kA c51 jY jX jW jV jU jT jS jR jQ jP jO jN kV kU kT kS kR kQ kP kO kN lN kM kL lM lL lK lJ lI lH mY mD mC lG lF lD lC lB lA mX nA nz ny ni m9 m6 mW mV eH eG eF eD ed dZ dY dX dW dV dU dS dR dQ dP dO dN dH dG c119 dD dC:Value}(Q:Exit->Act->World->Prop)
  (cL:∀(W1 W:World)(Y:Nat->Value),PW W1->W=(W1.setCell ⟨tb,m*2,none⟩ (.int .i64 0)).setCell ⟨tb,m*2+1,none⟩ (.int .i64 x)->Q .normal ⟨List.toArray ((Value.pointer (some ⟨rb,0,none⟩))::(Value.pointer (some ⟨fb,0,none⟩))::c2::c3::c4::(Value.pointer (some ⟨ib,0,none⟩))::c6::c7::c8::c9::c10::c11::c12::c13::c14::c15::c16::c17::c18::c19::c20::c21::iU::iT::iX::iW::jM::jL::jK::jJ::jI::jH::jG::jF::jE::jD::jC::jB::jA::jo::jm::jy::kG::kF::kE::kD::kC::kB::jw::c49::kA::c51::jY::jX::jW::jV::jU::jT::jS::jR::jQ::jP::jO::jN::kV::kU::kT::kS::kR::kQ::kP::kO::kN::Y 0::Y 1::Y 2::Y 3::Y 4::Y 5::Y 6::Y 7::Y 8::Y 9::Y 10::Y 11::lG::lF::lD::lC::lB::lA::mX::nA::nz::ny::ni::m9::m6::mW::mV::eH::eG::eF::eD::ed::dZ::dY::dX::dW::dV::dU::dS::dR::dQ::dP::dO::dN::dH::dG::c119::dD::dC::[]),[]⟩ W):
  Code.wp prog vgtR Q ⟨List.toArray ((Value.pointer (some ⟨rb,0,none⟩))::(Value.pointer (some ⟨fb,0,none⟩))::c2::c3::c4::(Value.pointer (some ⟨ib,0,none⟩))::c6::c7::c8::c9::c10::c11::c12::c13::c14::c15::c16::c17::c18::c19::c20::c21::iU::iT::iX::iW::jM::jL::jK::jJ::jI::jH::jG::jF::jE::jD::jC::jB::jA::jo::jm::jy::kG::kF::kE::kD::kC::kB::jw::c49::kA::c51::jY::jX::jW::jV::jU::jT::jS::jR::jQ::jP::jO::jN::kV::kU::kT::kS::kR::kQ::kP::kO::kN::lN::kM::kL::lM::lL::lK::lJ::lI::lH::mY::mD::mC::lG::lF::lD::lC::lB::lA::mX::nA::nz::ny::ni::m9::m6::mW::mV::eH::eG::eF::eD::ed::dZ::dY::dX::dW::dV::dU::dS::dR::dQ::dP::dO::dN::dH::dG::c119::dD::dC::[]),[]⟩ w:=by
 have hm0:(0:Int)<=(m:Int):=by omega
 have hm1:(m:Int)<(tl:Int):=by omega
 have HOLD:=ae hold;have HST:=ae hst;have HGET:=ae hget;clear hold hst hget hm;have uu:=ae cL;clear cL
 conv=>arg 2;whnf
 refine Js (by kernel_rfl) 10 12 (vgtC rb fb ib cb tb tl m x) (λW v=>v= .agg #[.int .i64 0,.int .i64 x]/\PW W) (λW=>∃W1,PW W1/\W=(W1.setCell ⟨tb,m*2,none⟩ (.int .i64 0)).setCell ⟨tb,m*2+1,none⟩ (.int .i64 x)) (λY=>⟨List.toArray ((Value.pointer (some ⟨rb,0,none⟩))::(Value.pointer (some ⟨fb,0,none⟩))::c2::c3::c4::(Value.pointer (some ⟨ib,0,none⟩))::c6::c7::c8::c9::c10::c11::c12::c13::c14::c15::c16::c17::c18::c19::c20::c21::iU::iT::iX::iW::jM::jL::jK::jJ::jI::jH::jG::jF::jE::jD::jC::jB::jA::jo::jm::jy::kG::kF::kE::kD::kC::kB::jw::c49::kA::c51::jY::jX::jW::jV::jU::jT::jS::jR::jQ::jP::jO::jN::kV::kU::kT::kS::kR::kQ::kP::kO::kN::Y 0::Y 1::Y 2::Y 3::Y 4::Y 5::Y 6::Y 7::Y 8::Y 9::Y 10::Y 11::lG::lF::lD::lC::lB::lA::mX::nA::nz::ny::ni::m9::m6::mW::mV::eH::eG::eF::eD::ed::dZ::dY::dX::dW::dV::dU::dS::dR::dQ::dP::dO::dN::dH::dG::c119::dD::dC::[]),[]⟩) (λi=>if i=0 then lN else if i=1 then kM else if i=2 then kL else if i=3 then lM else if i=4 then lL else if i=5 then lK else if i=6 then lJ else if i=7 then lI else if i=8 then lH else if i=9 then mY else if i=10 then mD else if i=11 then mC else undef) rfl (by kernel_rfl) (by simp) (by decide) (by decide) ?_ ?_ ?_ ?_ ?_
 ·intro o' ho j hj hne;simp at ho;subst ho;rcases j with _|_|_|_|_|_|_|_|_|_|_|_|_|j
  all_goals first|exact absurd rfl hne|(exfalso;simp at hj;omega)|exact WG (by kernel_rfl)
 ·intro i o' Y W n1 n2 ho hW hall K hK;obtain⟨q0,q1,q2⟩:=HOLD.out W (hW.imp id (λ⟨_,h⟩=>h.2));clear hW;rcases i with _|_|_|_|_|_|_|_|_|_|_|_|_|i
  ·simp at ho;subst ho;clear hall;refine ak rfl rfl (λK' hK'=>?_);go_simp;have hh:=hK' _ _ (hK _ rfl);simpa [upd]using hh
  ·simp at ho;subst ho;have d0:Y 0=_:=hall {on:=0,ground:=Ground.data} (by simp) rfl (by decide) (by decide);clear hall;refine ak rfl rfl (λK' hK'=>?_);go_simp;have hh:=hK' _ _ (hK _ rfl);simpa [upd,d0]using hh
  ·simp at ho;subst ho;have d1:Y 1=_:=hall {on:=1,ground:=Ground.data} (by simp) rfl (by decide) (by decide);clear hall;refine ak rfl rfl (λK' hK'=>?_);go_simp;have hh:=hK' _ _ (hK _ rfl);simpa [upd,d1]using hh
  ·simp at ho;subst ho;have d2:Y 2=_:=hall {on:=2,ground:=Ground.data} (by simp) rfl (by decide) (by decide);clear hall;refine ak rfl rfl (λK' hK'=>?_);go_simp;have hh:=hK' _ _ (hK _ rfl);simpa [upd,d2]using hh
  ·simp at ho;subst ho;clear hall;refine ak rfl rfl (λK' hK'=>?_);go_simp;have hh:=hK' _ _ (hK _ rfl);simpa [upd]using hh
  ·simp at ho;subst ho;have d4:Y 4=_:=hall {on:=4,ground:=Ground.data} (by simp) rfl (by decide) (by decide);clear hall;refine ak rfl rfl (λK' hK'=>?_);go_simp;have hh:=hK' _ _ (hK _ rfl);simpa [upd,d4]using hh
  ·simp at ho;subst ho;clear hall;refine ak rfl rfl (λK' hK'=>?_);go_simp;have hh:=hK' _ _ (hK _ rfl);simpa [upd]using hh
  ·simp at ho;subst ho;have d6:Y 6=_:=hall {on:=6,ground:=Ground.data} (by simp) rfl (by decide) (by decide);clear hall;refine ak rfl rfl (λK' hK'=>?_);go_simp;have hh:=hK' _ _ (hK _ rfl);simpa [upd,d6]using hh
  ·simp at ho;subst ho;have d7:Y 7=_:=hall {on:=7,ground:=Ground.data} (by simp) rfl (by decide) (by decide);clear hall;refine ak rfl rfl (λK' hK'=>?_);go_simp;have hh:=hK' _ _ (hK _ rfl);simpa [upd,d7]using hh
  ·simp at ho;subst ho;have d8:Y 8=_:=hall {on:=8,ground:=Ground.data} (by simp) rfl (by decide) (by decide);clear hall;refine ak rfl rfl (λK' hK'=>?_);go_simp;have hh:=hK' _ _ (hK _ rfl);simpa [upd,d8]using hh
  ·exact absurd rfl n1
  ·simp at ho;subst ho;have d3:Y 3=_:=hall {on:=3,ground:=Ground.data} (by simp) rfl (by decide) (by decide);have d5:Y 5=_:=hall {on:=5,ground:=Ground.data} (by simp) rfl (by decide) (by decide);clear hall;refine ak rfl rfl (λK' hK'=>?_);go_simp;have hh:=hK' _ _ (hK _ rfl);simpa [upd,d3,d5]using hh
  ·exact absurd rfl n2
  ·simp at ho
 ·intro o' Y ho hall K hK;simp at ho;subst ho;have d9:Y 9=_:=hall {on:=9,ground:=Ground.data} (by simp) rfl (by decide) (by decide);clear hall;refine ak rfl rfl (λK' hK'=>?_);go_simp;refine HGET.mono ?_;rintro e W5 ⟨rfl,hp⟩;go_simp;have hh:=hK' _ _ (hK _ W5 ⟨rfl,hp⟩);simpa [upd,d9]using hh
 ·intro o' Y W ho hp hall K hK;simp at ho;subst ho;obtain⟨d10,hpw⟩:=hp;have yN:Y 11=_:=hall 11 (by simp) (by decide) (by decide);clear hall;obtain⟨⟨v0,v1,c0,c1⟩,f0,f1,hl⟩:=HST.out W hpw;refine ak rfl rfl (λK' hK'=>?_);go_simp;have hh:=hK' _ _ (hK undef _ ⟨W,hpw,rfl⟩);simpa [upd,d10,yN]using hh
 ·intro Y W hfin hall;obtain⟨W1,hp,hW⟩:=hfin
  show Q .normal ⟨List.toArray ((Value.pointer (some ⟨rb,0,none⟩))::(Value.pointer (some ⟨fb,0,none⟩))::c2::c3::c4::(Value.pointer (some ⟨ib,0,none⟩))::c6::c7::c8::c9::c10::c11::c12::c13::c14::c15::c16::c17::c18::c19::c20::c21::iU::iT::iX::iW::jM::jL::jK::jJ::jI::jH::jG::jF::jE::jD::jC::jB::jA::jo::jm::jy::kG::kF::kE::kD::kC::kB::jw::c49::kA::c51::jY::jX::jW::jV::jU::jT::jS::jR::jQ::jP::jO::jN::kV::kU::kT::kS::kR::kQ::kP::kO::kN::Y 0::Y 1::Y 2::Y 3::Y 4::Y 5::Y 6::Y 7::Y 8::Y 9::Y 10::Y 11::lG::lF::lD::lC::lB::lA::mX::nA::nz::ny::ni::m9::m6::mW::mV::eH::eG::eF::eD::ed::dZ::dY::dX::dW::dV::dU::dS::dR::dQ::dP::dO::dN::dH::dG::c119::dD::dC::[]),[]⟩ W
  exact uu.out W1 W Y hp hW
theorem uX{R:bT}{lo:List Nat}{s:St}{tp:List V}{m:Nat}{a b n:Int}{l:List Int}:aW R lo s tp (aT ⟨12,(m:Int),a,b,n,l⟩)=(true,(zy s).2,tp.set m ⟨0,(zy s).1⟩):=by
 rw[show aT ⟨12,(m:Int),a,b,n,l⟩=⟨5,(m:Int),0,0,[]⟩from rfl];unfold aW;simp only;rw[cF];show kX R s tp ⟨5,(m:Int),0,0,[]⟩ []=_;unfold kX zy;simp only;rw[if_neg (show¬(5:Int)=1 by decide),if_neg (show¬(5:Int)=2 by decide),if_neg (show¬(5:Int)=3 by decide),if_pos trivial];cases s.inp with
 |nil=>simp only[iw]
 |cons q r=>simp only[iw]
theorem LX(ai cb hb rb fb tb mb:Nat)(own:Nat->Prop)(P:Value×Value×Value)(gv bv lv:Value)(ah:Int)(s:St)(tp:List V)(lo:List Nat)(R:bT)(ng:Nat)(a b n:Int)(m:Nat)(AV:Value)(l:List Int)(w:World)
  (h:iH w ai own cb hb ah s)(hR:jd w rb cb hb P gv bv ng)(hF:bX w fb tb tp lv lo mb)(hO:oW ai own rb fb tb lv gv)(xu:m<tp.length):
  Calls prog 65 #[.pointer (some ⟨rb,0,none⟩),.pointer (some ⟨fb,0,none⟩),.agg #[.int .i64 12,.int .i64 (m:Int),.int .i64 a,.int .i64 b,.int .i64 n,AV]] w λe w'=>sF ai cb hb ah fb tb mb lv lo own (aW R lo s tp (aT ⟨12,(m:Int),a,b,n,l⟩)) w e w':=by
 rw[uX];have hbk:=h.blocks;have hcb:=hbk.2.2 cb hbk.1;have bQ:=ae (ax w (.cells #[.int .i64 12,.int .i64 (m:Int),.int .i64 a,.int .i64 b,.int .i64 n,AV] 94));have sW:=ae (Row.new w #[.int .i64 12,.int .i64 (m:Int),.int .i64 a,.int .i64 b,.int .i64 n,AV] 94);have hne:¬w.heap.size=cb:=by omega
 obtain⟨x,hx⟩:∃x,x=(zy s).1:=⟨_,rfl⟩
 obtain⟨s2,hs2⟩:∃s2,s2=(zy s).2:=⟨_,rfl⟩
 have Re:=ae (Vn (w:=(w.alloc (.cells #[.int .i64 12,.int .i64 (m:Int),.int .i64 a,.int .i64 b,.int .i64 n,AV] 94)).drew) (h.below bQ.drew));rw[<-hx,<-hs2]at Re ⊢;have HH:=ae h;have HR:=ae hR;have HF:=ae hF;have HO:=ae hO;have fD:=ae hbk;obtain⟨PW,hPW⟩:∃PW:World->Prop,PW=λW=>iH W ai own cb hb ah s2/\Wr (λb=>b=cb) (w.alloc (.cells #[.int .i64 12,.int .i64 (m:Int),.int .i64 a,.int .i64 b,.int .i64 n,AV] 94)).drew W:=⟨_,rfl⟩
 have HOLD:=ae (show∀W,(W=(w.alloc (.cells #[.int .i64 12,.int .i64 (m:Int),.int .i64 a,.int .i64 b,.int .i64 n,AV] 94)).drew\/PW W)->bX W fb tb tp lv lo mb/\jd W rb cb hb P gv bv ng/\Row W w.heap.size #[.int .i64 12,.int .i64 (m:Int),.int .i64 a,.int .i64 b,.int .i64 n,AV] 94 from by
  intro W hW;rcases hW with rfl|hW
  ·exact⟨hF.below bQ.drew,hR.below bQ.drew,sW.drew⟩
  ·rw[hPW]at hW;exact⟨(hF.below bQ.drew).wr hW.2 (λe=>hO.My.1 (e▸hbk.1)) (λe=>hO.El.1 (e▸hbk.1)) (λg hg e=>(hO.Lm g hg).1 (e▸hbk.1)),(hR.below bQ.drew).wr hW.2 (λe=>hO.Ll.1 (e▸hbk.1)) (λg hg e=>(hO.JL g hg).1 (e▸hbk.1)),sW.drew.wr hW.2 hne⟩)
 clear h hR hF hO hbk hx hs2;go_enter func65,ntmps65;refine aj λQ HQ=>?_;go_wp2_with fail;refine Ja rb fb w.heap.size cb tb tp.length m x PW (w.alloc (.cells #[.int .i64 12,.int .i64 (m:Int),.int .i64 a,.int .i64 b,.int .i64 n,AV] 94)) (λW hW=>⟨(HOLD.out W hW).1.row.cell (j:=0) rfl,(HOLD.out W hW).2.2.cell (j:=1) rfl,(HOLD.out W hW).2.1.row.cell (j:=0) rfl⟩) (λW hW=>by
   obtain⟨cs,htr,gT⟩:=(HOLD.out W (bu hW)).1.bN;obtain⟨lT,lS⟩:=gT.2 m _ (List.getElem?_eq_getElem xu);exact⟨⟨_,_,htr.cell lT,htr.cell lS⟩,htr.free _,htr.free _,htr.lt⟩)
  xu (Re.mono (λe w' h=>⟨h.1,by rw[hPW];exact h.2⟩)) _ (λW1 W Y hp hW=>?_)
 have zx:=(HOLD.out W1 (bu hp)).1;rw[hPW]at hp;subst hW;have HP:=ae hp;have uC:=ae zx;clear hp zx;go_wp2_with fail;refine HQ _ _ _ ?_;have Pk:=gI W1 tb (m*2) (m*2+1) (.int .i64 ((⟨0,x⟩:V).obj:Int)) (.int .i64 x);exact aS (v:= .bool true) (by simp[results,results65,go_sem]) rfl ⟨rfl,own,λ_ h=>h,λ_ h=>aK h,HP.1.wr Pk (λk hk=>(by subst hk;exact⟨HO.El.2,HO.El.1⟩)),λ_=>uC.set m ⟨0,x⟩,((Wr.of_below (F:=λb=>own b\/b=tb) bQ.drew).trans HP.2 (λi hi=>aK (aK (hi▸fD.1)))).trans Pk (λi hi=>aK (bu hi))⟩
theorem LY{c:aR}{ng nf:Nat}{par:Int->Int->Bool}(ai cb hb rb fb tb mb:Nat)(own:Nat->Prop)(P:Value×Value×Value)(gv bv lv:Value)(ah:Int)(s:St)(tp:List V)(lo:List Nat)(R:bT)(x:bg)(A:Option Addr)(aA:Nat)(w:World)
  (hi:pP c ng nf par x)(hst:fF x)(h10:x.op≠10)(wu:c.regs=(tp.length:Int))(hlo:c.az.length=lo.length)(oh:In64 x.b)(pZ:aD w ai x.arg (.slice A x.arg.length aA))(hout:s.out.length<=1000000000)
  (h:iH w ai own cb hb ah s)(hR:jd w rb cb hb P gv bv ng)(hF:bX w fb tb tp lv lo mb)(hO:oW ai own rb fb tb lv gv)(lq:fV (au s.mem) tp lo ng):
  Calls prog 65 #[.pointer (some ⟨rb,0,none⟩),.pointer (some ⟨fb,0,none⟩),.agg #[.int .i64 x.op,.int .i64 x.dst,.int .i64 x.a,.int .i64 x.b,.int .i64 x.n,.slice A x.arg.length aA]] w λe w'=>sF ai cb hb ah fb tb mb lv lo own (aW R lo s tp (aT x)) w e w':=by
 obtain⟨op,dst,a,b,n,arg⟩:=x;have hi':=hi;obtain⟨hop,hd,ha,_,hn⟩:=hi;obtain⟨s1,s2,s3⟩:=hst;simp only at*;by_cases h8:op<=8
 ·have hdd:=hd.1 (by omega);obtain⟨m,rfl⟩:=Int.eq_ofNat_of_zero_le hdd.1;exact Jb ai cb hb rb fb tb mb own P gv bv lv ah s tp lo R op m a b n arg A aA w hi' h8 wu hlo oh pZ (by omega) h hR hF hO lq
 ·have hs:op=9\/op=11\/op=12\/op=13\/op=14:=by omega
  rcases hs with rfl|rfl|rfl|rfl|rfl
  ·have hdd:=hd.1 (by simp);have ZT:=ha (by simp);simp[aH,j3]at hn;obtain⟨m,rfl⟩:=Int.eq_ofNat_of_zero_le hdd.1;obtain⟨ma,rfl⟩:=Int.eq_ofNat_of_zero_le ZT.1;obtain⟨sz,rfl⟩:=Int.eq_ofNat_of_zero_le (show 0<=n by omega);exact FB ai cb hb rb fb tb mb own P gv bv lv ah s tp lo R ng b ma m sz _ _ w h hR hF hO lq (by omega) (by omega) (by omega) oh
  ·have ZT:=ha (by simp);obtain⟨ma,rfl⟩:=Int.eq_ofNat_of_zero_le ZT.1;by_cases hz:(tp.getD ma ⟨0,0⟩).obj=0
   ·exact LW ai cb hb rb fb tb mb own P gv bv lv ah s tp lo R ng dst b n ma _ _ w h hR hF hO (by omega) hz hout
   ·exact yY ai cb hb rb fb tb mb own P gv bv lv ah s tp lo R ng dst b n ma _ _ w h hR hF hO (by omega) hz
  ·have hdd:=hd.1 (by simp);obtain⟨m,rfl⟩:=Int.eq_ofNat_of_zero_le hdd.1;exact LX ai cb hb rb fb tb mb own P gv bv lv ah s tp lo R ng a b n m _ _ w h hR hF hO (by omega)
  ·have ZT:=ha (by simp);obtain⟨ma,rfl⟩:=Int.eq_ofNat_of_zero_le ZT.1;exact Jc ai cb hb rb fb tb mb own P gv bv lv ah s tp lo R ng dst b n ma _ _ w h hR hF hO (by omega)
  ·exact FC ai cb hb rb fb tb mb own P gv bv lv ah s tp lo R ng dst a b n _ _ w h hR hF hO
structure nB (w:World) (ai:Nat) (own:Nat->Prop) (B:Nat) (bv:Value) (v:bB):Prop where
 lie:∃lb oU bn,bv= .slice (some ⟨lb,oU,none⟩) v.funcs.length bn/\¬own lb/\ai<=lb/\lb<B/\∀f c,v.funcs[f]? =some c->∃mb n,w.cell? ⟨lb,oU+f,none⟩=some (.map (some mb))/\fL w mb n (gS c.ins)/\¬own mb/\ai<=mb/\mb<B
theorem nB.wr{F:Nat->Prop}{w w':World}{ai B:Nat}{own:Nat->Prop}{bv:Value}{v:bB}(h:nB w ai own B bv v)(hw:Wr F w w')(hF:∀k,F k->own k\/B<=k)(hB:B<=w.heap.size):nB w' ai own B bv v:=by
 obtain⟨lb,oU,bn,h1,h2,h3,h4,h5⟩:=h.lie;have hn:∀k,¬own k->k<B->¬F k:=λk h1 h2 h3=>(hF k h3).elim h1 (λh=>by omega);refine⟨lb,oU,bn,h1,h2,h3,h4,λf c hf=>?_⟩;obtain⟨mb,n,g1,g2,g3,g4,g5⟩:=h5 f c hf;exact⟨mb,n,(World.cell?_of_block (a:=⟨lb,oU+f,none⟩) (hw.block lb (by omega) (hn lb h2 h4))).trans g1,g2.wr hw (hn mb g3 g5),g3,g4,g5⟩
theorem nB.up{w:World}{ai B:Nat}{own own':Nat->Prop}{bv:Value}{v:bB}(h:nB w ai own B bv v)(hu:∀k,own' k->own k\/B<=k):nB w ai own' B bv v:=by
 obtain⟨lb,oU,bn,h1,h2,h3,h4,h5⟩:=h.lie;have hn:∀k,¬own k->k<B->¬own' k:=λk h1 h2 h3=>(hu k h3).elim h1 (λh=>by omega);refine⟨lb,oU,bn,h1,hn lb h2 h4,h3,h4,λf c hf=>?_⟩;obtain⟨mb,n,g1,g2,g3,g4,g5⟩:=h5 f c hf;exact⟨mb,n,g1,g2,hn mb g3 g5,g4,g5⟩
theorem nB.mono{w:World}{ai B B':Nat}{own:Nat->Prop}{bv:Value}{v:bB}(h:nB w ai own B bv v)(hB:B<=B'):nB w ai own B' bv v:=by
 obtain⟨lb,oU,bn,h1,h2,h3,h4,h5⟩:=h.lie;refine⟨lb,oU,bn,h1,h2,h3,by omega,λf c hf=>?_⟩;obtain⟨mb,n,g1,g2,g3,g4,g5⟩:=h5 f c hf;exact⟨mb,n,g1,g2,g3,g4,by omega⟩
def tX(ai cb hb:Nat)(ah:Int)(own:Nat->Prop)(r:Option V×St)(w:World)(e:Ending)(w':World):Prop:=
 cN r.1 e/\∃own':Nat->Prop,(∀k,own k->own' k)/\(∀k,own' k->own k\/w.heap.size<=k)/\iH w' ai own' cb hb ah r.2/\Wr own w w'
def wZ(p:bB)(ah c:Int)(R:bT):Prop:=
 ∀(f:Nat)(g:aR)(args:List V)(s:St)(ai cb hb rb:Nat)(own:Nat->Prop)(P:Value×Value×Value)(gv bv:Value)(AA:Option Addr)(an oD:Nat)(w:World),
  p.funcs[f]? =some g->(args.length:Int)=g.params->iH w ai own cb hb ah s->jd w rb cb hb P gv bv p.ay.length->bP w ai P p->nB w ai own w.heap.size bv p->(¬own rb/\ai<=rb)->(∀k,gv.ownBlock=some k->¬own k/\ai<=k)->GInv ah s->s.calls=c->p.ay.length<(au s.mem).length->(∀v,v∈args->kW (au s.mem).length v)->args.length=an->
  (∀j v,args[j]? =some v->∃b off,AA=some ⟨b,off,none⟩/\b<w.heap.size/\¬own b/\bJ w b (off+j*2) v)->
  Calls prog 27 #[.pointer (some ⟨rb,0,none⟩),.int .i64 f,.slice AA an oD] w λe w'=>tX ai cb hb ah own (R f args s) w e w'
def oC(tp:List V)(l:List Int):List V:=l.map λr=>tp.getD r.toNat ⟨0,0⟩
theorem DV{tp:List V}{l:List Int}{k:Nat}{r:Int}{v:V}(h:l[k]? =some r)(hv:tp.getD r.toNat ⟨0,0⟩=v):oC tp (l.take (k+1))=oC tp (l.take k)++[v]:=by
 unfold oC;rw[bW h,List.map_append,<-hv];rfl
theorem yM{M:List MO}{tp:List V}{lo:List Nat}:∀l:List Int,cF M tp lo (l.map fX)=some (oC tp l)
 |[]=>by rw[List.map_nil,cF];rfl
 |r::l=>by
  rw[List.map_cons,cF,fH,yM l];rfl
def yO(r:Option V×St)(tp:List V)(dst:Int):Bool×St×List V:=match r with|(some v,s')=>(true,s',zf tp dst v)|(none,s')=>(false,s',tp)
theorem FD(ai cb hb rb fb tb mb:Nat)(own:Nat->Prop)(P:Value×Value×Value)(gv bv lv:Value)(ah:Int)(s:St)(tp:List V)(lo:List Nat)(R:bT)(p:bB)(f:Nat)(g:aR)(op dst a b:Int)(arg:List Int)(A:Option Addr)(aA:Nat)(w:World)
  (h:iH w ai own cb hb ah s)(hR:jd w rb cb hb P gv bv p.ay.length)(hF:bX w fb tb tp lv lo mb)(hO:oW ai own rb fb tb lv gv)(lq:fV (au s.mem) tp lo p.ay.length)(hI:GInv ah s)
  (Gz:∀r,r∈arg->0<=r/\r<tp.length)(hal:arg.length<=1000)(pZ:aD w ai arg (.slice A arg.length aA))(hfn:p.funcs[f]? =some g)(gH:(arg.length:Int)=g.params)(hP:bP w ai P p)(hL:nB w ai own w.heap.size bv p)(hC:wZ p ah s.calls R)(hd:dst= -1\/0<=dst/\dst<(tp.length:Int)):
  Calls prog 82 #[.pointer (some ⟨rb,0,none⟩),.pointer (some ⟨fb,0,none⟩),.agg #[.int .i64 op,.int .i64 dst,.int .i64 a,.int .i64 b,.int .i64 (f:Int),.slice A arg.length aA]] w λe w'=>sF ai cb hb ah fb tb mb lv lo own (yO (R f (oC tp arg) s) tp dst) w e w':=by
 have hbk:=h.blocks;have hbs:ai<=w.heap.size:=by have:=hbk.2.2 cb hbk.1;omega
 obtain⟨i0,hi,hz0,hz1,hz2⟩:=info_parts vG;have HH:=ae h;have HR:=ae hR;have HF:=ae hF;have HO:=ae hO;have zT:=ae lq;have HI:=ae hI;have QC:=ae Gz;have CC:=ae pZ;have Td:=ae (And.intro hfn gH);have HP:=ae hP;have HL:=ae hL;have HC:=ae hC;have HD:=ae hd;have fD:=ae hbk;obtain⟨n,hn⟩:∃n,n=arg.length:=⟨_,rfl⟩
 have HN:=ae hn;rw[<-hn]at hal ⊢;have zP:=ae (Row.new w #[.int .i64 op,.int .i64 dst,.int .i64 a,.int .i64 b,.int .i64 (f:Int),.slice A n aA] 94);have bQ:=ae (ax w (.cells #[.int .i64 op,.int .i64 dst,.int .i64 a,.int .i64 b,.int .i64 (f:Int),.slice A n aA] 94));have tT:=hR.row.lt;have hfb:=hF.row.lt;clear h hR hF hO lq hI Gz pZ hfn gH hP hL hC hd hbk hn;go_enter func82,ntmps82;refine aj λQ HQ=>?_;go_wp2_with fail;go_loopw [7,15] (λpv0 i wr=>∃(k:Nat)(pv:Value),pv=pv0/\k<=n/\i= .int .i64 k/\wr.ownsRow (w.heap.size+1) 75 2 pv k (cU (oC tp (arg.take k)))/\Below (w.heap.size+1) (w.alloc (.cells #[.int .i64 op,.int .i64 dst,.int .i64 a,.int .i64 b,.int .i64 (f:Int),.slice A n aA] 94)) wr) (λ_ i _=>n-(intOf i).toNat)
 case atStart=>exact⟨0,_,rfl,by omega,rfl,World.ownsRow_nil _ _ _ _,aV _ _⟩
 case round=>
  obtain⟨k,pv,rfl,hk,rfl,hown,aJ⟩:=hrel;have pS:=aJ.size;simp only[World.size_alloc]at pS;by_cases hlt:k<n
  ·obtain⟨ab,qU,r,rfl,hab,hr,hc0,_⟩:=SliceAt.get CC.out (k:=k) (by rw[<-HN.out];exact hlt);simp only[Nat.mul_one,Nat.add_zero]at hc0;obtain⟨hr0,hr1⟩:=QC.out r (List.mem_of_getElem? hr);obtain⟨rm,rfl⟩:=Int.eq_ofNat_of_zero_le hr0;have j5:=bQ.trans (aJ.mono (show w.heap.size<=w.heap.size+1 by omega));have cB:=ae j5;have HOWN:=ae hown;have oY:=ae hr;have zx:=HF.below j5;have ft:=zx.row.cell (j:=0) rfl;have xQ:=zx.row.lt;have uj:=zx.lt.2;obtain⟨v,hv⟩:∃v,tp[rm]? =some v:=⟨_,List.getElem?_eq_getElem (by omega)⟩
   obtain⟨cs,htr,gT⟩:=id zx.bN;obtain⟨lT,lS⟩:=gT.2 rm v hv;have t0:=htr.cell lT;have t1:=htr.cell lS;have hgd:tp.getD (rm:Int).toNat ⟨0,0⟩=v:=by rw[Int.toNat_natCast,List.getD_eq_getElem?_getD,hv];rfl
   have QM:=ae hgd;have c0:=ag hc0 (j5.mono (show ai<=w.heap.size from hbs)) hab;have M3:ab<wr.heap.size:=by omega
   have qP:(k:Int)<(n:Int):=by omega
   have hk0:(0:Int)<=(k:Int):=by omega
   have zi:(tp.length:Int)<=1000000:=by have:=zx.few;omega
   have hlen:=HOWN.1;clear hown j5 zx gT lT lS htr hv hgd hr hc0 hlen;go_wp2_with(at_builtin;refine wpList_append_lies _ rfl (.tmp 19) (.tmp 27) 67 rfl (w.heap.size+1) 75 i0 (.agg #[.int .i64 0,.int .i64 0]) 2 16 underlying67 hi hz0 hz1 hz2 rfl (by decide) _ _ _ rfl (aF HOWN (eW (ax wr _)) (λ_ _ h=>h)) ⟨wr.heap.size,0,none⟩ 1 1 [.int .i64 v.obj,.int .i64 v.n] rfl rfl ?c1 ?c2 ?c3 ?c4 ?c5 ?c6 (wr.heap.size+1) (by simp) ?_)
   case c1=>exact pair_cells _ _ _ _ _ rfl
   case c2=>exact AB _ _
   case c3=>omega
   case c4=>unfold maxLen;omega
   case c5=>omega
   case c6=>simp;omega
   ·intro gg fJ w2 hown2 hgrow hat hlt2;have bC:=ae ((aJ.trans ((ax wr (.cells #[.int .i64 v.obj,.int .i64 v.n] 75)).mono (by omega))).grown hgrow (by simp;omega) (λg hg=>(HOWN.lt g hg).1));have S7:=ae hown2;clear hown2 hgrow hat;go_wp2_with fail;go_roundw
    case rel=>exact⟨k+1,_,rfl,by omega,by go_num,by rw[DV oY.out QM.out,rV];exact S7.out,bC.out⟩
    case measure=>simp[intOf];omega
  ·obtain rfl:k=n:=by omega
   have hlen:(oC tp arg).length=k:=by unfold oC;rw[List.length_map];exact HN.symm
   rw[show arg.take k=arg from by rw[HN.out,List.take_length]]at hown;have j5:=bQ.trans (aJ.mono (show w.heap.size<=w.heap.size+1 by omega));have cB:=ae j5;obtain⟨PA,UE,hpv,hpr,Ze⟩:=s9 hown hlen;subst hpv;have hargs:∀W,Below wr.heap.size wr W->∀j v,(oC tp arg)[j]? =some v->∃b off,PA=some ⟨b,off,none⟩/\b<W.heap.size/\¬own b/\bJ W b (off+j*2) v:=by
    intro W hW j v hj;obtain⟨b,off,h1,h2,h3,h4⟩:=Ze j v hj;have ZQ:=(hown.lt b h3).1;exact⟨b,off,h1,by have:=hW.size;omega,λho=>by have:=(fD.2.2 b ho).2;omega,h4.below hW h2⟩
   have Ka:∀v,v∈oC tp arg->kW (au s.mem).length v:=by
    intro v hv;unfold oC at hv;obtain⟨r,hr,rfl⟩:=List.mem_map.1 hv;obtain⟨h0,h1⟩:=QC.out r hr;have hlt:r.toNat<tp.length:=by omega
    exact zT.bN _ (by rw[List.getD_eq_getElem?_getD,List.getElem?_eq_getElem hlt];exact List.getElem_mem hlt)
   have CJ:=ae (λW(hW:Below wr.heap.size wr W)=>HC.out f g (oC tp arg) s ai cb hb rb own P gv bv PA k UE W Td.1 (by rw[hlen,HN.out];exact Td.2) (HH.below (j5.trans (hW.mono j5.size))) (HR.below (j5.trans (hW.mono j5.size))) (HP.below ((j5.trans (hW.mono j5.size)).mono hbs))
    ((HL.wr (eW (j5.trans (hW.mono j5.size))) (λ_ h=>h.elim) (aY _)).mono (j5.trans (hW.mono j5.size)).size) HO.Ll (λq hq=>⟨(HO.JL q hq).1,(HO.JL q hq).2.1⟩) HI.out rfl zT.ay Ka hlen (hargs W hW))
   have hx1:=zP.below aJ (by simp);have x4:=hx1.cell (j:=4) rfl;have x1:=hx1.cell (j:=1) rfl;have hxl:=hx1.lt;clear hown hpr Ze hargs Ka hlen j5 hx1;obtain⟨rr,jv⟩:∃rr,rr=R f (oC tp arg) s:=⟨_,rfl⟩
   rw[<-jv]at CJ HQ;clear jv;obtain⟨ro,s2⟩:=rr;cases ro with
   |none=>
    simp only[yO]at HQ;go_wp2_with fail;refine(CJ _ (aV _ _)).mono ?_;intro e w3 hS;obtain⟨⟨y0,y1,rfl⟩,own',h1,h2,h3,h4⟩:=hS;have uq:=ae (And.intro h1 (And.intro h2 h3));have vB:=ae h4;have kJ:=(ax w3 (.cells #[.int .i64 y0,.int .i64 y1] 75))
    have cS:=ae kJ;clear h1 h2 h3 h4 kJ;go_wp2_with fail;refine HQ _ _ _ ?_;exact aS (v:= .bool false) (by simp[results,results82,go_sem]) rfl ⟨rfl,own',uq.1,λq hq=>(uq.2.1 q hq).imp id (λh=>Nat.le_trans cB.size h),uq.2.2.below cS.out,λh=>(by cases h),((Wr.of_below (F:=λb=>own b\/b=tb) cB.out).trans vB (λi hi=>aK (aK hi))).trans (eW cS.out) (λ_ h=>h.elim)⟩
   |some v=>
    simp only[yO]at HQ;rcases HD.out with rfl|⟨hd0,hd1⟩
    ·go_wp2_with fail;refine(CJ _ (aV _ _)).mono ?_;intro e w3 hS;obtain⟨he,own',h1,h2,h3,h4⟩:=hS;simp only[cN,aO]at he;subst he;have Q5:=(zP.below aJ (by simp)).wr h4 (λho=>by have:=(fD.2.2 _ ho).2;omega);have z1:=Q5.cell (j:=1) rfl;have zl:=Q5.lt;have uf:=ae ((HF.below cB.out).wr h4 HO.My.1 HO.El.1 (λq hq=>(HO.Lm q hq).1));have uq:=ae (And.intro h1 (And.intro h2 h3));have vB:=ae h4;have cS:=ae (ax w3 (.cells #[.int .i64 v.obj,.int .i64 v.n] 75));clear h1 h2 h3 h4 Q5;go_wp2_with fail;refine HQ _ _ _ ?_
     exact aS (v:= .bool true) (by simp[results,results82,go_sem]) rfl ⟨rfl,own',uq.1,λq hq=>(uq.2.1 q hq).imp id (λh=>Nat.le_trans cB.size h),uq.2.2.below cS.out,λ_=>uf.below cS.out,((Wr.of_below (F:=λb=>own b\/b=tb) cB.out).trans vB (λi hi=>aK (aK hi))).trans (eW cS.out) (λ_ h=>h.elim)⟩
    ·obtain⟨m,rfl⟩:=Int.eq_ofNat_of_zero_le hd0;have xu:m<tp.length:=by omega
     go_wp2_with fail;refine(CJ _ (aV _ _)).mono ?_;intro e w3 hS;obtain⟨he,own',h1,h2,h3,h4⟩:=hS;simp only[cN,aO]at he;subst he;have Q5:=(zP.below aJ (by simp)).wr h4 (λho=>by have:=(fD.2.2 _ ho).2;omega);have z1:=Q5.cell (j:=1) rfl;have zl:=Q5.lt;have ig:=(HF.below cB.out).wr h4 HO.My.1 HO.El.1 (λq hq=>(HO.Lm q hq).1);have ft:=ig.row.cell (j:=0) rfl;have Vc:=ig.row.lt;have UM:=ig.lt.2;obtain⟨cs,htr,gT⟩:=id ig.bN;obtain⟨lT,lS⟩:=gT.2 m _ (List.getElem?_eq_getElem xu);have t0:=htr.cell lT;have t1:=htr.cell lS;have t2:=htr.free (m*2);have t3:=htr.free (m*2+1);have Vb:fb<w3.heap.size+1:=by omega
     have UL:tb<w3.heap.size+1:=by omega
     have MT:¬tb=w3.heap.size:=by omega
     have UJ:w.heap.size<w3.heap.size+1:=by omega
     have hm0:(0:Int)<=(m:Int):=by omega
     have hm1:(m:Int)<(tp.length:Int):=by omega
     have zi:(tp.length:Int)<=1000000:=by have:=ig.few;omega
     have uf:=ae ig;have uq:=ae (And.intro h1 (And.intro h2 h3));have vB:=ae h4;have HTB:=ae (show¬own' tb from λho=>(h2 tb ho).elim HO.El.1 (λh=>by have:=cB.size;have:=HF.lt.2;omega));clear h1 h2 h3 h4 Q5 gT lT lS htr ig;go_wp2_with fail;refine aX 8 (by kernel_rfl) (by kernel_rfl) ?_;simp only[List.take_succ_cons,List.take_zero,List.drop_succ_cons,List.drop_zero]
     repeat(go_big_quiet_step (fail))
     refine wpQuiet_nil ?_;go_wp2_with fail;refine HQ _ _ _ ?_;have Pk:=gI w3 tb (m*2) (m*2+1) (.int .i64 v.obj) (.int .i64 v.n);have hbz:=(ax ((w3.setCell ⟨tb,m*2,none⟩ (.int .i64 v.obj)).setCell ⟨tb,m*2+1,none⟩ (.int .i64 v.n)) (.cells #[.int .i64 v.obj,.int .i64 v.n] 75)).drew;exact aS (v:= .bool true) (by simp[results,results82,go_sem]) rfl ⟨rfl,own',uq.1,λq hq=>(uq.2.1 q hq).imp id (λh=>Nat.le_trans cB.size h),(uq.2.2.wr Pk (λq hq=>(by subst hq;exact⟨HO.El.2,HTB.out⟩))).below hbz,λ_=>by rw[iw];exact(uf.set m v).below hbz,
      (((Wr.of_below (F:=λb=>own b\/b=tb) cB.out).trans vB (λi hi=>aK (aK hi))).trans Pk (λi hi=>aK (bu hi))).trans (eW hbz) (λ_ h=>h.elim)⟩
end Go.Proofs.YtinmgbodgecoeaaGreat
