/- The page's Form. Conditions: as stated. -/
import Derived.Test.YtlenilbkifofjaaGreatDoorRFormRZz
set_option linter.unusedVariables false
set_option linter.unusedSimpArgs false
set_option maxHeartbeats 8000000
set_option maxRecDepth 100000
namespace Go.Proofs.YtlenilbkifofjaaGreatDoor
open Go.RowKit
def wantI(x:InsS):InsS:=⟨x.op,if(fieldsI x).1=true then x.dst else-1,if(fieldsI x).2.1=true then x.a else 0,if((fieldsI x).2.2.1||freeI x)=true then x.b else 0,if(fieldsI x).2.2.2.1=true then x.n else 0,x.arg⟩
def preR(nl ng:Int)(pl:List Int)(x:InsS):Bool:=
 if x.op=3 then decide (0≤x.n∧x.n<nl)else if x.op=4 then decide (0≤x.n∧x.n<ng)else if x.op=6 then decide (x.arg.length=1)&& immB (x.arg.getD 0 0)
 else if x.op=8∨x.op=9 then immB x.b else if x.op=10 then decide (0≤x.n∧x.n<(pl.length:Int))else true
def argsR(pl:List Int)(x:InsS):Int:=if x.op=6 then 1 else if x.op=10 then pl.getD x.n.toNat 0 else 0
def shapeR(x:InsS):Bool×Bool×Bool×Bool:=((fieldsI x).1,(fieldsI x).2.1,(fieldsI x).2.2.1,decide (x.op=10))
def formR(nl ng:Int)(pl:List Int)(x:InsS):Bool:=(namedI x).isSome && (preR nl ng pl x && (eqI x (wantI x)&& (((x.arg.length:Int)==argsR pl x)&& opR x)))
def FormSays(r:Bool)(sh:Bool×Bool×Bool×Bool)(w:World)(e:Ending)(w':World):Prop:=
 ∃t0 t1 t2 t3,e= .returned (.tuple #[.agg #[.bool t0,.bool t1,.bool t2,.bool t3],.bool r])∧(r=true→(t0,t1,t2,t3)=sh)∧Below w.heap.size w w'
theorem form_rows{w W:World}{xc rc yc sc:Array Value}(h:W=((((w.alloc (.cells xc 43)).alloc (.cells rc 78)).alloc (.cells yc 43)).alloc (.cells sc 78))∨W=((((w.alloc (.cells xc 43)).alloc (.cells rc 78)).alloc (.cells yc 43)).alloc (.cells sc 78)).drew):
  Row W w.heap.size xc 43∧Row W (w.heap.size+1) rc 78∧Row W (w.heap.size+1+1) yc 43∧Row W (w.heap.size+1+1+1) sc 78∧Below w.heap.size w W:=by
 have h4:=(below2 w (.cells xc 43) (.cells rc 78)).trans ((below2 ((w.alloc (.cells xc 43)).alloc (.cells rc 78)) (.cells yc 43) (.cells sc 78)).mono (by simp;omega));rcases h with rfl|rfl
 ·exact⟨(((Row.new _ _ _).alloc _).alloc _).alloc _,((Row.new' _ _ (by simp)).alloc _).alloc _,(Row.new' _ _ (by simp)).alloc _,Row.new' _ _ (by simp),h4⟩
 ·exact⟨((((Row.new _ _ _).alloc _).alloc _).alloc _).drew,(((Row.new' _ _ (by simp)).alloc _).alloc _).drew,((Row.new' _ _ (by simp)).alloc _).drew,(Row.new' _ _ (by simp)).drew,h4.drew⟩
theorem rform_1(nl ng:Int)(pl:List Int)(PA:Option Addr)(pc:Nat)(dst a b n:Int)(arg:List Int)(A:Option Addr)(c B:Nat)(w:World)(hB:B≤w.heap.size)(hx:LongsAt w B arg (.slice A arg.length c))(hp:LongsAt w B pl (.slice PA pl.length pc)):
  Calls Tryz.prog 27 #[insV ⟨1,dst,a,b,n,arg⟩ A c,.int .i64 nl,.int .i64 ng,.slice PA pl.length pc] w fun e w'=>FormSays (formR nl ng pl ⟨1,dst,a,b,n,arg⟩) (shapeR ⟨1,dst,a,b,n,arg⟩) w e w':=by
 have HX:=Lib.hid hx;have HP:=Lib.hid hp;unfold insV;simp only;clear hx hp;have HV:=Lib.hid (show formR nl ng pl ⟨1,dst,a,b,n,arg⟩=(eqI ⟨1,dst,a,b,n,arg⟩ ⟨1,dst,0,0,n,arg⟩&& (((arg.length:Int)==0)&& opR ⟨1,dst,a,b,n,arg⟩))from by simp[formR,namedI,preR,wantI,fieldsI,freeI,argsR]);rw[HV.out];have HSH:=Lib.hid (show(true,false,false,false)=shapeR ⟨1,dst,a,b,n,arg⟩from by simp[shapeR,fieldsI,namedI]);go_enter Tryz.func27,Tryz.ntmps27;refine wp_letter (fun Q hQ=>?_);have HQ:=Lib.hid hQ;clear hQ;go_wp2_with fail;go_region
 all_goals go_wp2_with fail
 all_goals refine wp_world (fun W hW=>?_)
 all_goals obtain⟨hrx,hrr,hry,hrs,hbw⟩:=form_rows (by first|exact Or.inl hW|exact Or.inr hW)
 all_goals refine rfe_region w.heap.size (w.heap.size+1+1) (w.heap.size+1+1+1) (w.heap.size+1) ⟨1,dst,a,b,n,arg⟩ ⟨1,dst,0,0,n,arg⟩ A c true false false false _ _ _ 0 W hrx hry hrs hrr (fun W' hW'=>reqins_any ⟨1,dst,a,b,n,arg⟩ ⟨1,dst,0,0,n,arg⟩ rfl A c B W' (by have:=hW'.size;have:=hbw.size;omega) (HX.out.below ((hbw.trans (hW'.mono hbw.size)).mono hB) (Nat.le_refl _))) (fun W' hW'=>rop_any ⟨1,dst,a,b,n,arg⟩ A c W') rfl _ _ _ _ _ _ _ _ _ _ _ _ _ _ _ _ _ _ _ _ _ _ _ _ _ _ _ _ _ _ _ _ _ _ _ _ _ _ _ _ _ _ _ _ _ _ _ _ _ _ _ _ _ _ _ _ _ _ _ _ _ _ _ _ _ _ _ _ _ _ _ _ _ _ _ _ _ _ _ _ _ _ _ _ _ _ _ _ _ _ _ _ _ _ _ _ _ _ _ _ _ _ _ _ _ _ _ _ _ _ _ _ _ _ _ _ _ _ _ _ _ _ _ _ _ _ _ _ _ _ _ _ _ _ _ _ _ _ _ _ _ _ _ _ _ _ _ _ _ _ _ _ _ _ _ _ _ _ _ _ _ _ _ _ _ _ _ _ _ _ _ _ _ _ _ _ _ _ _ _ _ _ _ _ _ _ (fun W' Y hw' hr'=>?_)
 all_goals have hbw':=(Wr.of_below (F:=fun _=>False) hbw).trans hw' (fun i hi=>Or.inr (by omega))
 all_goals have k0:=hr'.cell (j:=0) rfl
 all_goals have k1:=hr'.cell (j:=1) rfl
 all_goals have k2:=hr'.cell (j:=2) rfl
 all_goals have k3:=hr'.cell (j:=3) rfl
 all_goals clear hW hrx hrr hry hrs hw' hr'
 all_goals go_wp2_with fail
 all_goals refine HQ.out _ _ _ ?_
 all_goals exact bodyPost_ret (v:= .tuple #[.agg #[.bool true,.bool false,.bool false,.bool false],.bool (eqI ⟨1,dst,a,b,n,arg⟩ ⟨1,dst,0,0,n,arg⟩&& (((arg.length:Int)==0)&& opR ⟨1,dst,a,b,n,arg⟩))]) (by simp[results,Tryz.results27,go_sem,k0,k1,k2,k3]) rfl ⟨_,_,_,_,rfl,fun _=>HSH.out,hbw'.below (Nat.le_refl _) (fun _ h=>h.elim)⟩
theorem rform_2(nl ng:Int)(pl:List Int)(PA:Option Addr)(pc:Nat)(dst a b n:Int)(arg:List Int)(A:Option Addr)(c B:Nat)(w:World)(hB:B≤w.heap.size)(hx:LongsAt w B arg (.slice A arg.length c))(hp:LongsAt w B pl (.slice PA pl.length pc)):
  Calls Tryz.prog 27 #[insV ⟨2,dst,a,b,n,arg⟩ A c,.int .i64 nl,.int .i64 ng,.slice PA pl.length pc] w fun e w'=>FormSays (formR nl ng pl ⟨2,dst,a,b,n,arg⟩) (shapeR ⟨2,dst,a,b,n,arg⟩) w e w':=by
 have HX:=Lib.hid hx;have HP:=Lib.hid hp;unfold insV;simp only;clear hx hp;have HV:=Lib.hid (show formR nl ng pl ⟨2,dst,a,b,n,arg⟩=(eqI ⟨2,dst,a,b,n,arg⟩ ⟨2,dst,a,0,0,arg⟩&& (((arg.length:Int)==0)&& opR ⟨2,dst,a,b,n,arg⟩))from by simp[formR,namedI,preR,wantI,fieldsI,freeI,argsR]);rw[HV.out];have HSH:=Lib.hid (show(true,true,false,false)=shapeR ⟨2,dst,a,b,n,arg⟩from by simp[shapeR,fieldsI,namedI]);go_enter Tryz.func27,Tryz.ntmps27;refine wp_letter (fun Q hQ=>?_);have HQ:=Lib.hid hQ;clear hQ;go_wp2_with fail
 all_goals refine wp_world (fun W hW=>?_)
 all_goals obtain⟨hrx,hrr,hry,hrs,hbw⟩:=form_rows (by first|exact Or.inl hW|exact Or.inr hW)
 all_goals refine rfe_region w.heap.size (w.heap.size+1+1) (w.heap.size+1+1+1) (w.heap.size+1) ⟨2,dst,a,b,n,arg⟩ ⟨2,dst,a,0,0,arg⟩ A c true true false false _ _ _ 0 W hrx hry hrs hrr (fun W' hW'=>reqins_any ⟨2,dst,a,b,n,arg⟩ ⟨2,dst,a,0,0,arg⟩ rfl A c B W' (by have:=hW'.size;have:=hbw.size;omega) (HX.out.below ((hbw.trans (hW'.mono hbw.size)).mono hB) (Nat.le_refl _))) (fun W' hW'=>rop_any ⟨2,dst,a,b,n,arg⟩ A c W') rfl _ _ _ _ _ _ _ _ _ _ _ _ _ _ _ _ _ _ _ _ _ _ _ _ _ _ _ _ _ _ _ _ _ _ _ _ _ _ _ _ _ _ _ _ _ _ _ _ _ _ _ _ _ _ _ _ _ _ _ _ _ _ _ _ _ _ _ _ _ _ _ _ _ _ _ _ _ _ _ _ _ _ _ _ _ _ _ _ _ _ _ _ _ _ _ _ _ _ _ _ _ _ _ _ _ _ _ _ _ _ _ _ _ _ _ _ _ _ _ _ _ _ _ _ _ _ _ _ _ _ _ _ _ _ _ _ _ _ _ _ _ _ _ _ _ _ _ _ _ _ _ _ _ _ _ _ _ _ _ _ _ _ _ _ _ _ _ _ _ _ _ _ _ _ _ _ _ _ _ _ _ _ _ _ _ _ (fun W' Y hw' hr'=>?_)
 all_goals have hbw':=(Wr.of_below (F:=fun _=>False) hbw).trans hw' (fun i hi=>Or.inr (by omega))
 all_goals have k0:=hr'.cell (j:=0) rfl
 all_goals have k1:=hr'.cell (j:=1) rfl
 all_goals have k2:=hr'.cell (j:=2) rfl
 all_goals have k3:=hr'.cell (j:=3) rfl
 all_goals clear hW hrx hrr hry hrs hw' hr'
 all_goals go_wp2_with fail
 all_goals refine HQ.out _ _ _ ?_
 all_goals exact bodyPost_ret (v:= .tuple #[.agg #[.bool true,.bool true,.bool false,.bool false],.bool (eqI ⟨2,dst,a,b,n,arg⟩ ⟨2,dst,a,0,0,arg⟩&& (((arg.length:Int)==0)&& opR ⟨2,dst,a,b,n,arg⟩))]) (by simp[results,Tryz.results27,go_sem,k0,k1,k2,k3]) rfl ⟨_,_,_,_,rfl,fun _=>HSH.out,hbw'.below (Nat.le_refl _) (fun _ h=>h.elim)⟩
theorem rform_3(nl ng:Int)(pl:List Int)(PA:Option Addr)(pc:Nat)(dst a b n:Int)(arg:List Int)(A:Option Addr)(c B:Nat)(w:World)(hB:B≤w.heap.size)(hx:LongsAt w B arg (.slice A arg.length c))(hp:LongsAt w B pl (.slice PA pl.length pc)):
  Calls Tryz.prog 27 #[insV ⟨3,dst,a,b,n,arg⟩ A c,.int .i64 nl,.int .i64 ng,.slice PA pl.length pc] w fun e w'=>FormSays (formR nl ng pl ⟨3,dst,a,b,n,arg⟩) (shapeR ⟨3,dst,a,b,n,arg⟩) w e w':=by
 have HX:=Lib.hid hx;have HP:=Lib.hid hp;unfold insV;simp only;clear hx hp;by_cases h0:n<0
 ·have e0:decide (n<0)=true:=by simpa using h0
  have H0:=Lib.hid h0;clear h0;have HV:=Lib.hid (show formR nl ng pl ⟨3,dst,a,b,n,arg⟩=false from by have:=H0.out;simp[formR,namedI,preR,wantI,fieldsI,freeI,argsR];omega);rw[HV.out];go_enter Tryz.func27,Tryz.ntmps27;refine wp_letter (fun Q hQ=>?_);have HQ:=Lib.hid hQ;clear hQ;go_wp2_with fail;go_region
  all_goals go_wp2_with fail
  all_goals refine HQ.out _ _ _ ?_
  all_goals refine bodyPost_ret (v:= .tuple #[.agg #[.bool true,.bool false,.bool false,.bool false],.bool false]) (by simp[results,Tryz.results27,go_sem]) rfl ⟨_,_,_,_,rfl,fun h=>(by cases h),?_⟩
  all_goals exact(form_rows (by first|exact Or.inl rfl|exact Or.inr rfl)).2.2.2.2
 ·have e0:decide (n<0)=false:=by simpa using h0
  by_cases h1:nl≤n
  ·have e1:decide (nl≤n)=true:=by simpa using h1
   have H1:=Lib.hid h1;clear h0 h1;have HV:=Lib.hid (show formR nl ng pl ⟨3,dst,a,b,n,arg⟩=false from by have:=H1.out;simp[formR,namedI,preR,wantI,fieldsI,freeI,argsR];omega);rw[HV.out];go_enter Tryz.func27,Tryz.ntmps27;refine wp_letter (fun Q hQ=>?_);have HQ:=Lib.hid hQ;clear hQ;go_wp2_with fail;go_region
   all_goals go_wp2_with fail
   all_goals refine HQ.out _ _ _ ?_
   all_goals refine bodyPost_ret (v:= .tuple #[.agg #[.bool true,.bool false,.bool false,.bool false],.bool false]) (by simp[results,Tryz.results27,go_sem]) rfl ⟨_,_,_,_,rfl,fun h=>(by cases h),?_⟩
   all_goals exact(form_rows (by first|exact Or.inl rfl|exact Or.inr rfl)).2.2.2.2
  ·have e1:decide (nl≤n)=false:=by simpa using h1
   have H0:=Lib.hid (show 0≤n∧n<nl by omega);clear h0 h1;have HV:=Lib.hid (show formR nl ng pl ⟨3,dst,a,b,n,arg⟩=(eqI ⟨3,dst,a,b,n,arg⟩ ⟨3,dst,0,0,n,arg⟩&& (((arg.length:Int)==0)&& opR ⟨3,dst,a,b,n,arg⟩))from by simp[formR,namedI,preR,wantI,fieldsI,freeI,argsR,H0.out]);rw[HV.out];have HSH:=Lib.hid (show(true,false,false,false)=shapeR ⟨3,dst,a,b,n,arg⟩from by simp[shapeR,fieldsI,namedI]);go_enter Tryz.func27,Tryz.ntmps27;refine wp_letter (fun Q hQ=>?_);have HQ:=Lib.hid hQ;clear hQ;go_wp2_with fail;go_region
   all_goals go_wp2_with fail
   all_goals refine wp_world (fun W hW=>?_)
   all_goals obtain⟨hrx,hrr,hry,hrs,hbw⟩:=form_rows (by first|exact Or.inl hW|exact Or.inr hW)
   all_goals refine rfe_region w.heap.size (w.heap.size+1+1) (w.heap.size+1+1+1) (w.heap.size+1) ⟨3,dst,a,b,n,arg⟩ ⟨3,dst,0,0,n,arg⟩ A c true false false false _ _ _ 0 W hrx hry hrs hrr (fun W' hW'=>reqins_any ⟨3,dst,a,b,n,arg⟩ ⟨3,dst,0,0,n,arg⟩ rfl A c B W' (by have:=hW'.size;have:=hbw.size;omega) (HX.out.below ((hbw.trans (hW'.mono hbw.size)).mono hB) (Nat.le_refl _))) (fun W' hW'=>rop_any ⟨3,dst,a,b,n,arg⟩ A c W') rfl _ _ _ _ _ _ _ _ _ _ _ _ _ _ _ _ _ _ _ _ _ _ _ _ _ _ _ _ _ _ _ _ _ _ _ _ _ _ _ _ _ _ _ _ _ _ _ _ _ _ _ _ _ _ _ _ _ _ _ _ _ _ _ _ _ _ _ _ _ _ _ _ _ _ _ _ _ _ _ _ _ _ _ _ _ _ _ _ _ _ _ _ _ _ _ _ _ _ _ _ _ _ _ _ _ _ _ _ _ _ _ _ _ _ _ _ _ _ _ _ _ _ _ _ _ _ _ _ _ _ _ _ _ _ _ _ _ _ _ _ _ _ _ _ _ _ _ _ _ _ _ _ _ _ _ _ _ _ _ _ _ _ _ _ _ _ _ _ _ _ _ _ _ _ _ _ _ _ _ _ _ _ _ _ _ _ (fun W' Y hw' hr'=>?_)
   all_goals have hbw':=(Wr.of_below (F:=fun _=>False) hbw).trans hw' (fun i hi=>Or.inr (by omega))
   all_goals have k0:=hr'.cell (j:=0) rfl
   all_goals have k1:=hr'.cell (j:=1) rfl
   all_goals have k2:=hr'.cell (j:=2) rfl
   all_goals have k3:=hr'.cell (j:=3) rfl
   all_goals clear hW hrx hrr hry hrs hw' hr'
   all_goals go_wp2_with fail
   all_goals refine HQ.out _ _ _ ?_
   all_goals exact bodyPost_ret (v:= .tuple #[.agg #[.bool true,.bool false,.bool false,.bool false],.bool (eqI ⟨3,dst,a,b,n,arg⟩ ⟨3,dst,0,0,n,arg⟩&& (((arg.length:Int)==0)&& opR ⟨3,dst,a,b,n,arg⟩))]) (by simp[results,Tryz.results27,go_sem,k0,k1,k2,k3]) rfl ⟨_,_,_,_,rfl,fun _=>HSH.out,hbw'.below (Nat.le_refl _) (fun _ h=>h.elim)⟩
theorem rform_4(nl ng:Int)(pl:List Int)(PA:Option Addr)(pc:Nat)(dst a b n:Int)(arg:List Int)(A:Option Addr)(c B:Nat)(w:World)(hB:B≤w.heap.size)(hx:LongsAt w B arg (.slice A arg.length c))(hp:LongsAt w B pl (.slice PA pl.length pc)):
  Calls Tryz.prog 27 #[insV ⟨4,dst,a,b,n,arg⟩ A c,.int .i64 nl,.int .i64 ng,.slice PA pl.length pc] w fun e w'=>FormSays (formR nl ng pl ⟨4,dst,a,b,n,arg⟩) (shapeR ⟨4,dst,a,b,n,arg⟩) w e w':=by
 have HX:=Lib.hid hx;have HP:=Lib.hid hp;unfold insV;simp only;clear hx hp;by_cases h0:n<0
 ·have e0:decide (n<0)=true:=by simpa using h0
  have H0:=Lib.hid h0;clear h0;have HV:=Lib.hid (show formR nl ng pl ⟨4,dst,a,b,n,arg⟩=false from by have:=H0.out;simp[formR,namedI,preR,wantI,fieldsI,freeI,argsR];omega);rw[HV.out];go_enter Tryz.func27,Tryz.ntmps27;refine wp_letter (fun Q hQ=>?_);have HQ:=Lib.hid hQ;clear hQ;go_wp2_with fail;go_region
  all_goals go_wp2_with fail
  all_goals refine HQ.out _ _ _ ?_
  all_goals refine bodyPost_ret (v:= .tuple #[.agg #[.bool true,.bool false,.bool false,.bool false],.bool false]) (by simp[results,Tryz.results27,go_sem]) rfl ⟨_,_,_,_,rfl,fun h=>(by cases h),?_⟩
  all_goals exact(form_rows (by first|exact Or.inl rfl|exact Or.inr rfl)).2.2.2.2
 ·have e0:decide (n<0)=false:=by simpa using h0
  by_cases h1:ng≤n
  ·have e1:decide (ng≤n)=true:=by simpa using h1
   have H1:=Lib.hid h1;clear h0 h1;have HV:=Lib.hid (show formR nl ng pl ⟨4,dst,a,b,n,arg⟩=false from by have:=H1.out;simp[formR,namedI,preR,wantI,fieldsI,freeI,argsR];omega);rw[HV.out];go_enter Tryz.func27,Tryz.ntmps27;refine wp_letter (fun Q hQ=>?_);have HQ:=Lib.hid hQ;clear hQ;go_wp2_with fail;go_region
   all_goals go_wp2_with fail
   all_goals refine HQ.out _ _ _ ?_
   all_goals refine bodyPost_ret (v:= .tuple #[.agg #[.bool true,.bool false,.bool false,.bool false],.bool false]) (by simp[results,Tryz.results27,go_sem]) rfl ⟨_,_,_,_,rfl,fun h=>(by cases h),?_⟩
   all_goals exact(form_rows (by first|exact Or.inl rfl|exact Or.inr rfl)).2.2.2.2
  ·have e1:decide (ng≤n)=false:=by simpa using h1
   have H0:=Lib.hid (show 0≤n∧n<ng by omega);clear h0 h1;have HV:=Lib.hid (show formR nl ng pl ⟨4,dst,a,b,n,arg⟩=(eqI ⟨4,dst,a,b,n,arg⟩ ⟨4,dst,0,0,n,arg⟩&& (((arg.length:Int)==0)&& opR ⟨4,dst,a,b,n,arg⟩))from by simp[formR,namedI,preR,wantI,fieldsI,freeI,argsR,H0.out]);rw[HV.out];have HSH:=Lib.hid (show(true,false,false,false)=shapeR ⟨4,dst,a,b,n,arg⟩from by simp[shapeR,fieldsI,namedI]);go_enter Tryz.func27,Tryz.ntmps27;refine wp_letter (fun Q hQ=>?_);have HQ:=Lib.hid hQ;clear hQ;go_wp2_with fail;go_region
   all_goals go_wp2_with fail
   all_goals refine wp_world (fun W hW=>?_)
   all_goals obtain⟨hrx,hrr,hry,hrs,hbw⟩:=form_rows (by first|exact Or.inl hW|exact Or.inr hW)
   all_goals refine rfe_region w.heap.size (w.heap.size+1+1) (w.heap.size+1+1+1) (w.heap.size+1) ⟨4,dst,a,b,n,arg⟩ ⟨4,dst,0,0,n,arg⟩ A c true false false false _ _ _ 0 W hrx hry hrs hrr (fun W' hW'=>reqins_any ⟨4,dst,a,b,n,arg⟩ ⟨4,dst,0,0,n,arg⟩ rfl A c B W' (by have:=hW'.size;have:=hbw.size;omega) (HX.out.below ((hbw.trans (hW'.mono hbw.size)).mono hB) (Nat.le_refl _))) (fun W' hW'=>rop_any ⟨4,dst,a,b,n,arg⟩ A c W') rfl _ _ _ _ _ _ _ _ _ _ _ _ _ _ _ _ _ _ _ _ _ _ _ _ _ _ _ _ _ _ _ _ _ _ _ _ _ _ _ _ _ _ _ _ _ _ _ _ _ _ _ _ _ _ _ _ _ _ _ _ _ _ _ _ _ _ _ _ _ _ _ _ _ _ _ _ _ _ _ _ _ _ _ _ _ _ _ _ _ _ _ _ _ _ _ _ _ _ _ _ _ _ _ _ _ _ _ _ _ _ _ _ _ _ _ _ _ _ _ _ _ _ _ _ _ _ _ _ _ _ _ _ _ _ _ _ _ _ _ _ _ _ _ _ _ _ _ _ _ _ _ _ _ _ _ _ _ _ _ _ _ _ _ _ _ _ _ _ _ _ _ _ _ _ _ _ _ _ _ _ _ _ _ _ _ _ (fun W' Y hw' hr'=>?_)
   all_goals have hbw':=(Wr.of_below (F:=fun _=>False) hbw).trans hw' (fun i hi=>Or.inr (by omega))
   all_goals have k0:=hr'.cell (j:=0) rfl
   all_goals have k1:=hr'.cell (j:=1) rfl
   all_goals have k2:=hr'.cell (j:=2) rfl
   all_goals have k3:=hr'.cell (j:=3) rfl
   all_goals clear hW hrx hrr hry hrs hw' hr'
   all_goals go_wp2_with fail
   all_goals refine HQ.out _ _ _ ?_
   all_goals exact bodyPost_ret (v:= .tuple #[.agg #[.bool true,.bool false,.bool false,.bool false],.bool (eqI ⟨4,dst,a,b,n,arg⟩ ⟨4,dst,0,0,n,arg⟩&& (((arg.length:Int)==0)&& opR ⟨4,dst,a,b,n,arg⟩))]) (by simp[results,Tryz.results27,go_sem,k0,k1,k2,k3]) rfl ⟨_,_,_,_,rfl,fun _=>HSH.out,hbw'.below (Nat.le_refl _) (fun _ h=>h.elim)⟩
theorem rform_5(nl ng:Int)(pl:List Int)(PA:Option Addr)(pc:Nat)(dst a b n:Int)(arg:List Int)(A:Option Addr)(c B:Nat)(w:World)(hB:B≤w.heap.size)(hx:LongsAt w B arg (.slice A arg.length c))(hp:LongsAt w B pl (.slice PA pl.length pc)):
  Calls Tryz.prog 27 #[insV ⟨5,dst,a,b,n,arg⟩ A c,.int .i64 nl,.int .i64 ng,.slice PA pl.length pc] w fun e w'=>FormSays (formR nl ng pl ⟨5,dst,a,b,n,arg⟩) (shapeR ⟨5,dst,a,b,n,arg⟩) w e w':=by
 have HX:=Lib.hid hx;have HP:=Lib.hid hp;unfold insV;simp only;clear hx hp;have HV:=Lib.hid (show formR nl ng pl ⟨5,dst,a,b,n,arg⟩=(eqI ⟨5,dst,a,b,n,arg⟩ ⟨5,dst,a,b,n,arg⟩&& (((arg.length:Int)==0)&& opR ⟨5,dst,a,b,n,arg⟩))from by simp[formR,namedI,preR,wantI,fieldsI,freeI,argsR]);rw[HV.out];have HSH:=Lib.hid (show(true,true,true,false)=shapeR ⟨5,dst,a,b,n,arg⟩from by simp[shapeR,fieldsI,namedI]);go_enter Tryz.func27,Tryz.ntmps27;refine wp_letter (fun Q hQ=>?_);have HQ:=Lib.hid hQ;clear hQ;go_wp2_with fail;go_region
 all_goals go_wp2_with fail
 all_goals refine wp_world (fun W hW=>?_)
 all_goals obtain⟨hrx,hrr,hry,hrs,hbw⟩:=form_rows (by first|exact Or.inl hW|exact Or.inr hW)
 all_goals refine rfe_region w.heap.size (w.heap.size+1+1) (w.heap.size+1+1+1) (w.heap.size+1) ⟨5,dst,a,b,n,arg⟩ ⟨5,dst,a,b,n,arg⟩ A c true true true false _ _ _ 0 W hrx hry hrs hrr (fun W' hW'=>reqins_any ⟨5,dst,a,b,n,arg⟩ ⟨5,dst,a,b,n,arg⟩ rfl A c B W' (by have:=hW'.size;have:=hbw.size;omega) (HX.out.below ((hbw.trans (hW'.mono hbw.size)).mono hB) (Nat.le_refl _))) (fun W' hW'=>rop_any ⟨5,dst,a,b,n,arg⟩ A c W') rfl _ _ _ _ _ _ _ _ _ _ _ _ _ _ _ _ _ _ _ _ _ _ _ _ _ _ _ _ _ _ _ _ _ _ _ _ _ _ _ _ _ _ _ _ _ _ _ _ _ _ _ _ _ _ _ _ _ _ _ _ _ _ _ _ _ _ _ _ _ _ _ _ _ _ _ _ _ _ _ _ _ _ _ _ _ _ _ _ _ _ _ _ _ _ _ _ _ _ _ _ _ _ _ _ _ _ _ _ _ _ _ _ _ _ _ _ _ _ _ _ _ _ _ _ _ _ _ _ _ _ _ _ _ _ _ _ _ _ _ _ _ _ _ _ _ _ _ _ _ _ _ _ _ _ _ _ _ _ _ _ _ _ _ _ _ _ _ _ _ _ _ _ _ _ _ _ _ _ _ _ _ _ _ _ _ _ (fun W' Y hw' hr'=>?_)
 all_goals have hbw':=(Wr.of_below (F:=fun _=>False) hbw).trans hw' (fun i hi=>Or.inr (by omega))
 all_goals have k0:=hr'.cell (j:=0) rfl
 all_goals have k1:=hr'.cell (j:=1) rfl
 all_goals have k2:=hr'.cell (j:=2) rfl
 all_goals have k3:=hr'.cell (j:=3) rfl
 all_goals clear hW hrx hrr hry hrs hw' hr'
 all_goals go_wp2_with fail
 all_goals refine HQ.out _ _ _ ?_
 all_goals exact bodyPost_ret (v:= .tuple #[.agg #[.bool true,.bool true,.bool true,.bool false],.bool (eqI ⟨5,dst,a,b,n,arg⟩ ⟨5,dst,a,b,n,arg⟩&& (((arg.length:Int)==0)&& opR ⟨5,dst,a,b,n,arg⟩))]) (by simp[results,Tryz.results27,go_sem,k0,k1,k2,k3]) rfl ⟨_,_,_,_,rfl,fun _=>HSH.out,hbw'.below (Nat.le_refl _) (fun _ h=>h.elim)⟩
theorem rform_6(nl ng:Int)(pl:List Int)(PA:Option Addr)(pc:Nat)(dst a b n:Int)(arg:List Int)(A:Option Addr)(c B:Nat)(w:World)(hB:B≤w.heap.size)(hx:LongsAt w B arg (.slice A arg.length c))(hp:LongsAt w B pl (.slice PA pl.length pc)):
  Calls Tryz.prog 27 #[insV ⟨6,dst,a,b,n,arg⟩ A c,.int .i64 nl,.int .i64 ng,.slice PA pl.length pc] w fun e w'=>FormSays (formR nl ng pl ⟨6,dst,a,b,n,arg⟩) (shapeR ⟨6,dst,a,b,n,arg⟩) w e w':=by
 have HX:=Lib.hid hx;have HP:=Lib.hid hp;unfold insV;simp only;clear hp;by_cases h1:arg.length=1
 ·obtain⟨v,rfl⟩:=List.length_eq_one_iff.1 h1;obtain⟨sb,so,rfl,hsb,g0,hin0⟩:=hx.at (show 0<[v].length by simp);simp only[Nat.add_zero,List.getElem_cons_zero,List.length_singleton]at g0 ⊢;have HS:=Lib.hid (fun W=>rsmall_any v W);have hs0:sb<w.heap.size:=by omega
  have hs1:sb<w.heap.size+1:=by omega
  have hs2:sb<w.heap.size+1+1:=by omega
  have hs3:sb<w.heap.size+1+1+1:=by omega
  have hs4:sb<w.heap.size+1+1+1+1:=by omega
  cases hi:immB v with
  |false=>
   have HI:=Lib.hid hi;rw[hi]at HS;clear hi h1 hx hin0;have HV:=Lib.hid (show formR nl ng pl ⟨6,dst,a,b,n,[v]⟩=false from by unfold formR preR;simp[HI.out]);rw[HV.out];go_enter Tryz.func27,Tryz.ntmps27;refine wp_letter (fun Q hQ=>?_);have HQ:=Lib.hid hQ;clear hQ;go_wp2_with fail;go_region
   all_goals go_wp2_with fail
   all_goals refine(HS.out _).mono ?_
   all_goals rintro e w1 ⟨rfl,rfl⟩
   all_goals go_wp2_with fail
   all_goals refine HQ.out _ _ _ ?_
   all_goals refine bodyPost_ret (v:= .tuple #[.agg #[.bool true,.bool true,.bool false,.bool false],.bool false]) (by simp[results,Tryz.results27,go_sem]) rfl ⟨_,_,_,_,rfl,fun h=>(by cases h),?_⟩
   all_goals exact(form_rows (by first|exact Or.inl rfl|exact Or.inr rfl)).2.2.2.2
  |true=>
   have HI:=Lib.hid hi;rw[hi]at HS;clear hi h1 hx hin0;have HV:=Lib.hid (show formR nl ng pl ⟨6,dst,a,b,n,[v]⟩=(eqI ⟨6,dst,a,b,n,[v]⟩ ⟨6,dst,a,0,n,[v]⟩&& (((([v]:List Int).length:Int)==1)&& opR ⟨6,dst,a,b,n,[v]⟩))from by unfold formR preR;simp[namedI,wantI,fieldsI,freeI,argsR,HI.out]);rw[HV.out];have HSH:=Lib.hid (show(true,true,false,false)=shapeR ⟨6,dst,a,b,n,[v]⟩from by simp[shapeR,fieldsI,namedI]);go_enter Tryz.func27,Tryz.ntmps27;refine wp_letter (fun Q hQ=>?_);have HQ:=Lib.hid hQ;clear hQ;go_wp2_with fail;go_region
   all_goals go_wp2_with fail
   all_goals refine(HS.out _).mono ?_
   all_goals rintro e w1 ⟨rfl,rfl⟩
   all_goals go_wp2_with fail
   all_goals refine wp_world (fun W hW=>?_)
   all_goals obtain⟨hrx,hrr,hry,hrs,hbw⟩:=form_rows (by first|exact Or.inl hW|exact Or.inr hW)
   all_goals replace hrx:Row W w.heap.size #[.int .i64 6,.int .i64 dst,.int .i64 a,.int .i64 b,.int .i64 n,.slice (some ⟨sb,so,.none⟩) ([v]:List Int).length c] 43:=hrx
   all_goals replace hry:Row W (w.heap.size+1+1) #[.int .i64 6,.int .i64 dst,.int .i64 a,.int .i64 0,.int .i64 n,.slice (some ⟨sb,so,.none⟩) ([v]:List Int).length c] 43:=hry
   all_goals refine rfe_region w.heap.size (w.heap.size+1+1) (w.heap.size+1+1+1) (w.heap.size+1) ⟨6,dst,a,b,n,[v]⟩ ⟨6,dst,a,0,n,[v]⟩ (some ⟨sb,so,.none⟩) c true true false false _ _ _ 1 W hrx hry hrs hrr (fun W' hW'=>reqins_any ⟨6,dst,a,b,n,[v]⟩ ⟨6,dst,a,0,n,[v]⟩ rfl (some ⟨sb,so,.none⟩) c B W' (by have:=hW'.size;have:=hbw.size;omega) (HX.out.below ((hbw.trans (hW'.mono hbw.size)).mono hB) (Nat.le_refl _))) (fun W' hW'=>rop_any ⟨6,dst,a,b,n,[v]⟩ (some ⟨sb,so,.none⟩) c W') rfl _ _ _ _ _ _ _ _ _ _ _ _ _ _ _ _ _ _ _ _ _ _ _ _ _ _ _ _ _ _ _ _ _ _ _ _ _ _ _ _ _ _ _ _ _ _ _ _ _ _ _ _ _ _ _ _ _ _ _ _ _ _ _ _ _ _ _ _ _ _ _ _ _ _ _ _ _ _ _ _ _ _ _ _ _ _ _ _ _ _ _ _ _ _ _ _ _ _ _ _ _ _ _ _ _ _ _ _ _ _ _ _ _ _ _ _ _ _ _ _ _ _ _ _ _ _ _ _ _ _ _ _ _ _ _ _ _ _ _ _ _ _ _ _ _ _ _ _ _ _ _ _ _ _ _ _ _ _ _ _ _ _ _ _ _ _ _ _ _ _ _ _ _ _ _ _ _ _ _ _ _ _ _ _ _ _ (fun W' Y hw' hr'=>?_)
   all_goals have hbw':=(Wr.of_below (F:=fun _=>False) hbw).trans hw' (fun i hi=>Or.inr (by omega))
   all_goals have k0:=hr'.cell (j:=0) rfl
   all_goals have k1:=hr'.cell (j:=1) rfl
   all_goals have k2:=hr'.cell (j:=2) rfl
   all_goals have k3:=hr'.cell (j:=3) rfl
   all_goals clear hW hrx hrr hry hrs hw' hr'
   all_goals go_wp2_with fail
   all_goals refine HQ.out _ _ _ ?_
   all_goals exact bodyPost_ret (v:= .tuple #[.agg #[.bool true,.bool true,.bool false,.bool false],.bool (eqI ⟨6,dst,a,b,n,[v]⟩ ⟨6,dst,a,0,n,[v]⟩&& (((([v]:List Int).length:Int)==1)&& opR ⟨6,dst,a,b,n,[v]⟩))]) (by simp[results,Tryz.results27,go_sem,k0,k1,k2,k3]) rfl ⟨_,_,_,_,rfl,fun _=>HSH.out,hbw'.below (Nat.le_refl _) (fun _ h=>h.elim)⟩
 ·have e1:((arg.length:Int) !=1)=true:=by simp;omega
  have H1:=Lib.hid h1;clear h1 hx;have HV:=Lib.hid (show formR nl ng pl ⟨6,dst,a,b,n,arg⟩=false from by unfold formR preR;simp[H1.out]);rw[HV.out];go_enter Tryz.func27,Tryz.ntmps27;refine wp_letter (fun Q hQ=>?_);have HQ:=Lib.hid hQ;clear hQ;go_wp2_with fail;go_region
  all_goals go_wp2_with fail
  all_goals refine HQ.out _ _ _ ?_
  all_goals refine bodyPost_ret (v:= .tuple #[.agg #[.bool true,.bool true,.bool false,.bool false],.bool false]) (by simp[results,Tryz.results27,go_sem]) rfl ⟨_,_,_,_,rfl,fun h=>(by cases h),?_⟩
  all_goals exact(form_rows (by first|exact Or.inl rfl|exact Or.inr rfl)).2.2.2.2
theorem rform_7(nl ng:Int)(pl:List Int)(PA:Option Addr)(pc:Nat)(dst a b n:Int)(arg:List Int)(A:Option Addr)(c B:Nat)(w:World)(hB:B≤w.heap.size)(hx:LongsAt w B arg (.slice A arg.length c))(hp:LongsAt w B pl (.slice PA pl.length pc)):
  Calls Tryz.prog 27 #[insV ⟨7,dst,a,b,n,arg⟩ A c,.int .i64 nl,.int .i64 ng,.slice PA pl.length pc] w fun e w'=>FormSays (formR nl ng pl ⟨7,dst,a,b,n,arg⟩) (shapeR ⟨7,dst,a,b,n,arg⟩) w e w':=by
 have HX:=Lib.hid hx;have HP:=Lib.hid hp;unfold insV;simp only;clear hx hp;have HV:=Lib.hid (show formR nl ng pl ⟨7,dst,a,b,n,arg⟩=(eqI ⟨7,dst,a,b,n,arg⟩ ⟨7,dst,a,0,n,arg⟩&& (((arg.length:Int)==0)&& opR ⟨7,dst,a,b,n,arg⟩))from by simp[formR,namedI,preR,wantI,fieldsI,freeI,argsR]);rw[HV.out];have HSH:=Lib.hid (show(true,true,false,false)=shapeR ⟨7,dst,a,b,n,arg⟩from by simp[shapeR,fieldsI,namedI]);go_enter Tryz.func27,Tryz.ntmps27;refine wp_letter (fun Q hQ=>?_);have HQ:=Lib.hid hQ;clear hQ;go_wp2_with fail;go_region
 all_goals go_wp2_with fail
 all_goals refine wp_world (fun W hW=>?_)
 all_goals obtain⟨hrx,hrr,hry,hrs,hbw⟩:=form_rows (by first|exact Or.inl hW|exact Or.inr hW)
 all_goals refine rfe_region w.heap.size (w.heap.size+1+1) (w.heap.size+1+1+1) (w.heap.size+1) ⟨7,dst,a,b,n,arg⟩ ⟨7,dst,a,0,n,arg⟩ A c true true false false _ _ _ 0 W hrx hry hrs hrr (fun W' hW'=>reqins_any ⟨7,dst,a,b,n,arg⟩ ⟨7,dst,a,0,n,arg⟩ rfl A c B W' (by have:=hW'.size;have:=hbw.size;omega) (HX.out.below ((hbw.trans (hW'.mono hbw.size)).mono hB) (Nat.le_refl _))) (fun W' hW'=>rop_any ⟨7,dst,a,b,n,arg⟩ A c W') rfl _ _ _ _ _ _ _ _ _ _ _ _ _ _ _ _ _ _ _ _ _ _ _ _ _ _ _ _ _ _ _ _ _ _ _ _ _ _ _ _ _ _ _ _ _ _ _ _ _ _ _ _ _ _ _ _ _ _ _ _ _ _ _ _ _ _ _ _ _ _ _ _ _ _ _ _ _ _ _ _ _ _ _ _ _ _ _ _ _ _ _ _ _ _ _ _ _ _ _ _ _ _ _ _ _ _ _ _ _ _ _ _ _ _ _ _ _ _ _ _ _ _ _ _ _ _ _ _ _ _ _ _ _ _ _ _ _ _ _ _ _ _ _ _ _ _ _ _ _ _ _ _ _ _ _ _ _ _ _ _ _ _ _ _ _ _ _ _ _ _ _ _ _ _ _ _ _ _ _ _ _ _ _ _ _ _ (fun W' Y hw' hr'=>?_)
 all_goals have hbw':=(Wr.of_below (F:=fun _=>False) hbw).trans hw' (fun i hi=>Or.inr (by omega))
 all_goals have k0:=hr'.cell (j:=0) rfl
 all_goals have k1:=hr'.cell (j:=1) rfl
 all_goals have k2:=hr'.cell (j:=2) rfl
 all_goals have k3:=hr'.cell (j:=3) rfl
 all_goals clear hW hrx hrr hry hrs hw' hr'
 all_goals go_wp2_with fail
 all_goals refine HQ.out _ _ _ ?_
 all_goals exact bodyPost_ret (v:= .tuple #[.agg #[.bool true,.bool true,.bool false,.bool false],.bool (eqI ⟨7,dst,a,b,n,arg⟩ ⟨7,dst,a,0,n,arg⟩&& (((arg.length:Int)==0)&& opR ⟨7,dst,a,b,n,arg⟩))]) (by simp[results,Tryz.results27,go_sem,k0,k1,k2,k3]) rfl ⟨_,_,_,_,rfl,fun _=>HSH.out,hbw'.below (Nat.le_refl _) (fun _ h=>h.elim)⟩
end Go.Proofs.YtlenilbkifofjaaGreatDoor
