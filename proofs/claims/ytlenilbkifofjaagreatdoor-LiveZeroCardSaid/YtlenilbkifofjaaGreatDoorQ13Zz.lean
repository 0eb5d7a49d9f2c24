/- gantletref14: every call. Conditions: as stated. The page's machine: a number is put out. Conditions: as stated. The page's machine: a store. Conditions: as stated. The page's machine: a call that ends it. Conditions: as stated. The page's machine: a call whose value is let go. Conditions: as stated. The page's machine: a call whose value is kept. Conditions: as stated. The page's machine: every step. Conditions: as stated. The page's machine: a call that is too deep. Conditions: as stated. The page's machine: a call for which no fuel is left. Conditions: as stated. The page's machine: a call's rounds, one a block. Conditions: as stated. The page's machine: a call that is gone through. Conditions: as stated. The page's machine: every call. Conditions: as stated. The page's machine: every run. Conditions: as stated. virt.May. Conditions: as stated. What a run of virtual code answers, whatever is asked (plain). No program in sight. No condition. virt.Run, whatever is asked. Conditions: as stated. -/
import Derived.Test.YtlenilbkifofjaaGreatDoorRCallDZz
import Derived.Test.YtlenilbkifofjaaGreatDoorRCallCZz
import Derived.Test.YtlenilbkifofjaaGreatDoorQ10Zz
import Derived.Test.YtlenilbkifofjaaGreatDoorQ02Zz
import Derived.Test.YtlenilbkifofjaaGreatDoorMakeZz
import Derived.Test.YtlenilbkifofjaaGreatDoorQ08Zz
import Derived.Test.YtlenilbkifofjaaGreatDoorQ01Zz
import Derived.Test.YtlenilbkifofjaaGreatDoorQ04Zz
import Derived.Test.YtlenilbkifofjaaGreatDoorQ03Zz
import Derived.Test.YtlenilbkifofjaaGreatDoorQ11Zz
import Derived.Test.YtlenilbkifofjaaGreatDoorVAskFZz
import Derived.StillTailTactics
import Derived.Deep.RegionLaw
import Derived.Deep.AppendLies
import Derived.Deep.DrawnRows
import Derived.WalkLawsBesides
import Derived.Outline
import Derived.Deep.RegionWith
import Derived.Deep.RegionHeld3
import Derived.BigRegion
import Derived.Laws.ByValue
set_option linter.unusedVariables false
set_option linter.unusedSimpArgs false
set_option maxHeartbeats 8000000
namespace Go.Proofs.YtlenilbkifofjaaGreatDoor
open Go.RowKit
theorem rcall_all{p:VirtS}(hin:VirtIn p)(hm:vmayB p=true){fuel:Int}(hf:fuel≤100000000):∀(d:Nat)(c:Int),(d:Int)+c=64→RCallOk p fuel c (callF (virtG p) fuel d)
 |0,c,hd=>by
  intro f g args s base mc own P AA an acap w hg hal h hP hL hI hc hgl hva han hargs;rw[callF];exact rcall_over base mc own P fuel p s f g args AA an acap w h hP hI hf hg hI.calls (by omega)
 |d+1,c,hd=>by
  intro f g args s base mc own P AA an acap w hg hal h hP hL hI hc hgl hva han hargs;have hp:=vmay_ok hin hm;have hg2:=virtG_get hg;have hmem:=List.mem_of_getElem? hg;have hfn:=hp.fns _ (List.mem_of_getElem? hg2);obtain⟨⟨_,_,p3,_,_,p5,p6,p7⟩,hall,hlast⟩:=codeB_ok (vmay_codes hm hmem);obtain⟨nt,hnt,hnt2,_⟩:=hfn.nt;have hobs:∀o,o∈g.locs→ObOk o:=fun o ho=>(hfn.obs o ho).1;by_cases hy:(stepF fuel (countsF g.locs) {s with calls:=s.calls+1,deep:=max s.deep (s.calls+1)}).1=true
  ·rw[callF_goG hg2 hnt hy];obtain⟨_,hy1,_⟩:=stepF_yes hy;simp only at hy1;have hnt':g.regs=(nt:Int):=hnt;obtain⟨k1,k2,k3,k4,k5⟩:=call_start_ok hfn hnt hI hva (by omega) hgl hf (by show s.steps+countsF g.locs≤fuel;omega);exact rcall_go base mc own P fuel p s f g args AA an acap w h hP hI hf hg hI.calls (callF (virtG p) fuel d) (by omega) hI.deep nt hnt hnt2 hobs hfn.locs hargs han (by omega) ⟨k1,k2,k5⟩ (by omega)
    hall hlast p7 (by omega) (vmay_par hm) (by have:=hp.gfew;show p.globs.length≤1000;have h2:p.globs.length≤16:=this;omega) (hin.ins g hmem) hL (rcall_all hin hm hf d _ (by omega)) (call_kept hp hf d) hy
  ·have hy0:(stepF fuel (countsF g.locs) {s with calls:=s.calls+1,deep:=max s.deep (s.calls+1)}).1=false:=by simpa using hy
   rw[callF_dryG hg2 hy0];exact rcall_dry base mc own P fuel p s f g args AA an acap w h hP hI hf hg hI.calls (by omega) hI.deep nt hnt hnt2 hobs hfn.locs hy0
theorem long_info6:(Tryz.prog.info? 2).map (fun i=>(i.zero,i.size,i.bytes))=some (some (.int .i64 0),1,8):=by kernel_rfl
theorem int_one6(a:Int):∀u:Value,u∈[Value.int .i64 a]→u.oneCell'=true:=by
 intro u hu;simp at hu;subst hu;rfl
theorem slice_ofR{w:World}{base:Nat}{e:TypeId}{size:Nat}{v:Value}{n:Nat}{xs:List Value}(h:w.ownsRow base e size v n xs):∃A c,v= .slice A n c:=by
 rcases h.2 with⟨e,e'⟩|⟨gg,cap,cur,e,_⟩
 ·exact⟨none,0,by rw[e,e']⟩
 ·exact⟨_,_,e⟩
end Go.Proofs.YtlenilbkifofjaaGreatDoor
namespace Go.Proofs.YtlenilbkifofjaaGreatDoor
open Go.RowKit
attribute [local go_sem ↓] Go.wp_at_zero Go.wp_at_succ
end Go.Proofs.YtlenilbkifofjaaGreatDoor
namespace Go.Proofs.YtlenilbkifofjaaGreatDoor
open Go.RowKit
def RunSays(o:OutS)(base:Nat)(w:World)(e:Ending)(w':World):Prop:=
 ∃outv,e= .returned (.agg #[.int .i64 o.kind,.int .i64 o.code,outv,.int .i64 o.steps,.int .i64 o.deep])∧w'.ownsRow base 2 1 outv o.out.length (o.out.map (Value.int .i64))∧Below w.heap.size w w'
theorem wr_five(w:World)(r:Nat)(a b c d e:Value)(o:Obj):Wr (fun i=>i=r) w ((((((w.setCell ⟨r,0,none⟩ a).setCell ⟨r,1,none⟩ b).setCell ⟨r,2,none⟩ c).setCell ⟨r,3,none⟩ d).setCell ⟨r,4,none⟩ e).alloc o):=
 ((((((Wr.cell1 w r 0 a).trans (Wr.cell1 _ r 1 b) (fun _ h=>Or.inl h)).trans (Wr.cell1 _ r 2 c) (fun _ h=>Or.inl h)).trans (Wr.cell1 _ r 3 d) (fun _ h=>Or.inl h)).trans (Wr.cell1 _ r 4 e) (fun _ h=>Or.inl h)).trans (Wr.of_below (F:=fun _=>False) (below1 _ o)) (fun _ h=>h.elim))
theorem numberI_par{c:CodeS}{ng nf:Int}{par par':Int→Int→Bool}{x:InsS}(h:x.op≠10):numberI c ng nf par x=numberI c ng nf par' x:=by
 unfold numberI;rw[if_neg h,if_neg h]
theorem number_ten{c:CodeS}{ng nf:Int}{par:Int→Int→Bool}{x:InsS}(h:x.op=10):numberI c ng nf par x=(callB c nf x && par x.n x.arg.length):=by
 obtain⟨op,dst,a,b,n,arg⟩:=x;simp only at h;subst h;simp[numberI,callB,Bool.and_assoc]
theorem insF_eq(q:Int→Int→Bool)(c:CodeS)(ng nf:Int)(x:InsS):(insF (fun(_:Unit)n k=>(q n (k:Nat),())) c ng nf () x).1=insB c ng nf q x:=by
 unfold insF;by_cases h:x.op=10
 ·rw[insB_eq (par:=yesPar),insB_eq (par:=noPar),insB_eq (par:=q),number_ten h,number_ten h,number_ten h];simp only[yesPar,noPar,h,true_and,Bool.and_true,Bool.and_false];split
  ·rename_i h1;simp only[Bool.and_eq_true]at h1;obtain⟨h2,h3,h4,h5,h6,h7,h8⟩:=h1;simp only[h2,h3,h4,h5,h6,h7,h8,Bool.true_and]
  ·rename_i h1
   symm
   cases hq:q x.n x.arg.length with
   |false=>simp
   |true=>simpa using h1
 ·rw[if_neg (fun hh=>h hh.1),insB_eq (par:=noPar),insB_eq (par:=q),numberI_par (par':=q) h]
theorem insF_unit(q:Int→Int→Bool)(c:CodeS)(ng nf:Int):∀l:List InsS,(inssF (fun(_:Unit)n k=>(q n (k:Nat),())) c ng nf () l).1=l.all (insB c ng nf q)
 |[]=>rfl
 |x::l=>by
  rw[inssF,List.all_cons,←insF_eq q c ng nf x];by_cases h:(insF (fun(_:Unit)n k=>(q n (k:Nat),())) c ng nf () x).1=true
  ·rw[if_pos h,h,Bool.true_and];exact insF_unit q c ng nf l
  ·rw[if_neg h];simp at h;rw[h];rfl
theorem codeF_eq(q:Int→Int→Bool)(c:CodeS)(ng nf:Int):(codeF (fun(_:Unit)n k=>(q n (k:Nat),())) c ng nf ()).1=codeB c ng nf q:=by
 unfold codeF codeB;split
 ·simp only[insF_unit]
 ·rfl
def goodV(p:VirtS)(fuel:Int):Prop:=vmayB p=true∧0≤fuel∧fuel≤2000000
instance(p:VirtS)(fuel:Int):Decidable (goodV p fuel):=by unfold goodV;exact inferInstance
def outV(p:VirtS)(inp:List Int)(fuel:Int):OutS:=if goodV p fuel then runF (virtG p) inp fuel else⟨0,0,[],0,0⟩
def errV(p:VirtS)(fuel:Int):Int:=if goodV p fuel then 0 else 1
theorem vmay_main{p:VirtS}(h:vmayB p=true):∃(f:Nat)(g:CodeS),p.main=f∧p.funcs[f]? =some g∧g.params=0:=by
 unfold vmayB at h;split at h
 ·rename_i hh;obtain⟨_,_,_,h4,h5⟩:=hh;obtain⟨f,hf⟩:=Int.eq_ofNat_of_zero_le h4.1;have hfl:f<p.funcs.length:=by omega
  refine⟨f,p.funcs[f],hf,List.getElem?_eq_getElem hfl,?_⟩;rw[hf,Int.toNat_natCast,List.getD_eq_getElem?_getD,List.getElem?_eq_getElem hfl]at h5;exact h5
 ·cases h
def RanG(o:OutS)(er:Int)(w:World)(e:Ending)(w':World):Prop:=
 ∃outv,e= .returned (.tuple #[.agg #[.int .i64 o.kind,.int .i64 o.code,outv,.int .i64 o.steps,.int .i64 o.deep],.int .i64 er])∧w'.ownsRow w.heap.size 2 1 outv o.out.length (o.out.map (Value.int .i64))∧Below w.heap.size w w'
end Go.Proofs.YtlenilbkifofjaaGreatDoor
