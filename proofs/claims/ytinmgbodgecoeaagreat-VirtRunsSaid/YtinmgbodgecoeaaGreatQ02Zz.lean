/- The walks of the page's ops of one and of two numbers. No condition but those stated. The page's memory: loads. Conditions: as stated. -/
import Derived.Test.YtinmgbodgecoeaaGreatQ01Zz
import Derived.Deep.RegionWith
set_option linter.unusedSimpArgs false
set_option linter.unusedVariables false
set_option maxHeartbeats 8000000
set_option maxRecDepth 100000
open Go.Proofs.Tryz
namespace Go.Proofs.YtinmgbodgecoeaaGreat
open Go.RowKit
theorem Mb(t:Bool)(w:World):
  Calls prog 104 #[.bool t] w λe w'=>e= .returned (.int .i64 (vH t))/\w=w':=by
 cases t
 all_goals
  go_enter func104,ntmps104;go_wp2;go_ret;exact⟨rfl,rfl⟩
theorem MQ(op:Int)(w:World):
  Calls prog 73 #[.int .i64 op] w λe w'=>e= .returned (.bool (decide (12<=op/\op<=30)))/\w=w':=by
 go_enter func73,ntmps73;go_wp2
 all_goals go_ret
 ·exact⟨iB (by simp[*]),rfl⟩
 ·exact⟨iB (by simp;omega),rfl⟩
theorem Oh(b:Int)(h0:-9223372036854775808<=b)(h1:b<=9223372036854775807)(h:b≠0):¬IntKind.u64.wrap b=0:=by
 rw[IntKind.wrap_u64];omega
theorem Rp(a:Int):a.tmod (-1)=0:=by
 rw[Int.tmod_neg];simp
theorem Eg(op a b:Int)(w:World)(h:op=12\/op=13\/op=14\/op=19\/op=20\/op=21\/op=22\/op=23\/op=24\/op=25\/op=26\/op=27\/op=28\/op=29\/op=30):
  Calls prog 86 #[.int .i64 op,.int .i64 a,.int .i64 b] w λe w'=>e= .returned (.int .i64 (bF op a b))/\w=w':=by
 rcases h with rfl|rfl|rfl|rfl|rfl|rfl|rfl|rfl|rfl|rfl|rfl|rfl|rfl|rfl|rfl
 all_goals
  have hb:=TN b;go_enter func86,ntmps86;go_wp2_with(first
   |(go_at_call 104;refine(Mb _ _).mono ?_;rintro e w' ⟨rfl,rfl⟩))
  go_ret;exact⟨kZ (by simp[bF,byR,oL,Nq]),rfl⟩
theorem CL(a:Int)(h0:-9223372036854775808<=a)(h1:a<=9223372036854775807):wrap64 (IntKind.u64.wrap a)=a:=by
 rw[IntKind.wrap_u64];unfold wrap64;omega
theorem yu:IntKind.u64.wrap 0=0:=by decide
theorem Uo(a:Int):bF 15 a 0= -1:=by simp[bF,oL,wP,qJ]
theorem Un(a:Int):bF 16 a 0= -1:=by simp[bF,oL,wP,uE,yu]
theorem Ul(a:Int):bF 17 a 0=a:=by simp[bF,oL,wP,rO]
theorem Uk(a:Int)(h0:-9223372036854775808<=a)(h1:a<=9223372036854775807):bF 18 a 0=a:=by simp[bF,oL,wP,uD,yu,CL a h0 h1]
theorem Ur(a:Int)(h:a= -9223372036854775808):bF 15 a (-1)=a:=by simp[bF,oL,wP,qJ,h]
theorem Uq(a:Int)(h:¬a= -9223372036854775808):bF 15 a (-1)=wrap64 (-a):=by simp[bF,oL,wP,qJ,h]
theorem Um(a:Int):bF 17 a (-1)=0:=by
 have h:=Rp a;simp[bF,oL,wP,rO,h]
theorem FP(op a:Int)(w:World)(h0:-9223372036854775808<=a)(h1:a<=9223372036854775807)(h:op=15\/op=16\/op=17\/op=18):
  Calls prog 86 #[.int .i64 op,.int .i64 a,.int .i64 0] w λe w'=>e= .returned (.int .i64 (bF op a 0))/\w=w':=by
 rcases h with rfl|rfl|rfl|rfl
 all_goals
  go_enter func86,ntmps86;go_wp2;go_ret
 ·exact⟨kZ (Uo a).symm,rfl⟩
 ·exact⟨kZ (Un a).symm,rfl⟩
 ·exact⟨kZ (Ul a).symm,rfl⟩
 ·exact⟨kZ (Uk a h0 h1).symm,rfl⟩
theorem Mi(op a:Int)(w:World)(h:op=15\/op=17):
  Calls prog 86 #[.int .i64 op,.int .i64 a,.int .i64 (-1)] w λe w'=>e= .returned (.int .i64 (bF op a (-1)))/\w=w':=by
 rcases h with rfl|rfl
 ·by_cases ha:a= -9223372036854775808
  ·have ha':(a== -9223372036854775808)=true:=by simpa using ha
   have H:=ae (Ur a ha);clear ha;go_enter func86,ntmps86;go_wp2;go_ret;exact⟨kZ H.out.symm,rfl⟩
  ·have ha':(a== -9223372036854775808)=false:=by simpa using ha
   have H:=ae (Uq a ha);clear ha;go_enter func86,ntmps86;go_wp2;go_ret;exact⟨kZ H.out.symm,rfl⟩
 ·go_enter func86,ntmps86;go_wp2;go_ret;exact⟨kZ (Um a).symm,rfl⟩
theorem Ju(op a b:Int)(w:World)(h:op=15\/op=17)(hz:¬b=0)(hm:¬b= -1):
  Calls prog 86 #[.int .i64 op,.int .i64 a,.int .i64 b] w λe w'=>e= .returned (.int .i64 (bF op a b))/\w=w':=by
 have hz':(b==0)=false:=by simpa using hz
 have hm':(b== -1)=false:=by simpa using hm
 rcases h with rfl|rfl
 all_goals
  go_enter func86,ntmps86;go_wp2;go_ret;exact⟨kZ (by simp[bF,oL,wP,qJ,rO,hz,hm]),rfl⟩
theorem FQ(op a b:Int)(w:World)(h:op=16\/op=18)(hz:¬b=0)(hu:¬IntKind.u64.wrap b=0):
  Calls prog 86 #[.int .i64 op,.int .i64 a,.int .i64 b] w λe w'=>e= .returned (.int .i64 (bF op a b))/\w=w':=by
 have hz':(b==0)=false:=by simpa using hz
 have hp:=Ef a;rcases h with rfl|rfl
 all_goals
  go_enter func86,ntmps86;go_wp2;go_ret;exact⟨kZ (by simp[bF,oL,wP,uE,uD,hu]),rfl⟩
theorem cY(op a b:Int)(w:World)(h0:12<=op)(h1:op<=30)(ha0:-9223372036854775808<=a)(ha1:a<=9223372036854775807)(hb0:-9223372036854775808<=b)(hb1:b<=9223372036854775807):
  Calls prog 86 #[.int .i64 op,.int .i64 a,.int .i64 b] w λe w'=>e= .returned (.int .i64 (bF op a b))/\w=w':=by
 by_cases hp:op=15\/op=16\/op=17\/op=18
 ·by_cases hz:b=0
  ·subst hz;exact FP op a w ha0 ha1 hp
  ·by_cases ho:op=15\/op=17
   ·by_cases hm:b= -1
    ·subst hm;exact Mi op a w ho
    ·exact Ju op a b w ho hz hm
   ·exact FQ op a b w (by omega) hz (Oh b hb0 hb1 hz)
 ·exact Eg op a b w (by omega)
theorem uH(n bits:Int)(s:Bool)(w:World)(hb:bits=8\/bits=16\/bits=32):
  Calls prog 66 #[.int .i64 n,.int .i64 bits,.bool s] w λe w'=>e= .returned (.int .i64 (kz bits s n))/\w=w':=by
 have h8:=and_8 n;have mL:=WI n;have h32:=WH n;rcases hb with rfl|rfl|rfl<;>cases s
 all_goals
  go_enter func66,ntmps66;go_wp2
  all_goals go_ret
  all_goals refine⟨kZ ?_,rfl⟩
 ·exact(SM n).symm
 ·rw[Qf];exact Rs n (by simp_all)
 ·rw[Qf,<-Uv n (by simp_all),zx8]
 ·exact(Qh n).symm
 ·rw[LG];exact Ot n (by simp_all)
 ·rw[LG,<-Ru n (by simp_all),zx16]
 ·exact(Qg n).symm
 ·rw[LF];exact Oq n (by simp_all)
 ·rw[LF,<-Rt n (by simp_all),zx32]
theorem vS(op:Int)(w:World):
  Calls prog 74 #[.int .i64 op] w λe w'=>e= .returned (.bool (decide (31<=op/\op<=36)))/\w=w':=by
 go_enter func74,ntmps74;go_wp2
 all_goals go_ret
 ·exact⟨iB (by simp[*]),rfl⟩
 ·exact⟨iB (by simp;omega),rfl⟩
theorem Mh(op n:Int)(w:World)(h0:31<=op)(h1:op<=36):
  Calls prog 90 #[.int .i64 op,.int .i64 n] w λe w'=>e= .returned (.int .i64 (CN op n))/\w=w':=by
 have h:op=31\/op=32\/op=33\/op=34\/op=35\/op=36:=by omega
 rcases h with rfl|rfl|rfl|rfl|rfl|rfl
 all_goals
  go_enter func90,ntmps90;go_wp2_with(go_at_call 66;refine(uH _ _ _ _ (by decide)).mono ?_;rintro e w' ⟨rfl,rfl⟩);go_ret;exact⟨kZ (by simp[CN]),rfl⟩
def gK(op:Int):Nat:=if op=5\/op=9 then 1 else if op=6\/op=10 then 2 else if op=7\/op=11 then 4 else 8
def iZ(op n:Int):Int:=if op=8 then n else kz (8*gK op) (decide (op<=8)) n
theorem qo{op:Int}(h0:5<=op)(h1:op<=11):op=5\/op=6\/op=7\/op=8\/op=9\/op=10\/op=11:=by omega
theorem rR(op:Int)(w:World):
  Calls prog 75 #[.int .i64 op] w λe w'=>e= .returned (.bool (decide (5<=op/\op<=11)))/\w=w':=by
 go_enter func75,ntmps75;go_wp2
 all_goals go_ret
 ·exact⟨iB (by simp[*]),rfl⟩
 ·exact⟨iB (by simp;omega),rfl⟩
theorem q9(op:Int)(w:World)(h0:5<=op)(h1:op<=11):
  Calls prog 92 #[.int .i64 op] w λe w'=>e= .returned (.int .i64 (gK op))/\w=w':=by
 rcases qo h0 h1 with rfl|rfl|rfl|rfl|rfl|rfl|rfl
 all_goals
  go_enter func92,ntmps92;go_wp2;go_ret;exact⟨kZ (by decide),rfl⟩
theorem uN(op n:Int)(w:World)(h0:5<=op)(h1:op<=11):
  Calls prog 93 #[.int .i64 op,.int .i64 n] w λe w'=>e= .returned (.int .i64 (iZ op n))/\w=w':=by
 rcases qo h0 h1 with rfl|rfl|rfl|rfl|rfl|rfl|rfl
 all_goals
  go_enter func93,ntmps93;go_wp2_with(first
   |(go_at_call 92;refine(q9 _ _ (by decide) (by decide)).mono ?_;rintro e w' ⟨rfl,rfl⟩;simp only[gK])
   |(go_at_call 66;refine(uH _ _ _ _ (by decide)).mono ?_;rintro e w' ⟨rfl,rfl⟩))
  go_ret;exact⟨kZ (by simp[iZ,gK]),rfl⟩
theorem fY(op:Int):1<=gK op/\gK op<=8:=by unfold gK;(repeat' split)<;>omega
def gZ(M:List MO)(op:Int)(a:V):Option V:=
 match sP M a (gK op)with
 |none=>none
 |some j=>
  let v:=(aG M a.obj).l.getD j ⟨0,0⟩
  if 0<v.obj then if op=8 then some v else none else some ⟨0,iZ op v.n⟩
theorem MJ(pb po:Nat)(A:Option Addr)(n aA B:Nat)(op:Int)(a:V)(M:List MO)(w:World)(hB:B<=w.heap.size)(hpb:pb<w.heap.size)(hc:w.cell? ⟨pb,po,none⟩=some (.slice A n aA))(hM:cK w B A n M)(hk:a.obj≠0->a.obj<n)(hx:a.obj≠0->0<=a.n/\a.n<=512)(h0:5<=op)(h1:op<=11)
  (hF:sP M a (gK op)=none):
  Calls prog 70 #[.pointer (some ⟨pb,po,none⟩),.int .i64 op,.agg #[.int .i64 a.obj,.int .i64 a.n]] w λe w'=>e= .returned (aO none)/\Below w.heap.size w w':=by
 have HC:=ae (λW(hb:Below w.heap.size w W)=>LH pb po A n aA w.heap.size (gK op) a M W hb.size (fQ hpb hb.size) (ag hc hb hpb) (hM.below (hb.mono hB) hB) hk hx (fY op).1 (fY op).2 hF);clear hc hM hF;go_enter func70,ntmps70;go_wp2_with fail;refine eX (by kernel_rfl) (by kernel_rfl) (λhG=>?_)
 repeat(go_big_quiet_step ((first
  |(go_at_call 92;exact iR (q9 _ _ h0 h1))
  |(go_at_call 91;exact jc (HC _ (cM (aB _ _ _) (by simp;omega) _))))))
 refine wpQuiet_nil ?_;rintro⟨w1,hb1⟩;simp only[];obtain⟨hc1,hf1⟩:=bL hb1;have hz1:=hb1.size;simp only[World.size_alloc]at hz1;go_wp2_with fail;refine aS (v:=aO none) ?_ rfl ⟨rfl,?_⟩
 ·simp[results,results70,go_sem,aO,hc1]
 ·exact(((aB _ _ _).trans (hb1.mono (by simp;omega))).setCell (by simp) _).setCell (by simp) _
theorem JZ(pb po:Nat)(mb mo:Nat)(n aA B:Nat)(op:Int)(a:V)(M:List MO)(w:World)(hB:B<=w.heap.size)(hpb:pb<w.heap.size)(hc:w.cell? ⟨pb,po,none⟩=some (.slice (some ⟨mb,mo,none⟩) n aA))(hM:cK w B (some ⟨mb,mo,none⟩) n M)(hk:a.obj<n)(hx0:0<=a.n)(hx:a.n<=512)(h0:5<=op)(h1:op<=11)
  (ob oo len cap' j:Nat)(v:V)(ja:ob<w.heap.size)(c1:w.cell? ⟨mb,mo+a.obj*3+1,none⟩=some (.slice (some ⟨ob,oo,none⟩) len cap'))(hv:bJ w ob (oo+j*2) v)(hF:sP M a (gK op)=some j)(hp:0<v.obj)(ho:¬op=8):
  Calls prog 70 #[.pointer (some ⟨pb,po,none⟩),.int .i64 op,.agg #[.int .i64 a.obj,.int .i64 a.n]] w λe w'=>e= .returned (aO (none))/\Below w.heap.size w w':=by
 have hmb:mb<w.heap.size:=by
  obtain⟨Fi,IW,hA,hlt,_⟩:=hM.get hk;injection hA with hA;injection hA with yI _;omega
 have HC:=ae (λW(hb:Below w.heap.size w W)=>wT pb po mb mo ob oo n aA w.heap.size len cap' (gK op) a M W j hb.size (fQ hpb hb.size) (ag hc hb hpb) (hM.below (hb.mono hB) hB) hk hx0 hx (fY op).1 (fY op).2 (ag c1 hb hmb) hF);obtain⟨hv0,hv1⟩:=hv;clear hc hM hF c1;have hp':(0:Int)<(v.obj:Int):=by omega
 have ho':(op !=8)=true:=by simpa using ho
 go_enter func70,ntmps70;go_wp2_with fail;refine eX (by kernel_rfl) (by kernel_rfl) (λhG=>?_)
 repeat(go_big_quiet_step ((first
  |(go_at_call 92;exact iR (q9 _ _ h0 h1))
  |(go_at_call 91;exact jc (HC _ (cM (aB _ _ _) (by simp;omega) _))))))
 refine wpQuiet_nil ?_;rintro⟨w1,hb1⟩;simp only[];obtain⟨hc1,hf1⟩:=bL hb1;have hz1:=hb1.size;simp only[World.size_alloc]at hz1;have e0:w1.cell? ⟨ob,oo+j*2,none⟩=some (.int .i64 v.obj):=ag hv0 ((aB _ _ _).trans (hb1.mono (by simp;omega))) ja;have e1:w1.cell? ⟨ob,oo+j*2+1,none⟩=some (.int .i64 v.n):=ag hv1 ((aB _ _ _).trans (hb1.mono (by simp;omega))) ja;clear hv0 hv1;go_wp2_with(go_at_call 93;refine(uN _ _ _ h0 h1).mono ?_;rintro e w' ⟨rfl,rfl⟩);refine aS (v:=aO (none)) ?_ rfl ⟨rfl,?_⟩
 ·simp[results,results70,go_sem,aO,hc1]
 ·exact(((aB _ _ _).trans (hb1.mono (by simp;omega))).setCell (by simp) _).setCell (by simp) _
theorem JY(pb po:Nat)(mb mo:Nat)(n aA B:Nat)(op:Int)(a:V)(M:List MO)(w:World)(hB:B<=w.heap.size)(hpb:pb<w.heap.size)(hc:w.cell? ⟨pb,po,none⟩=some (.slice (some ⟨mb,mo,none⟩) n aA))(hM:cK w B (some ⟨mb,mo,none⟩) n M)(hk:a.obj<n)(hx0:0<=a.n)(hx:a.n<=512)(h0:5<=op)(h1:op<=11)
  (ob oo len cap' j:Nat)(v:V)(ja:ob<w.heap.size)(c1:w.cell? ⟨mb,mo+a.obj*3+1,none⟩=some (.slice (some ⟨ob,oo,none⟩) len cap'))(hv:bJ w ob (oo+j*2) v)(hF:sP M a (gK op)=some j)(hp:0<v.obj)(ho:op=8):
  Calls prog 70 #[.pointer (some ⟨pb,po,none⟩),.int .i64 op,.agg #[.int .i64 a.obj,.int .i64 a.n]] w λe w'=>e= .returned (aO (some v))/\Below w.heap.size w w':=by
 have hmb:mb<w.heap.size:=by
  obtain⟨Fi,IW,hA,hlt,_⟩:=hM.get hk;injection hA with hA;injection hA with yI _;omega
 have HC:=ae (λW(hb:Below w.heap.size w W)=>wT pb po mb mo ob oo n aA w.heap.size len cap' (gK op) a M W j hb.size (fQ hpb hb.size) (ag hc hb hpb) (hM.below (hb.mono hB) hB) hk hx0 hx (fY op).1 (fY op).2 (ag c1 hb hmb) hF);obtain⟨hv0,hv1⟩:=hv;clear hc hM hF c1;have hp':(0:Int)<(v.obj:Int):=by omega
 have ho':(op !=8)=false:=by simpa using ho
 clear ho;go_enter func70,ntmps70;go_wp2_with fail;refine eX (by kernel_rfl) (by kernel_rfl) (λhG=>?_)
 repeat(go_big_quiet_step ((first
  |(go_at_call 92;exact iR (q9 _ _ h0 h1))
  |(go_at_call 91;exact jc (HC _ (cM (aB _ _ _) (by simp;omega) _))))))
 refine wpQuiet_nil ?_;rintro⟨w1,hb1⟩;simp only[];obtain⟨hc1,hf1⟩:=bL hb1;have hz1:=hb1.size;simp only[World.size_alloc]at hz1;have e0:w1.cell? ⟨ob,oo+j*2,none⟩=some (.int .i64 v.obj):=ag hv0 ((aB _ _ _).trans (hb1.mono (by simp;omega))) ja;have e1:w1.cell? ⟨ob,oo+j*2+1,none⟩=some (.int .i64 v.n):=ag hv1 ((aB _ _ _).trans (hb1.mono (by simp;omega))) ja;clear hv0 hv1;go_wp2_with(go_at_call 93;refine(uN _ _ _ h0 h1).mono ?_;rintro e w' ⟨rfl,rfl⟩);refine aS (v:=aO (some v)) ?_ rfl ⟨rfl,?_⟩
 ·simp[results,results70,go_sem,aO,hc1]
 ·exact(((aB _ _ _).trans (hb1.mono (by simp;omega))).setCell (by simp) _).setCell (by simp) _
theorem O0(pb po:Nat)(mb mo:Nat)(n aA B:Nat)(op:Int)(a:V)(M:List MO)(w:World)(hB:B<=w.heap.size)(hpb:pb<w.heap.size)(hc:w.cell? ⟨pb,po,none⟩=some (.slice (some ⟨mb,mo,none⟩) n aA))(hM:cK w B (some ⟨mb,mo,none⟩) n M)(hk:a.obj<n)(hx0:0<=a.n)(hx:a.n<=512)(h0:5<=op)(h1:op<=11)
  (ob oo len cap' j:Nat)(v:V)(ja:ob<w.heap.size)(c1:w.cell? ⟨mb,mo+a.obj*3+1,none⟩=some (.slice (some ⟨ob,oo,none⟩) len cap'))(hv:bJ w ob (oo+j*2) v)(hF:sP M a (gK op)=some j)(hp:¬0<v.obj):
  Calls prog 70 #[.pointer (some ⟨pb,po,none⟩),.int .i64 op,.agg #[.int .i64 a.obj,.int .i64 a.n]] w λe w'=>e= .returned (aO (some ⟨0,iZ op v.n⟩))/\Below w.heap.size w w':=by
 have hmb:mb<w.heap.size:=by
  obtain⟨Fi,IW,hA,hlt,_⟩:=hM.get hk;injection hA with hA;injection hA with yI _;omega
 have HC:=ae (λW(hb:Below w.heap.size w W)=>wT pb po mb mo ob oo n aA w.heap.size len cap' (gK op) a M W j hb.size (fQ hpb hb.size) (ag hc hb hpb) (hM.below (hb.mono hB) hB) hk hx0 hx (fY op).1 (fY op).2 (ag c1 hb hmb) hF);obtain⟨hv0,hv1⟩:=hv;clear hc hM hF c1;have hp':¬(0:Int)<(v.obj:Int):=by omega
 have hp2:decide ((0:Int)<(v.obj:Int))=false:=by simpa using hp'
 go_enter func70,ntmps70;go_wp2_with fail;refine eX (by kernel_rfl) (by kernel_rfl) (λhG=>?_)
 repeat(go_big_quiet_step ((first
  |(go_at_call 92;exact iR (q9 _ _ h0 h1))
  |(go_at_call 91;exact jc (HC _ (cM (aB _ _ _) (by simp;omega) _))))))
 refine wpQuiet_nil ?_;rintro⟨w1,hb1⟩;simp only[];obtain⟨hc1,hf1⟩:=bL hb1;have hz1:=hb1.size;simp only[World.size_alloc]at hz1;have e0:w1.cell? ⟨ob,oo+j*2,none⟩=some (.int .i64 v.obj):=ag hv0 ((aB _ _ _).trans (hb1.mono (by simp;omega))) ja;have e1:w1.cell? ⟨ob,oo+j*2+1,none⟩=some (.int .i64 v.n):=ag hv1 ((aB _ _ _).trans (hb1.mono (by simp;omega))) ja;clear hv0 hv1;go_wp2_with(go_at_call 93;refine(uN _ _ _ h0 h1).mono ?_;rintro e w' ⟨rfl,rfl⟩);refine aS (v:=aO (some ⟨0,iZ op v.n⟩)) ?_ rfl ⟨rfl,?_⟩
 ·simp[results,results70,go_sem,aO,hc1]
 ·exact(((aB _ _ _).trans (hb1.mono (by simp;omega))).setCell (by simp) _).setCell (by simp) _
theorem Gn(pb po:Nat)(A:Option Addr)(n aA B:Nat)(op:Int)(a:V)(M:List MO)(w:World)(hB:B<=w.heap.size)(hpb:pb<w.heap.size)(hc:w.cell? ⟨pb,po,none⟩=some (.slice A n aA))(hM:cK w B A n M)(hk:a.obj≠0->a.obj<n)(hx:a.obj≠0->0<=a.n/\a.n<=512)(h0:5<=op)(h1:op<=11):
  Calls prog 70 #[.pointer (some ⟨pb,po,none⟩),.int .i64 op,.agg #[.int .i64 a.obj,.int .i64 a.n]] w λe w'=>e= .returned (aO (gZ M op a))/\Below w.heap.size w w':=by
 unfold gZ;cases hF:sP M a (gK op)with
 |none=>exact MJ pb po A n aA B op a M w hB hpb hc hM hk hx h0 h1 hF
 |some j=>
  obtain⟨hx0,hx⟩:=hx (wV hF);have hk:=hk (wV hF);obtain⟨_,_,_,hj⟩:=KT hF hx0;obtain⟨mb,mo,rfl,hmb,A',len,cap',_,c1,_,hl,_,_,_,hrow⟩:=hM.get hk;have hget:(aG M a.obj).l[j]? =some ((aG M a.obj).l.getD j ⟨0,0⟩):=by
   rw[List.getD_eq_getElem?_getD,List.getElem?_eq_getElem hj];rfl
  obtain⟨ob,oo,rfl,ja,hv⟩:=hrow j _ hget;simp only;generalize (aG M a.obj).l.getD j ⟨0,0⟩=v at hv;by_cases hp:0<v.obj
  ·rw[if_pos hp];by_cases ho:op=8
   ·rw[if_pos ho];exact JY pb po mb mo n aA B op a M w hB hpb hc hM hk hx0 hx h0 h1 ob oo len cap' j v (by omega) c1 hv hF hp ho
   ·rw[if_neg ho];exact JZ pb po mb mo n aA B op a M w hB hpb hc hM hk hx0 hx h0 h1 ob oo len cap' j v (by omega) c1 hv hF hp ho
  ·rw[if_neg hp];exact O0 pb po mb mo n aA B op a M w hB hpb hc hM hk hx0 hx h0 h1 ob oo len cap' j v (by omega) c1 hv hF hp
end Go.Proofs.YtinmgbodgecoeaaGreat
