/- The page's machine: every call. Conditions: as stated. EqLongs, EqOutcome: of what reads the same. Conditions: as stated. Programs that read the same are the same. Conditions: as stated. gantletlaw7.wakes, num. No condition. -/
import Derived.Test.YtikbdplllopjlaaGreatCallCZz
import Derived.Test.YtikbdplllopjlaaGreatCallDZz
import Derived.Test.YtikbdplllopjlaaGreatCopyEZz
set_option linter.unusedVariables false
set_option linter.unusedSimpArgs false
set_option maxHeartbeats 8000000
set_option maxRecDepth 100000
open Go.Proofs.Tryz
namespace Go.Proofs.YtikbdplllopjlaaGreat
open Go.RowKit
theorem F7{p:aM}(hp:sP p){ah:Int}(hf:ah<=100000000):∀(d:Nat)(c:Int),c=64-(d:Int)->PR (mF p ah d) ah p c
 |0,c,hc=>by
  intro ai mc own P s f g args AA an fX w hM hP hI hcs hg OH eF II Ex yF;exact Ma ai mc own P ah p s f g args AA an fX w hM hP hI hf hg hI.calls (by omega)
 |d+1,c,hc=>by
  intro ai mc own P s f g args AA an fX w hM hP hI hcs hg OH eF II Ex yF;have hfn:=hp.fns g (List.mem_of_getElem? hg);obtain⟨nt,uZ,Ra,df⟩:=hfn.nt;have XT:=hfn.params;have gJ:∀o,o∈g.az->q9 o:=λo ho=>(hfn.Uo o ho).1;by_cases hy:(aW ah (aS g.az) {s with calls:=s.calls+1,deep:=max s.deep (s.calls+1)}).1=true
  ·rw[yP hg uZ hy];obtain⟨_,pU,_⟩:=cO hy;simp only at pU;obtain⟨k1,k2,k3,k4,k5⟩:=p7 hfn uZ hI Ex (by omega) yF hf (by omega);exact RP ai mc own P ah p s f g args AA an fX w hM hP hI hf hg hI.calls (mF p ah d) (by omega) hI.deep nt uZ Ra gJ hfn.az eF II (by omega) ⟨k1,k2,k5⟩ hfn.one (λb hb=>⟨(df b hb).fin,(df b hb).next,(df b hb).els,λh=>((df b hb).cond h).1,λx hx=>O7 _ ah hf p _ nt g.az.length x (F7 hp hf d (s.calls+1) (by omega)) (λc=>yO hp hf d c) ((df b hb).steps x hx)⟩) hy
  ·rw[vC hg (by simpa using hy)];exact Pe ai mc own P ah p s f g args AA an fX w hM hP hI hf hg hI.calls (by omega) hI.deep nt uZ Ra gJ hfn.az (by simpa using hy)
def fU(w:World)(v:Value)(l:List Int):Prop:=
 ∃A c,v= .slice A l.length c/\l.length<=c/\c<=9223372036854775807/\(0<l.length->∃b off,A=some ⟨b,off,none⟩/\b<w.heap.size/\∀k x,l[k]? =some x->w.cell? ⟨b,off+k,none⟩=some (.int .i64 x))
theorem fU.below{w w':World}{v:Value}{l:List Int}(h:fU w v l)(hb:Below w.heap.size w w'):fU w' v l:=by
 obtain⟨A,c,h0,h1,h2,h3⟩:=h;refine⟨A,c,h0,h1,h2,λhp=>?_⟩;obtain⟨b,off,hA,hlt,hc⟩:=h3 hp;have:=hb.size;exact⟨b,off,hA,by omega,λk x hk=>ag (hc k x hk) hb hlt⟩
theorem fU.yx{w:World}{ai:Nat}{e:TypeId}{v:Value}{l:List Int}(h:w.ownsRow ai e 1 v l.length (l.map (Value.int .i64))):fU w v l:=by
 have hc:=λg=>h.cells (g:=g);obtain⟨_,h|⟨g,c,cur,hv,_,hh,h1,h2,_⟩⟩:=h
 ·exact⟨none,0,by rw[h.1,h.2],by omega,by omega,λhp=>by omega⟩
 ·unfold maxLen at h2;refine⟨_,c,hv,by omega,by omega,λhp=>⟨g,0,rfl,Row.lt hh,λk x hk=>?_⟩⟩;have:=hc g (by rw[hv];rfl) k (.int .i64 x) (by rw[List.getElem?_map,hk];rfl);rw[uJ]at this;rw[Nat.zero_add];exact this
theorem DR(l:List Int)(v v':Value)(w:World)(hv:fU w v l)(hu:fU w v' l):
  Calls prog 16 #[v,v'] w λe w'=>e= .returned (.bool true)/\Below w.heap.size w w':=by
 obtain⟨A,c,rfl,hlc,hcm,hA⟩:=hv;obtain⟨A',c',rfl,_,_,hA'⟩:=hu;have Lm:l.length<=9223372036854775807:=by omega
 have hb0:((l.length:Int) !=(l.length:Int))=false:=by simp
 have HA:=ae hA;have PN:=ae hA';clear hA hA';go_enter func16,ntmps16;go_wp2_with fail;go_loopw [5] (λi wr=>∃k:Nat,k<=l.length/\i= .int .i64 k/\Below w.heap.size w wr) (λi _=>l.length-(intOf i).toNat)
 case atStart=>exact⟨0,by omega,rfl,bI _ _⟩
 case round=>
  obtain⟨k,hk2,rfl,aG⟩:=hrel;by_cases hlt:k<l.length
  ·obtain⟨x,hx⟩:∃x,l[k]? =some x:=⟨_,List.getElem?_eq_getElem hlt⟩
   obtain⟨b,off,rfl,hb,hc⟩:=HA (by omega);obtain⟨b',off',rfl,hb',hc'⟩:=PN (by omega);have e1:wr.cell? ⟨b,off+k,none⟩=some (.int .i64 x):=ag (hc k x hx) aG hb;have e2:wr.cell? ⟨b',off'+k,none⟩=some (.int .i64 x):=ag (hc' k x hx) aG hb';have eY:(k:Int)<(l.length:Int):=by omega
   have QT:(x !=x)=false:=by simp
   clear hx hc hc';go_wp2_with fail;go_quiet (fail);go_wp2_with fail;go_roundw
   case rel=>exact⟨k+1,by omega,by go_num,below_drewN aG _⟩
   case measure=>simp[intOf];omega
  ·obtain rfl:k=l.length:=by omega
   go_wp2_with fail;go_ret;exact⟨rfl,aG⟩
theorem Ja(o:sX)(v v':Value)(w:World)(hv:fU w v o.out)(hu:fU w v' o.out):
  Calls prog 14 #[.agg #[.int .i64 o.kind,.int .i64 o.code,v,.int .i64 o.steps,.int .i64 o.deep],.agg #[.int .i64 o.kind,.int .i64 o.code,v',.int .i64 o.steps,.int .i64 o.deep]] w λe w'=>e= .returned (.bool true)/\Below w.heap.size w w':=by
 have e1:(o.kind==o.kind)=true:=by simp
 have e2:(o.code==o.code)=true:=by simp
 have e3:(o.steps==o.steps)=true:=by simp
 have e4:(o.deep==o.deep)=true:=by simp
 have HV:=ae hv;have HU:=ae hu;clear hv hu;go_enter func14,ntmps14;go_wp2_with fail;have hb:=aJ w (Obj.cells #[.int .i64 o.kind,.int .i64 o.code,v,.int .i64 o.steps,.int .i64 o.deep] 40) (Obj.cells #[.int .i64 o.kind,.int .i64 o.code,v',.int .i64 o.steps,.int .i64 o.deep] 40);refine(DR o.out v v' _ (HV.below hb) (HU.below hb)).mono ?_;rintro e w1 ⟨rfl,hb1⟩;have c3:w1.cell? ⟨w.heap.size,3,none⟩=some (.int .i64 o.steps):=ag (by simp[go_sem]) hb1 (by simp[go_sem]);have c4:w1.cell? ⟨w.heap.size,4,none⟩=some (.int .i64 o.deep):=ag (by simp[go_sem]) hb1 (by simp[go_sem]);have d3:w1.cell? ⟨w.heap.size+1,3,none⟩=some (.int .i64 o.steps):=ag (by simp[go_sem]) hb1 (by simp[go_sem])
 have d4:w1.cell? ⟨w.heap.size+1,4,none⟩=some (.int .i64 o.deep):=ag (by simp[go_sem]) hb1 (by simp[go_sem]);have hb2:=hb.trans (hb1.mono (by simp[go_sem];try omega));clear hb hb1;go_wp2_with fail;go_ret;exact⟨rfl,hb2⟩
theorem lQ(l:List Int)(A A':Option Addr)(c c':Nat)(B:Nat)(w:World)(hB:B<=w.heap.size)(hv:bE w B l (.slice A l.length c))(hu:bE w B l (.slice A' l.length c')):
  Calls prog 16 #[.slice A l.length c,.slice A' l.length c'] w λe w'=>e= .returned (.bool true)/\Below w.heap.size w w':=by
 have Lm:=(aL.len hv).2;have hb0:((l.length:Int) !=(l.length:Int))=false:=by simp
 have HA:=ae hv;have PN:=ae hu;clear hv hu;go_enter func16,ntmps16;go_wp2_with fail;go_loopw [5] (λi wr=>∃k:Nat,k<=l.length/\i= .int .i64 k/\Below w.heap.size w wr) (λi _=>l.length-(intOf i).toNat)
 case atStart=>exact⟨0,by omega,rfl,bI _ _⟩
 case round=>
  obtain⟨k,hk2,rfl,aG⟩:=hrel;by_cases hlt:k<l.length
  ·obtain⟨b,off,x,rfl,hb,hx,e1,_⟩:=aL.get (bE.below HA (aG.mono hB) (aN _)) hlt;obtain⟨b',off',x',rfl,hb',Wp,e2,_⟩:=aL.get (bE.below PN (aG.mono hB) (aN _)) hlt;obtain rfl:x=x':=Option.some.inj (hx.symm.trans Wp);simp only[Nat.add_zero,Nat.mul_one]at e1 e2;have eY:(k:Int)<(l.length:Int):=by omega
   have QT:(x !=x)=false:=by simp
   clear hx Wp;go_wp2_with fail;go_quiet (fail);go_wp2_with fail;go_roundw
   case rel=>exact⟨k+1,by omega,by go_num,below_drewN aG _⟩
   case measure=>simp[intOf];omega
  ·obtain rfl:k=l.length:=by omega
   go_wp2_with fail;go_ret;exact⟨rfl,aG⟩
theorem LS(x:jR)(B:Nat)(w:World)(c c':Nat->Option Value)(v0 v1 v2 u0 u1 u2:Value)(hB:B<=w.heap.size)(hx:rf w B c x)(hy:rf w B c' x)(k0:c 0=some v0)(m0:c' 0=some u0)(k1:c 1=some v1)(m1:c' 1=some u1)(k2:c 2=some v2)(m2:c' 2=some u2):
  Calls prog 54 #[.agg #[v0,v1,v2],.agg #[u0,u1,u2]] w λe w'=>e= .returned (.bool true)/\Below w.heap.size w w':=by
 obtain⟨A2,c2,h0,h1,h2,r2,i0,i1⟩:=hx.shape;obtain⟨BL,BC,g0,g1,g2,CQ,Fe,AV⟩:=hy.shape;rw[h0]at k0;injection k0 with k0;subst k0;rw[g0]at m0;injection m0 with m0;subst m0;rw[h1]at k1;injection k1 with k1;subst k1;rw[g1]at m1;injection m1 with m1;subst m1;rw[h2]at k2;injection k2 with k2;subst k2;rw[g2]at m2;injection m2 with m2;subst m2;have e0:(x.size==x.size)=true:=by simp
 have e1:(x.count==x.count)=true:=by simp
 have S5:=ae (λW(hb:Below w.heap.size w W)=>lQ x.init A2 BL c2 BC B W (by have:=hb.size;omega) (r2.below (hb.mono hB) (aN _)) (CQ.below (hb.mono hB) (aN _)));have HB:=ae (aJ w (.cells #[.int .i64 x.size,.int .i64 x.count,.slice A2 x.init.length c2] 85) (.cells #[.int .i64 x.size,.int .i64 x.count,.slice BL x.init.length BC] 85));clear hx hy h0 g0 h1 g1 h2 g2 r2 CQ i0 Fe i1 AV;go_enter func54,ntmps54;refine ak λQ HQ=>?_;go_wp2_with fail;refine(S5 _ (by exact HB.out)).mono ?_;rintro e w1 ⟨rfl,hb0⟩;have hz0:w.heap.size+1+1<=w1.heap.size:=by have:=hb0.size;first|omega|(simp at this;omega)
 have BI:=ae (HB.trans (hb0.mono (by first|omega|(simp<;>omega))));clear hb0;go_wp2_with fail;refine HQ _ _ _ ?_;exact aR (v:= .bool true) (by simp[results,results54,go_sem]) rfl ⟨rfl,BI.out⟩
theorem Bv(l:List jR)(A A':Option Addr)(aA cap':Nat)(B:Nat)(w:World)(hB:B<=w.heap.size)(hv:aL w B 3 (rf w B) l (.slice A l.length aA))(hu:aL w B 3 (rf w B) l (.slice A' l.length cap')):
  Calls prog 31 #[.slice A l.length aA,.slice A' l.length cap'] w λe w'=>e= .returned (.bool true)/\Below w.heap.size w w':=by
 have Lm:=(aL.len hv).2;have hb0:((l.length:Int) !=(l.length:Int))=false:=by simp
 have HA:=ae hv;have PN:=ae hu;clear hv hu;go_enter func31,ntmps31;go_wp2_with fail;go_loopw [5] (λi wr=>∃k:Nat,k<=l.length/\i= .int .i64 k/\Below w.heap.size w wr) (λi _=>l.length-(intOf i).toNat)
 case atStart=>exact⟨0,by omega,rfl,bI _ _⟩
 case round=>
  obtain⟨k,hk2,rfl,aG⟩:=hrel;by_cases hlt:k<l.length
  ·obtain⟨b,off,x,rfl,hb,bA,hx⟩:=(HA.below (aG.mono hB) (aN _) (λ_ _ h=>h.below (aG.mono hB) (aN _))).get hlt;obtain⟨b',off',x',rfl,hb',pV,hy⟩:=(PN.below (aG.mono hB) (aN _) (λ_ _ h=>h.below (aG.mono hB) (aN _))).get hlt;obtain rfl:x=x':=Option.some.inj (bA.symm.trans pV);obtain⟨A2,c2,h0,h1,h2,r2,i0,i1⟩:=hx.shape;obtain⟨BL,BC,g0,g1,g2,CQ,Fe,AV⟩:=hy.shape;have HC:=ae (λW(hb:Below wr.heap.size wr W)=>LS x B W _ _ (.int .i64 x.size) (.int .i64 x.count) (.slice A2 x.init.length c2) (.int .i64 x.size) (.int .i64 x.count) (.slice BL x.init.length BC) (by have:=hb.size;have:=aG.size;omega) (hx.below (hb.mono (by have:=aG.size;omega)) (aN _)) (hy.below (hb.mono (by have:=aG.size;omega)) (aN _)) h0 g0 h1 g1 h2 g2)
   simp only[Nat.add_zero]at h0 g0 h1 g1 h2 g2;have eY:(k:Int)<(l.length:Int):=by omega
   clear bA pV hx hy r2 CQ i0 Fe i1 AV;go_wp2;go_still_tail 8,(by kernel_rfl)
   go_wp2_with fail;refine(HC _ (bI _ _).drew).mono ?_;rintro e w1 ⟨rfl,hb1⟩;go_wp2_with fail;go_roundw
   case rel=>exact⟨k+1,by omega,by go_num,aG.drew.trans (hb1.mono (show w.heap.size<=wr.drew.heap.size from aG.size))⟩
   case measure=>simp[intOf];omega
  ·obtain rfl:k=l.length:=by omega
   go_wp2_with fail;go_ret;exact⟨rfl,aG⟩
theorem I8(x:cM)(B:Nat)(w:World)(c c':Nat->Option Value)(v0 v1 v2 v3 v4 u0 u1 u2 u3 u4:Value)(hB:B<=w.heap.size)(hx:gA w B c x)(hy:gA w B c' x)(k0:c 0=some v0)(m0:c' 0=some u0)(k1:c 1=some v1)(m1:c' 1=some u1)(k2:c 2=some v2)(m2:c' 2=some u2)(k3:c 3=some v3)(m3:c' 3=some u3)(k4:c 4=some v4)(m4:c' 4=some u4):
  Calls prog 122 #[.agg #[v0,v1,v2,v3,v4],.agg #[u0,u1,u2,u3,u4]] w λe w'=>e= .returned (.bool true)/\Below w.heap.size w w':=by
 obtain⟨A4,c4,h0,h1,h2,h3,h4,r4,i0,i1,i2,i3⟩:=hx.shape;obtain⟨We,Vb,g0,g1,g2,g3,g4,Wl,Fe,AV,Uu,XC⟩:=hy.shape;rw[h0]at k0;injection k0 with k0;subst k0;rw[g0]at m0;injection m0 with m0;subst m0;rw[h1]at k1;injection k1 with k1;subst k1;rw[g1]at m1;injection m1 with m1;subst m1;rw[h2]at k2;injection k2 with k2;subst k2;rw[g2]at m2;injection m2 with m2;subst m2;rw[h3]at k3;injection k3 with k3;subst k3;rw[g3]at m3;injection m3 with m3;subst m3;rw[h4]at k4;injection k4 with k4;subst k4;rw[g4]at m4;injection m4 with m4;subst m4;have e0:(x.op==x.op)=true:=by simp
 have e1:(x.to==x.to)=true:=by simp
 have e2:(x.size==x.size)=true:=by simp
 have e3:(x.fn==x.fn)=true:=by simp
 have ZC:=ae (λW(hb:Below w.heap.size w W)=>fZ (p:=x.args=x.args) rfl▸Bt (T.sizes x.args) (lO _) x.args x.args A4 We x.args.length x.args.length c4 Vb B W (aN _) (by have:=hb.size;omega) (r4.below (hb.mono hB) (aN _)) (Wl.below (hb.mono hB) (aN _)));have HB:=ae (aJ w (.cells #[.int .i64 x.op,.int .i64 x.to,.int .i64 x.size,.int .i64 x.fn,.slice A4 x.args.length c4] 96) (.cells #[.int .i64 x.op,.int .i64 x.to,.int .i64 x.size,.int .i64 x.fn,.slice We x.args.length Vb] 96));clear hx hy h0 g0 h1 g1 h2 g2 h3 g3 h4 g4 r4 Wl i0 Fe i1 AV i2 Uu i3 XC;go_enter func122,ntmps122;refine ak λQ HQ=>?_;go_wp2_with fail;refine(ZC _ (by exact HB.out)).mono ?_;rintro e w1 ⟨rfl,hb0⟩
 have hz0:w.heap.size+1+1<=w1.heap.size:=by have:=hb0.size;first|omega|(simp at this;omega)
 have BI:=ae (HB.trans (hb0.mono (by first|omega|(simp<;>omega))));clear hb0;go_wp2_with fail;refine HQ _ _ _ ?_;exact aR (v:= .bool true) (by simp[results,results122,go_sem]) rfl ⟨rfl,BI.out⟩
theorem FR(l:List cM)(A A':Option Addr)(aA cap':Nat)(B:Nat)(w:World)(hB:B<=w.heap.size)(hv:aL w B 5 (gA w B) l (.slice A l.length aA))(hu:aL w B 5 (gA w B) l (.slice A' l.length cap')):
  Calls prog 112 #[.slice A l.length aA,.slice A' l.length cap'] w λe w'=>e= .returned (.bool true)/\Below w.heap.size w w':=by
 have Lm:=(aL.len hv).2;have hb0:((l.length:Int) !=(l.length:Int))=false:=by simp
 have HA:=ae hv;have PN:=ae hu;clear hv hu;go_enter func112,ntmps112;go_wp2_with fail;go_loopw [5] (λi wr=>∃k:Nat,k<=l.length/\i= .int .i64 k/\Below w.heap.size w wr) (λi _=>l.length-(intOf i).toNat)
 case atStart=>exact⟨0,by omega,rfl,bI _ _⟩
 case round=>
  obtain⟨k,hk2,rfl,aG⟩:=hrel;by_cases hlt:k<l.length
  ·obtain⟨b,off,x,rfl,hb,bA,hx⟩:=(HA.below (aG.mono hB) (aN _) (λ_ _ h=>h.below (aG.mono hB) (aN _))).get hlt;obtain⟨b',off',x',rfl,hb',pV,hy⟩:=(PN.below (aG.mono hB) (aN _) (λ_ _ h=>h.below (aG.mono hB) (aN _))).get hlt;obtain rfl:x=x':=Option.some.inj (bA.symm.trans pV);obtain⟨A4,c4,h0,h1,h2,h3,h4,r4,i0,i1,i2,i3⟩:=hx.shape;obtain⟨We,Vb,g0,g1,g2,g3,g4,Wl,Fe,AV,Uu,XC⟩:=hy.shape
   have HC:=ae (λW(hb:Below wr.heap.size wr W)=>I8 x B W _ _ (.int .i64 x.op) (.int .i64 x.to) (.int .i64 x.size) (.int .i64 x.fn) (.slice A4 x.args.length c4) (.int .i64 x.op) (.int .i64 x.to) (.int .i64 x.size) (.int .i64 x.fn) (.slice We x.args.length Vb) (by have:=hb.size;have:=aG.size;omega) (hx.below (hb.mono (by have:=aG.size;omega)) (aN _)) (hy.below (hb.mono (by have:=aG.size;omega)) (aN _)) h0 g0 h1 g1 h2 g2 h3 g3 h4 g4);simp only[Nat.add_zero]at h0 g0 h1 g1 h2 g2 h3 g3 h4 g4;have eY:(k:Int)<(l.length:Int):=by omega
   clear bA pV hx hy r4 Wl i0 Fe i1 AV i2 Uu i3 XC;go_wp2;go_still_tail 8,(by kernel_rfl)
   go_wp2_with fail;refine(HC _ (bI _ _).drew).mono ?_;rintro e w1 ⟨rfl,hb1⟩;go_wp2_with fail;go_roundw
   case rel=>exact⟨k+1,by omega,by go_num,aG.drew.trans (hb1.mono (show w.heap.size<=wr.drew.heap.size from aG.size))⟩
   case measure=>simp[intOf];omega
  ·obtain rfl:k=l.length:=by omega
   go_wp2_with fail;go_ret;exact⟨rfl,aG⟩
theorem FU(x:bW)(B:Nat)(w:World)(c c':Nat->Option Value)(v0 v1 v2 v3 v4 v5 v6 u0 u1 u2 u3 u4 u5 u6:Value)(hB:B<=w.heap.size)(hx:dX w B c x)(hy:dX w B c' x)(k0:c 0=some v0)(m0:c' 0=some u0)(k1:c 1=some v1)(m1:c' 1=some u1)(k2:c 2=some v2)(m2:c' 2=some u2)(k3:c 3=some v3)(m3:c' 3=some u3)(k4:c 4=some v4)(m4:c' 4=some u4)(k5:c 5=some v5)(m5:c' 5=some u5)(k6:c 6=some v6)(m6:c' 6=some u6):
  Calls prog 92 #[.agg #[v0,v1,v2,v3,v4,v5,v6],.agg #[u0,u1,u2,u3,u4,u5,u6]] w λe w'=>e= .returned (.bool true)/\Below w.heap.size w w':=by
 obtain⟨A0,c0,a2,b2,A2,n2,c2,h0,h1,h2,h3,h4,h5,h6,r0,r2,i1,i5,i6⟩:=hx.shape;obtain⟨Qr,Qh,VH,VB,BL,Up,BC,g0,g1,g2,g3,g4,g5,g6,QC,CQ,AV,XB,Xz⟩:=hy.shape;rw[h0]at k0;injection k0 with k0;subst k0;rw[g0]at m0;injection m0 with m0;subst m0;rw[h1]at k1;injection k1 with k1;subst k1;rw[g1]at m1;injection m1 with m1;subst m1;rw[h2]at k2;injection k2 with k2;subst k2;rw[g2]at m2;injection m2 with m2;subst m2;rw[h3]at k3;injection k3 with k3;subst k3;rw[g3]at m3;injection m3 with m3;subst m3;rw[h4]at k4;injection k4 with k4;subst k4;rw[g4]at m4;injection m4 with m4;subst m4;rw[h5]at k5;injection k5 with k5;subst k5;rw[g5]at m5;injection m5 with m5;subst m5;rw[h6]at k6;injection k6 with k6;subst k6;rw[g6]at m6;injection m6 with m6;subst m6
 have JE:=ae (λW(hb:Below w.heap.size w W)=>FR x.steps A0 Qr c0 Qh B W (by have:=hb.size;omega) (r0.below (hb.mono hB) (aN _) (λ_ _ h=>h.below (hb.mono hB) (aN _))) (QC.below (hb.mono hB) (aN _) (λ_ _ h=>h.below (hb.mono hB) (aN _))));have e1:(x.fin==x.fin)=true:=by simp
 have S5:=ae (λW(hb:Below w.heap.size w W)=>fZ (p:=x.cond=x.cond) rfl▸lO x.cond.size x.cond x.cond B W _ _ _ _ _ _ (aN _) (by have:=hb.size;omega) (r2.below (hb.mono hB) (aN _)) (CQ.below (hb.mono hB) (aN _)));have e5:(x.next==x.next)=true:=by simp
 have e6:(x.els==x.els)=true:=by simp
 have HB:=ae (aJ w (.cells #[.slice A0 x.steps.length c0,.int .i64 x.fin,.int .i64 a2,.int .i64 b2,.slice A2 n2 c2,.int .i64 x.next,.int .i64 x.els] 93) (.cells #[.slice Qr x.steps.length Qh,.int .i64 x.fin,.int .i64 VH,.int .i64 VB,.slice BL Up BC,.int .i64 x.next,.int .i64 x.els] 93));clear hx hy h0 g0 h1 g1 h2 g2 h3 g3 h4 g4 h5 g5 h6 g6 r0 QC r2 CQ i1 AV i5 XB i6 Xz;go_enter func92,ntmps92;refine ak λQ HQ=>?_;go_wp2_with fail;refine(JE _ (by exact HB.out)).mono ?_;rintro e w1 ⟨rfl,hb0⟩;have hz0:w.heap.size+1+1<=w1.heap.size:=by have:=hb0.size;first|omega|(simp at this;omega)
 have p01:w1.cell? ⟨w.heap.size,1,none⟩=some (.int .i64 x.fin):=ag (by simp[go_sem]) hb0 (by first|omega|(simp<;>omega));have zM:w1.cell? ⟨w.heap.size+1,1,none⟩=some (.int .i64 x.fin):=ag (by simp[go_sem]) hb0 (by first|omega|(simp<;>omega));have p02:w1.cell? ⟨w.heap.size,2,none⟩=some (.int .i64 a2):=ag (by simp[go_sem]) hb0 (by first|omega|(simp<;>omega));have zo:w1.cell? ⟨w.heap.size+1,2,none⟩=some (.int .i64 VH):=ag (by simp[go_sem]) hb0 (by first|omega|(simp<;>omega));have p03:w1.cell? ⟨w.heap.size,3,none⟩=some (.int .i64 b2):=ag (by simp[go_sem]) hb0 (by first|omega|(simp<;>omega));have Ew:w1.cell? ⟨w.heap.size+1,3,none⟩=some (.int .i64 VB):=ag (by simp[go_sem]) hb0 (by first|omega|(simp<;>omega))
 have p04:w1.cell? ⟨w.heap.size,4,none⟩=some (.slice A2 n2 c2):=ag (by simp[go_sem]) hb0 (by first|omega|(simp<;>omega));have Np:w1.cell? ⟨w.heap.size+1,4,none⟩=some (.slice BL Up BC):=ag (by simp[go_sem]) hb0 (by first|omega|(simp<;>omega));have p05:w1.cell? ⟨w.heap.size,5,none⟩=some (.int .i64 x.next):=ag (by simp[go_sem]) hb0 (by first|omega|(simp<;>omega));have PW:w1.cell? ⟨w.heap.size+1,5,none⟩=some (.int .i64 x.next):=ag (by simp[go_sem]) hb0 (by first|omega|(simp<;>omega));have p06:w1.cell? ⟨w.heap.size,6,none⟩=some (.int .i64 x.els):=ag (by simp[go_sem]) hb0 (by first|omega|(simp<;>omega));have PV:w1.cell? ⟨w.heap.size+1,6,none⟩=some (.int .i64 x.els):=ag (by simp[go_sem]) hb0 (by first|omega|(simp<;>omega))
 have BI:=ae (HB.trans (hb0.mono (by first|omega|(simp<;>omega))));clear hb0;go_wp2_with fail;refine(S5 _ (by exact BI.out)).mono ?_;rintro e w2 ⟨rfl,hb1⟩;have hz1:w.heap.size+1+1<=w2.heap.size:=by have:=hb1.size;first|omega|(simp at this;omega)
 have p15:w2.cell? ⟨w.heap.size,5,none⟩=some (.int .i64 x.next):=ag (p05) hb1 (by first|omega|(simp<;>omega));have q15:w2.cell? ⟨w.heap.size+1,5,none⟩=some (.int .i64 x.next):=ag (PW) hb1 (by first|omega|(simp<;>omega));have p16:w2.cell? ⟨w.heap.size,6,none⟩=some (.int .i64 x.els):=ag (p06) hb1 (by first|omega|(simp<;>omega));have q16:w2.cell? ⟨w.heap.size+1,6,none⟩=some (.int .i64 x.els):=ag (PV) hb1 (by first|omega|(simp<;>omega));have bn:=ae (BI.trans (hb1.mono (by first|omega|(simp<;>omega))));clear hb1;go_wp2_with fail;refine HQ _ _ _ ?_;exact aR (v:= .bool true) (by simp[results,results92,go_sem]) rfl ⟨rfl,bn.out⟩
theorem DU(l:List bW)(A A':Option Addr)(aA cap':Nat)(B:Nat)(w:World)(hB:B<=w.heap.size)(hv:aL w B 7 (dX w B) l (.slice A l.length aA))(hu:aL w B 7 (dX w B) l (.slice A' l.length cap')):
  Calls prog 69 #[.slice A l.length aA,.slice A' l.length cap'] w λe w'=>e= .returned (.bool true)/\Below w.heap.size w w':=by
 have Lm:=(aL.len hv).2;have hb0:((l.length:Int) !=(l.length:Int))=false:=by simp
 have HA:=ae hv;have PN:=ae hu;clear hv hu;go_enter func69,ntmps69;go_wp2_with fail;go_loopw [5] (λi wr=>∃k:Nat,k<=l.length/\i= .int .i64 k/\Below w.heap.size w wr) (λi _=>l.length-(intOf i).toNat)
 case atStart=>exact⟨0,by omega,rfl,bI _ _⟩
 case round=>
  obtain⟨k,hk2,rfl,aG⟩:=hrel;by_cases hlt:k<l.length
  ·obtain⟨b,off,x,rfl,hb,bA,hx⟩:=(HA.below (aG.mono hB) (aN _) (λ_ _ h=>h.below (aG.mono hB) (aN _))).get hlt;obtain⟨b',off',x',rfl,hb',pV,hy⟩:=(PN.below (aG.mono hB) (aN _) (λ_ _ h=>h.below (aG.mono hB) (aN _))).get hlt;obtain rfl:x=x':=Option.some.inj (bA.symm.trans pV);obtain⟨A0,c0,a2,b2,A2,n2,c2,h0,h1,h2,h3,h4,h5,h6,r0,r2,i1,i5,i6⟩:=hx.shape;obtain⟨Qr,Qh,VH,VB,BL,Up,BC,g0,g1,g2,g3,g4,g5,g6,QC,CQ,AV,XB,Xz⟩:=hy.shape
   have HC:=ae (λW(hb:Below wr.heap.size wr W)=>FU x B W _ _ (.slice A0 x.steps.length c0) (.int .i64 x.fin) (.int .i64 a2) (.int .i64 b2) (.slice A2 n2 c2) (.int .i64 x.next) (.int .i64 x.els) (.slice Qr x.steps.length Qh) (.int .i64 x.fin) (.int .i64 VH) (.int .i64 VB) (.slice BL Up BC) (.int .i64 x.next) (.int .i64 x.els) (by have:=hb.size;have:=aG.size;omega) (hx.below (hb.mono (by have:=aG.size;omega)) (aN _)) (hy.below (hb.mono (by have:=aG.size;omega)) (aN _)) h0 g0 h1 g1 h2 g2 h3 g3 h4 g4 h5 g5 h6 g6);simp only[Nat.add_zero]at h0 g0 h1 g1 h2 g2 h3 g3 h4 g4 h5 g5 h6 g6;have eY:(k:Int)<(l.length:Int):=by omega
   clear bA pV hx hy r0 QC r2 CQ i1 AV i5 XB i6 Xz;go_wp2;go_still_tail 8,(by kernel_rfl)
   go_wp2_with fail;refine(HC _ (bI _ _).drew).mono ?_;rintro e w1 ⟨rfl,hb1⟩;go_wp2_with fail;go_roundw
   case rel=>exact⟨k+1,by omega,by go_num,aG.drew.trans (hb1.mono (show w.heap.size<=wr.drew.heap.size from aG.size))⟩
   case measure=>simp[intOf];omega
  ·obtain rfl:k=l.length:=by omega
   go_wp2_with fail;go_ret;exact⟨rfl,aG⟩
theorem FT(x:aP)(B:Nat)(w:World)(c c':Nat->Option Value)(v0 v1 v2 v3 u0 u1 u2 u3:Value)(hB:B<=w.heap.size)(hx:dV w B c x)(hy:dV w B c' x)(k0:c 0=some v0)(m0:c' 0=some u0)(k1:c 1=some v1)(m1:c' 1=some u1)(k2:c 2=some v2)(m2:c' 2=some u2)(k3:c 3=some v3)(m3:c' 3=some u3):
  Calls prog 55 #[.agg #[v0,v1,v2,v3],.agg #[u0,u1,u2,u3]] w λe w'=>e= .returned (.bool true)/\Below w.heap.size w w':=by
 obtain⟨A2,c2,A3,c3,h0,h1,h2,h3,r2,r3,i0,i1⟩:=hx.shape;obtain⟨BL,BC,TW,TK,g0,g1,g2,g3,CQ,Wm,Fe,AV⟩:=hy.shape;rw[h0]at k0;injection k0 with k0;subst k0;rw[g0]at m0;injection m0 with m0;subst m0;rw[h1]at k1;injection k1 with k1;subst k1;rw[g1]at m1;injection m1 with m1;subst m1;rw[h2]at k2;injection k2 with k2;subst k2;rw[g2]at m2;injection m2 with m2;subst m2;rw[h3]at k3;injection k3 with k3;subst k3;rw[g3]at m3;injection m3 with m3;subst m3;have e0:(x.params==x.params)=true:=by simp
 have e1:(x.ay==x.ay)=true:=by simp
 have S5:=ae (λW(hb:Below w.heap.size w W)=>Bv x.az A2 BL c2 BC B W (by have:=hb.size;omega) (r2.below (hb.mono hB) (aN _) (λ_ _ h=>h.below (hb.mono hB) (aN _))) (CQ.below (hb.mono hB) (aN _) (λ_ _ h=>h.below (hb.mono hB) (aN _))));have S4:=ae (λW(hb:Below w.heap.size w W)=>DU x.blocks A3 TW c3 TK B W (by have:=hb.size;omega) (r3.below (hb.mono hB) (aN _) (λ_ _ h=>h.below (hb.mono hB) (aN _))) (Wm.below (hb.mono hB) (aN _) (λ_ _ h=>h.below (hb.mono hB) (aN _))));have HB:=ae (aJ w (.cells #[.int .i64 x.params,.int .i64 x.ay,.slice A2 x.az.length c2,.slice A3 x.blocks.length c3] 54) (.cells #[.int .i64 x.params,.int .i64 x.ay,.slice BL x.az.length BC,.slice TW x.blocks.length TK] 54))
 clear hx hy h0 g0 h1 g1 h2 g2 h3 g3 r2 CQ r3 Wm i0 Fe i1 AV;go_enter func55,ntmps55;refine ak λQ HQ=>?_;go_wp2_with fail;refine(S5 _ (by exact HB.out)).mono ?_;rintro e w1 ⟨rfl,hb0⟩;have hz0:w.heap.size+1+1<=w1.heap.size:=by have:=hb0.size;first|omega|(simp at this;omega)
 have p03:w1.cell? ⟨w.heap.size,3,none⟩=some (.slice A3 x.blocks.length c3):=ag (by simp[go_sem]) hb0 (by first|omega|(simp<;>omega));have Ew:w1.cell? ⟨w.heap.size+1,3,none⟩=some (.slice TW x.blocks.length TK):=ag (by simp[go_sem]) hb0 (by first|omega|(simp<;>omega));have BI:=ae (HB.trans (hb0.mono (by first|omega|(simp<;>omega))));clear hb0;go_wp2_with fail;refine(S4 _ (by exact BI.out)).mono ?_;rintro e w2 ⟨rfl,hb1⟩;have hz1:w.heap.size+1+1<=w2.heap.size:=by have:=hb1.size;first|omega|(simp at this;omega)
 have bn:=ae (BI.trans (hb1.mono (by first|omega|(simp<;>omega))));clear hb1;go_wp2_with fail;refine HQ _ _ _ ?_;exact aR (v:= .bool true) (by simp[results,results55,go_sem]) rfl ⟨rfl,bn.out⟩
theorem DT(l:List aP)(A A':Option Addr)(aA cap':Nat)(B:Nat)(w:World)(hB:B<=w.heap.size)(hv:aL w B 4 (dV w B) l (.slice A l.length aA))(hu:aL w B 4 (dV w B) l (.slice A' l.length cap')):
  Calls prog 32 #[.slice A l.length aA,.slice A' l.length cap'] w λe w'=>e= .returned (.bool true)/\Below w.heap.size w w':=by
 have Lm:=(aL.len hv).2;have hb0:((l.length:Int) !=(l.length:Int))=false:=by simp
 have HA:=ae hv;have PN:=ae hu;clear hv hu;go_enter func32,ntmps32;go_wp2_with fail;go_loopw [5] (λi wr=>∃k:Nat,k<=l.length/\i= .int .i64 k/\Below w.heap.size w wr) (λi _=>l.length-(intOf i).toNat)
 case atStart=>exact⟨0,by omega,rfl,bI _ _⟩
 case round=>
  obtain⟨k,hk2,rfl,aG⟩:=hrel;by_cases hlt:k<l.length
  ·obtain⟨b,off,x,rfl,hb,bA,hx⟩:=(HA.below (aG.mono hB) (aN _) (λ_ _ h=>h.below (aG.mono hB) (aN _))).get hlt;obtain⟨b',off',x',rfl,hb',pV,hy⟩:=(PN.below (aG.mono hB) (aN _) (λ_ _ h=>h.below (aG.mono hB) (aN _))).get hlt;obtain rfl:x=x':=Option.some.inj (bA.symm.trans pV);obtain⟨A2,c2,A3,c3,h0,h1,h2,h3,r2,r3,i0,i1⟩:=hx.shape;obtain⟨BL,BC,TW,TK,g0,g1,g2,g3,CQ,Wm,Fe,AV⟩:=hy.shape
   have HC:=ae (λW(hb:Below wr.heap.size wr W)=>FT x B W _ _ (.int .i64 x.params) (.int .i64 x.ay) (.slice A2 x.az.length c2) (.slice A3 x.blocks.length c3) (.int .i64 x.params) (.int .i64 x.ay) (.slice BL x.az.length BC) (.slice TW x.blocks.length TK) (by have:=hb.size;have:=aG.size;omega) (hx.below (hb.mono (by have:=aG.size;omega)) (aN _)) (hy.below (hb.mono (by have:=aG.size;omega)) (aN _)) h0 g0 h1 g1 h2 g2 h3 g3);simp only[Nat.add_zero]at h0 g0 h1 g1 h2 g2 h3 g3;have eY:(k:Int)<(l.length:Int):=by omega
   clear bA pV hx hy r2 CQ r3 Wm i0 Fe i1 AV;go_wp2;go_still_tail 8,(by kernel_rfl)
   go_wp2_with fail;refine(HC _ (bI _ _).drew).mono ?_;rintro e w1 ⟨rfl,hb1⟩;go_wp2_with fail;go_roundw
   case rel=>exact⟨k+1,by omega,by go_num,aG.drew.trans (hb1.mono (show w.heap.size<=wr.drew.heap.size from aG.size))⟩
   case measure=>simp[intOf];omega
  ·obtain rfl:k=l.length:=by omega
   go_wp2_with fail;go_ret;exact⟨rfl,aG⟩
theorem I9(x:aM)(B:Nat)(w:World)(c c':Nat->Option Value)(v0 v1 v2 u0 u1 u2:Value)(hB:B<=w.heap.size)(hx:kJ w B c x)(hy:kJ w B c' x)(k0:c 0=some v0)(m0:c' 0=some u0)(k1:c 1=some v1)(m1:c' 1=some u1)(k2:c 2=some v2)(m2:c' 2=some u2):
  Calls prog 15 #[.agg #[v0,v1,v2],.agg #[u0,u1,u2]] w λe w'=>e= .returned (.bool true)/\Below w.heap.size w w':=by
 obtain⟨A0,c0,A1,c1,h0,h1,h2,r0,r1,i2⟩:=hx.shape;obtain⟨Qr,Qh,A1s,c1s,g0,g1,g2,QC,r1s,Uu⟩:=hy.shape;rw[h0]at k0;injection k0 with k0;subst k0;rw[g0]at m0;injection m0 with m0;subst m0;rw[h1]at k1;injection k1 with k1;subst k1;rw[g1]at m1;injection m1 with m1;subst m1;rw[h2]at k2;injection k2 with k2;subst k2;rw[g2]at m2;injection m2 with m2;subst m2;have JE:=ae (λW(hb:Below w.heap.size w W)=>Bv x.ax A0 Qr c0 Qh B W (by have:=hb.size;omega) (r0.below (hb.mono hB) (aN _) (λ_ _ h=>h.below (hb.mono hB) (aN _))) (QC.below (hb.mono hB) (aN _) (λ_ _ h=>h.below (hb.mono hB) (aN _))))
 have S6:=ae (λW(hb:Below w.heap.size w W)=>DT x.funcs A1 A1s c1 c1s B W (by have:=hb.size;omega) (r1.below (hb.mono hB) (aN _) (λ_ _ h=>h.below (hb.mono hB) (aN _))) (r1s.below (hb.mono hB) (aN _) (λ_ _ h=>h.below (hb.mono hB) (aN _))));have e2:(x.main==x.main)=true:=by simp
 have HB:=ae (aJ w (.cells #[.slice A0 x.ax.length c0,.slice A1 x.funcs.length c1,.int .i64 x.main] 31) (.cells #[.slice Qr x.ax.length Qh,.slice A1s x.funcs.length c1s,.int .i64 x.main] 31));clear hx hy h0 g0 h1 g1 h2 g2 r0 QC r1 r1s i2 Uu;go_enter func15,ntmps15;refine ak λQ HQ=>?_;go_wp2_with fail;refine(JE _ (by exact HB.out)).mono ?_;rintro e w1 ⟨rfl,hb0⟩;have hz0:w.heap.size+1+1<=w1.heap.size:=by have:=hb0.size;first|omega|(simp at this;omega)
 have p01:w1.cell? ⟨w.heap.size,1,none⟩=some (.slice A1 x.funcs.length c1):=ag (by simp[go_sem]) hb0 (by first|omega|(simp<;>omega));have zM:w1.cell? ⟨w.heap.size+1,1,none⟩=some (.slice A1s x.funcs.length c1s):=ag (by simp[go_sem]) hb0 (by first|omega|(simp<;>omega));have p02:w1.cell? ⟨w.heap.size,2,none⟩=some (.int .i64 x.main):=ag (by simp[go_sem]) hb0 (by first|omega|(simp<;>omega));have zo:w1.cell? ⟨w.heap.size+1,2,none⟩=some (.int .i64 x.main):=ag (by simp[go_sem]) hb0 (by first|omega|(simp<;>omega));have BI:=ae (HB.trans (hb0.mono (by first|omega|(simp<;>omega))));clear hb0;go_wp2_with fail;refine(S6 _ (by exact BI.out)).mono ?_;rintro e w2 ⟨rfl,hb1⟩;have hz1:w.heap.size+1+1<=w2.heap.size:=by have:=hb1.size;first|omega|(simp at this;omega)
 have p12:w2.cell? ⟨w.heap.size,2,none⟩=some (.int .i64 x.main):=ag (p02) hb1 (by first|omega|(simp<;>omega));have Wn:w2.cell? ⟨w.heap.size+1,2,none⟩=some (.int .i64 x.main):=ag (zo) hb1 (by first|omega|(simp<;>omega));have bn:=ae (BI.trans (hb1.mono (by first|omega|(simp<;>omega))));clear hb1;go_wp2_with fail;refine HQ _ _ _ ?_;exact aR (v:= .bool true) (by simp[results,results15,go_sem]) rfl ⟨rfl,bn.out⟩
theorem sH(n:Int)(w:World):Calls prog 6 #[.int .i64 n] w λe w'=>e= .returned (.int .i64 n)/\w=w':=by
 go_enter func6,ntmps6;go_wp2_with fail;go_ret;exact⟨rfl,rfl⟩
def pW:aM:=⟨[],[⟨0,0,[],[⟨[],3,.node 1 3 [],0,0⟩]⟩],0⟩
theorem JT:zD pW 5:=⟨by decide+kernel,by omega,by omega⟩
theorem Um:wV pW [] 5=⟨1,3,[],1,1⟩:=by kernel_rfl
theorem Xp(w:World):bH ((w.alloc (.cells #[.slice none 0 0,.int .i64 3,.int .i64 1,.int .i64 3,.slice none 0 0,.int .i64 0,.int .i64 0] 93)).alloc (.cells #[.int .i64 0,.int .i64 0,.slice none 0 0,.slice (some ⟨w.heap.size,0,none⟩) 1 1] 54)) (w.heap.size+2) (.slice none 0 0,.slice (some ⟨w.heap.size+1,0,none⟩) 1 1,.int .i64 0) pW:=by
 have i0:bz 0:=by unfold bz;omega
 have i1:bz 1:=by unfold bz;omega
 have i3:bz 3:=by unfold bz;omega
 have hb:Row ((w.alloc (.cells #[.slice none 0 0,.int .i64 3,.int .i64 1,.int .i64 3,.slice none 0 0,.int .i64 0,.int .i64 0] 93)).alloc (.cells #[.int .i64 0,.int .i64 0,.slice none 0 0,.slice (some ⟨w.heap.size,0,none⟩) 1 1] 54)) w.heap.size #[.slice none 0 0,.int .i64 3,.int .i64 1,.int .i64 3,.slice none 0 0,.int .i64 0,.int .i64 0] 93:=(Row.new _ _ _).alloc _;have hg:Row ((w.alloc (.cells #[.slice none 0 0,.int .i64 3,.int .i64 1,.int .i64 3,.slice none 0 0,.int .i64 0,.int .i64 0] 93)).alloc (.cells #[.int .i64 0,.int .i64 0,.slice none 0 0,.slice (some ⟨w.heap.size,0,none⟩) 1 1] 54)) (w.heap.size+1) #[.int .i64 0,.int .i64 0,.slice none 0 0,.slice (some ⟨w.heap.size,0,none⟩) 1 1] 54:=Row.new' _ _ (by simp)
 generalize ((w.alloc (.cells #[.slice none 0 0,.int .i64 3,.int .i64 1,.int .i64 3,.slice none 0 0,.int .i64 0,.int .i64 0] 93)).alloc (.cells #[.int .i64 0,.int .i64 0,.slice none 0 0,.slice (some ⟨w.heap.size,0,none⟩) 1 1] 54))=W at hb hg ⊢;refine⟨⟨none,0,rfl,by simp[pW],λh=>by simp[pW]at h⟩,⟨_,1,rfl,by simp[pW],λ_=>⟨_,0,rfl,by omega,λi x hi=>?_⟩⟩,rfl,i0⟩;rcases i with _|i
 ·simp[pW]at hi;subst hi;refine⟨hg.cell (j:=0) rfl,hg.cell (j:=1) rfl,⟨_,hg.cell (j:=2) rfl,none,0,rfl,by simp,λh=>by simp at h⟩,⟨_,hg.cell (j:=3) rfl,_,1,rfl,by simp,λ_=>⟨_,0,rfl,by omega,λi x hi=>?_⟩⟩,i0,i0⟩;rcases i with _|i
  ·simp at hi;subst hi;refine⟨⟨_,hb.cell (j:=0) rfl,none,0,rfl,by simp,λh=>by simp at h⟩,hb.cell (j:=1) rfl,⟨_,_,_,hb.cell (j:=2) rfl,hb.cell (j:=3) rfl,hb.cell (j:=4) rfl,?_⟩,hb.cell (j:=5) rfl,hb.cell (j:=6) rfl,i3,i0,i0⟩;rw[aX];exact⟨rfl,rfl,i1,i3,by simp,none,0,rfl,λh=>absurd h (by simp)⟩
  ·simp at hi
 ·simp[pW]at hi
theorem GY(w:World):Calls prog 17 #[] w λe w'=>e= .returned (.bool true)/\Below w.heap.size w w':=by
 have hb2:=aJ w (.cells #[.slice none 0 0,.int .i64 3,.int .i64 1,.int .i64 3,.slice none 0 0,.int .i64 0,.int .i64 0] 93) (.cells #[.int .i64 0,.int .i64 0,.slice none 0 0,.slice (some ⟨w.heap.size,0,none⟩) 1 1] 54);have hrun:=qH (w.heap.size+2) pW _ [] (.slice none 0 0) 5 _ (by simp) (Xp w) ⟨none,0,rfl,by simp,by simp,λh=>by simp at h⟩ (λg hg b hb=>by simp[pW]at hg;subst hg;simp at hb;subst hb;simp);rw[show Az pW [] 5=⟨1,3,[],1,1⟩from(if_pos JT).trans Um,show Br pW 5=0 from if_pos JT]at hrun;have Px:=ae hrun;have bL:=ae hb2;clear hrun hb2;go_enter func17,ntmps17;refine ak λQ HQ=>?_;go_wp2_with fail;refine Px.mono ?_;rintro e w1 ⟨u,rfl,hu,hb1⟩;have bn:=ae (bL.trans (hb1.mono bL.size))
 obtain⟨UA,uc,rfl⟩:=mU hu;clear hb1 hu;go_wp2_with fail;refine(sH _ _).mono ?_;rintro e w' ⟨rfl,rfl⟩;go_wp2_with fail;refine HQ _ _ _ ?_;refine aR (v:= .bool true) (by simp[results,results17,go_sem]) rfl ⟨rfl,bn.trans ((aj w1 _).mono bn.size)⟩
end Go.Proofs.YtikbdplllopjlaaGreat
