/- The graph's heap: a store. Conditions: as stated. How many elements objects have. Conditions: as stated. -/
import Derived.Test.YtinmgbodgecoeaaGreatQ05Zz
set_option linter.unusedSimpArgs false
set_option linter.unusedVariables false
set_option maxHeartbeats 8000000
set_option maxRecDepth 100000
open Go.Proofs.Tryz
namespace Go.Proofs.YtinmgbodgecoeaaGreat
open Go.RowKit
def JG(j:Nat)(v:V)(o:MO):MO:={o with l:=o.l.set j v}
structure E0 (w:World) (ai:Nat) (own:Nat->Prop) (hb:Nat) (aU:Value) (rb:Nat->Nat) (M:List MO):Prop where
 heap:Row w hb #[aU] 66
 mem:jq w ai own aU rb M
 memo:∀g,aU.ownBlock=some g->own g
theorem HC.Vd{w:World}{ai:Nat}{own:Nat->Prop}{cb hb:Nat}{ah:Int}{s:St}{inv outv aU:Value}{rb:Nat->Nat}(h:HC w ai own cb hb ah s inv outv aU rb):E0 w ai own hb aU rb (au s.mem):=⟨h.heap,h.mem,h.memo⟩
theorem jq.put{w:World}{ai:Nat}{own:Nat->Prop}{aU:Value}{rb:Nat->Nat}{M:List MO}(h:jq w ai own aU rb M)(k j:Nat)(v:V)(hk:k<M.tail.length)(hv:kW M.length v)(zk:(aG M (k+1)).size≠8->v.obj=0)(PH:(aG M (k+1)).live=true)(hne:aU.ownBlock≠some (rb k)):
  jq ((w.setCell ⟨rb k,j*2,none⟩ (.int .i64 v.obj)).setCell ⟨rb k,j*2+1,none⟩ (.int .i64 v.n)) ai own aU rb (M.modify (k+1) (JG j v)):=by
 have hw:=gI w (rb k) (j*2) (j*2+1) (.int .i64 v.obj) (.int .i64 v.n);obtain⟨⟨xs,hx,qO⟩,hm,hi,hok,hn⟩:=h;have oM:(M.modify (k+1) (JG j v)).tail=M.tail.modify k (JG j v):=by cases M<;>simp[List.modify_succ_cons]
 refine⟨⟨xs,by rw[oM,List.length_modify];exact aF hx hw (λg hg hf=>hne (hf▸hg)),λi o ho=>?_⟩,λi o ho=>?_,λa b ha hb=>hi a b (by simpa [oM]using ha) (by simpa [oM]using hb),?_,?_⟩
 ·rw[oM]at ho;obtain⟨o0,h0,rfl⟩:=cR ho;have h1:=qO i o0 h0;split
  ·unfold vk JG at*;simpa using h1
  ·exact h1
 ·rw[oM]at ho;obtain⟨o0,h0,rfl⟩:=cR ho;obtain⟨h1,cs,h2,h3⟩:=hm i o0 h0;have hil:i<M.tail.length:=by
   rcases Nat.lt_or_ge i M.tail.length with h|h
   ·exact h
   ·rw[List.getElem?_eq_none h]at h0;cases h0
  refine⟨h1,?_⟩;by_cases e:k=i
  ·subst e;rw[if_pos rfl];exact(show iG w (rb k) o0.l from⟨cs,h2,h3⟩).set j v
  ·rw[if_neg e];exact⟨cs,h2.wr hw (λhe=>e (hi i k hil hk he).symm),h3⟩
 ·refine⟨by simpa using hok.many,λo ho=>?_,λi o h1 ho=>?_,λo ho u hu=>?_⟩
  ·obtain⟨o0,h0,he⟩:=cR ho;rw[if_neg (by omega)]at he;subst he;exact hok.zero _ h0
  ·obtain⟨o0,h0,rfl⟩:=cR ho;have:=hok.size i o0 h1 h0;split
   ·unfold JG;simpa using this
   ·exact this
  ·rw[List.length_modify];rcases mem_modify ho with ho|⟨o0,h0,rfl⟩
   ·exact hok.vals o ho u hu
   ·rcases List.mem_or_eq_of_mem_set hu with hu|hu
    ·exact hok.vals o0 (List.mem_of_getElem? h0) u hu
    ·exact hu▸hv
 ·intro o ho hs u hu;rcases mem_modify ho with ho|⟨o0,h0,rfl⟩
  ·exact hn o ho hs u hu
  ·rcases List.mem_or_eq_of_mem_set hu with hu|hu
   ·exact hn o0 (List.mem_of_getElem? h0) hs u hu
   ·rw[hu];refine zk ?_;have:aG M (k+1)=o0:=by unfold aG;rw[List.getD_eq_getElem?_getD,h0];rfl
    rw[this];exact hs
theorem Gx(hb:Nat)(A:Option Addr)(n aA B s:Nat)(a x:V)(M:List MO)(w:World)(hB:B<=w.heap.size)(hpb:hb<w.heap.size)(hc:w.cell? ⟨hb,0,none⟩=some (.slice A n aA))(hM:bU w B A n M)(hk:a.obj≠0->a.obj<M.length)(hx:a.obj≠0->0<=a.n/\a.n<=512)(hs0:1<=s)(hs1:s<=8)(hF:sP M a s=none):
  Calls prog 81 #[.pointer (some ⟨hb,0,none⟩),.int .i64 s,.agg #[.int .i64 a.obj,.int .i64 a.n],.agg #[.int .i64 x.obj,.int .i64 x.n]] w λe w'=>e= .returned (.bool false)/\Below w.heap.size w w':=by
 have HC:=ae (λW(aJ:Below w.heap.size w W)=>GR hb A n aA B s a M W (Nat.le_trans hB aJ.size) (fQ hpb aJ.size) (ag hc aJ hpb) (hM.below (aJ.mono hB) (aY _)) hk hx hs0 hs1 hF);clear hc hM hF;go_enter func81,ntmps81;refine aj λQ HQ=>?_;go_wp2_with fail;refine(HC _ (aB _ _ _)).mono ?_;rintro e w2 ⟨rfl,hb2⟩;have bC:=ae ((aB w (.cells #[.int .i64 a.obj,.int .i64 a.n] 75) (.cells #[.int .i64 x.obj,.int .i64 x.n] 75)).trans (hb2.mono (aB w _ _).size));clear hb2;go_wp2_with fail;refine HQ _ _ _ ?_;exact aS (v:= .bool false) (by simp[results,results81,go_sem]) rfl ⟨rfl,bC.out⟩
theorem M0(hb:Nat)(A:Option Addr)(n aA B s j:Nat)(a:V)(M:List MO)(w:World)(hB:B<=w.heap.size)(hpb:hb<w.heap.size)(hc:w.cell? ⟨hb,0,none⟩=some (.slice A n aA))(hM:bU w B A n M)(hk:a.obj<M.length)(hx:0<=a.n/\a.n<=512)(hs0:1<=s)(hs1:s<=8)(hF:sP M a s=some j)
  (mb mo ob oo len cap':Nat)(hA:A=some ⟨mb,mo,none⟩)(h1:w.cell? ⟨mb,mo+(a.obj-1)*3+1,none⟩=some (.slice (some ⟨ob,oo,none⟩) len cap'))(W:World)(aJ:Below w.heap.size w W):
  Calls prog 101 #[.pointer (some ⟨hb,0,none⟩),.agg #[.int .i64 a.obj,.int .i64 a.n],.int .i64 s] W λe w'=>e= .returned (.pointer (some ⟨ob,oo+j*2,none⟩))/\Below W.heap.size W w':=by
 obtain⟨_,ob',oo',Fi,IW,len',cap'',hA',CX,_,_,hcall⟩:=wI hb _ n aA B s j a M W (Nat.le_trans hB aJ.size) (fQ hpb aJ.size) (ag hc aJ hpb) (hM.below (aJ.mono hB) (aY _)) hk hx hs0 hs1 hF;have hp:=(wU hF).1;obtain⟨mb2,mo2,hA2,hmb2,_⟩:=hM.get (k:=a.obj-1) (by omega);subst hA;simp only[Option.some.injEq,Addr.mk.injEq,and_true]at hA' hA2;obtain⟨rfl,rfl⟩:=hA';obtain⟨rfl,rfl⟩:=hA2;rw[ag h1 aJ (by omega)]at CX;simp only[Option.some.injEq,Value.slice.injEq,Addr.mk.injEq,and_true]at CX;obtain⟨⟨rfl,rfl⟩,rfl,rfl⟩:=CX;exact hcall
def x6(ob o:Nat)(v:V)(w:World)(e:Ending)(w':World):Prop:=
 e= .returned (.bool true)/\∃W,Below w.heap.size w W/\w'=(W.setCell ⟨ob,o,none⟩ (.int .i64 v.obj)).setCell ⟨ob,o+1,none⟩ (.int .i64 v.n)
theorem Kc(hb ob o s:Nat)(a x:V)(w:World)(hat:∀W,Below w.heap.size w W->Calls prog 101 #[.pointer (some ⟨hb,0,none⟩),.agg #[.int .i64 a.obj,.int .i64 a.n],.int .i64 s] W λe w'=>e= .returned (.pointer (some ⟨ob,o,none⟩))/\Below W.heap.size W w')
  (hx:x.obj≠0)(hs:s≠8):
  Calls prog 81 #[.pointer (some ⟨hb,0,none⟩),.int .i64 s,.agg #[.int .i64 a.obj,.int .i64 a.n],.agg #[.int .i64 x.obj,.int .i64 x.n]] w λe w'=>e= .returned (.bool false)/\Below w.heap.size w w':=by
 have HC:=ae hat;have hd1:decide ((0:Int)<(x.obj:Int))=true:=by simp;omega
 have hd1':decide (0<x.obj)=true:=by simp;omega
 have hd2:((s:Int) !=8)=true:=by simp;omega
 clear hat hx hs;go_enter func81,ntmps81;refine aj λQ HQ=>?_;go_wp2_with fail;refine(HC _ (aB _ _ _)).mono ?_;rintro e w2 ⟨rfl,hb2⟩;have bC:=ae ((aB w (.cells #[.int .i64 a.obj,.int .i64 a.n] 75) (.cells #[.int .i64 x.obj,.int .i64 x.n] 75)).trans (hb2.mono (aB w _ _).size));have hr:=(Row.new' (w:=w.alloc (.cells #[.int .i64 a.obj,.int .i64 a.n] 75)) #[.int .i64 x.obj,.int .i64 x.n] 75 (g:=w.heap.size+1) (by simp)).below hb2 (by simp);have r0:=hr.cell (j:=0) rfl;have r1:=hr.cell (j:=1) rfl;clear hr hb2;go_wp2_with fail;refine HQ _ _ _ ?_;exact aS (v:= .bool false) (by simp[results,results81,go_sem]) rfl ⟨rfl,bC.out⟩
theorem Kb(hb ob o s:Nat)(a:V)(xn y0 y1:Int)(w:World)(hat:∀W,Below w.heap.size w W->Calls prog 101 #[.pointer (some ⟨hb,0,none⟩),.agg #[.int .i64 a.obj,.int .i64 a.n],.int .i64 s] W λe w'=>e= .returned (.pointer (some ⟨ob,o,none⟩))/\Below W.heap.size W w')
  (hs:s=1\/s=2\/s=4\/s=8)(hn:In64 xn)(ja:ob<w.heap.size)(c0:w.cell? ⟨ob,o,none⟩=some (.int .i64 y0))(c1:w.cell? ⟨ob,o+1,none⟩=some (.int .i64 y1))(f:∀j,w.frozen? ⟨ob,j,none⟩=false):
  Calls prog 81 #[.pointer (some ⟨hb,0,none⟩),.int .i64 s,.agg #[.int .i64 a.obj,.int .i64 a.n],.agg #[.int .i64 0,.int .i64 xn]] w λe w'=>x6 ob o ⟨0,eA s xn⟩ w e w':=by
 have HC:=ae hat;have HU:=ae (λW=>Ha s xn W hs hn);have HCC:=ae (And.intro c0 c1);have HF:=ae f;clear hat hs hn c0 c1 f;go_enter func81,ntmps81;refine aj λQ HQ=>?_;go_wp2_with fail;refine(HC _ (aB _ _ _)).mono ?_;rintro e w2 ⟨rfl,hb2⟩;have bC:=ae ((aB w (.cells #[.int .i64 a.obj,.int .i64 a.n] 75) (.cells #[.int .i64 0,.int .i64 xn] 75)).trans (hb2.mono (aB w _ _).size));have hr:=(Row.new' (w:=w.alloc (.cells #[.int .i64 a.obj,.int .i64 a.n] 75)) #[.int .i64 0,.int .i64 xn] 75 (g:=w.heap.size+1) (by simp)).below hb2 (by simp);have HR:=ae hr;have r0:=hr.cell (j:=0) rfl;have r1:=hr.cell (j:=1) rfl;have r2:=hr.free 1;have hlt:=hr.lt;have hobl:ob<w2.heap.size:=by omega
 have hne:ob≠w.heap.size+1:=by omega
 have k0:=ag HCC.1 bC.out ja;have k1:=ag HCC.2 bC.out ja;have hfr:∀j,w2.frozen? ⟨ob,j,none⟩=false:=λj=>(bC.frozen (p:=⟨ob,j,none⟩) ja).trans (HF.out j);have k2:=hfr o;have k3:=hfr (o+1);clear hr hb2 hfr;go_wp2_with fail;refine(HU _).mono ?_;rintro e w3 ⟨rfl,rfl⟩;go_wp2_with fail;refine HQ _ _ _ ?_;refine aS (v:= .bool true) (by simp[results,results81,go_sem]) rfl ⟨rfl,w2.setCell ⟨w.heap.size+1,1,none⟩ (.int .i64 (eA s xn)),?_,rfl⟩;exact bC.setCell (by simp) _
theorem Ex(hb ob o:Nat)(a x:V)(y0 y1:Int)(w:World)(hat:∀W,Below w.heap.size w W->Calls prog 101 #[.pointer (some ⟨hb,0,none⟩),.agg #[.int .i64 a.obj,.int .i64 a.n],.int .i64 8] W λe w'=>e= .returned (.pointer (some ⟨ob,o,none⟩))/\Below W.heap.size W w')
  (hx:x.obj≠0)(ja:ob<w.heap.size)(c0:w.cell? ⟨ob,o,none⟩=some (.int .i64 y0))(c1:w.cell? ⟨ob,o+1,none⟩=some (.int .i64 y1))(f:∀j,w.frozen? ⟨ob,j,none⟩=false):
  Calls prog 81 #[.pointer (some ⟨hb,0,none⟩),.int .i64 8,.agg #[.int .i64 a.obj,.int .i64 a.n],.agg #[.int .i64 x.obj,.int .i64 x.n]] w λe w'=>x6 ob o x w e w':=by
 have HC:=ae hat;have HCC:=ae (And.intro c0 c1);have HF:=ae f;have hd1:decide ((0:Int)<(x.obj:Int))=true:=by simp;omega
 have hd1':decide (0<x.obj)=true:=by simp;omega
 have hd2:((x.obj:Int)==0)=false:=by simp;omega
 clear hat hx c0 c1 f;go_enter func81,ntmps81;refine aj λQ HQ=>?_;go_wp2_with fail;refine(HC _ (aB _ _ _)).mono ?_;rintro e w2 ⟨rfl,hb2⟩;have bC:=ae ((aB w (.cells #[.int .i64 a.obj,.int .i64 a.n] 75) (.cells #[.int .i64 x.obj,.int .i64 x.n] 75)).trans (hb2.mono (aB w _ _).size));have hr:=(Row.new' (w:=w.alloc (.cells #[.int .i64 a.obj,.int .i64 a.n] 75)) #[.int .i64 x.obj,.int .i64 x.n] 75 (g:=w.heap.size+1) (by simp)).below hb2 (by simp);have HR:=ae hr;have r0:=hr.cell (j:=0) rfl;have r1:=hr.cell (j:=1) rfl;have hlt:=hr.lt;have hobl:ob<w2.heap.size:=by omega
 have k0:=ag HCC.1 bC.out ja;have k1:=ag HCC.2 bC.out ja;have hfr:∀j,w2.frozen? ⟨ob,j,none⟩=false:=λj=>(bC.frozen (p:=⟨ob,j,none⟩) ja).trans (HF.out j);have k2:=hfr o;have k3:=hfr (o+1);clear hr hb2 hfr;go_wp2_with fail;refine HQ _ _ _ ?_;exact aS (v:= .bool true) (by simp[results,results81,go_sem]) rfl ⟨rfl,w2,bC.out,rfl⟩
theorem rW(B:Nat)(l:List kH)(A:Option Addr)(n aA:Nat)(w:World)(h:SliceAt w B 3 (sG w B) l (.slice A n aA))(hB:B<=w.heap.size)(gU:∀o,o∈l->rY o)(hnl:l.length<=1000):
  Calls prog 46 #[.slice A n aA] w λe w'=>e= .returned (.int .i64 (aQ l))/\Below w.heap.size w w':=by
 have hl:=h.len;have H:=ae h;have HB:=ae hB;have uZ:=ae gU;have HL:=ae hl.1;obtain⟨_,GH⟩:=hl;clear h gU hB;go_enter func46,ntmps46;refine aj λQ HQ=>?_;go_wp2_with fail;go_loopw [3,8] (λt i wr=>∃k:Nat,k<=n/\i= .int .i64 k/\t= .int .i64 (aQ (l.take k))/\Below w.heap.size w wr) (λ_ i _=>n-(intOf i).toNat)
 case atStart=>exact⟨0,by omega,rfl,rfl,aV _ _⟩
 case round=>
  obtain⟨k,hk,rfl,rfl,aJ⟩:=hrel;have hct:=dB (l:=l.take k) (λo ho=>uZ.out o (List.mem_of_mem_take ho));rw[List.length_take,Nat.min_eq_left (by have:=HL.out;omega)]at hct;obtain⟨Km,C3⟩:=hct;have cB:=ae aJ;have hnb:n<=1000:=by have:=HL.out;omega
  have pS:=aJ.size;by_cases hlt:k<n
  ·obtain⟨b,off,o,rfl,hbB,hok,c0,c1,⟨v,c2,hv⟩,_,_⟩:=(H.out.below (aJ.mono HB.out) (aY _) (λ_ _ h=>h.below (aJ.mono HB.out) (aY _))).get hlt;simp only[Nat.add_zero]at c0 c1 c2;have Bc:=uZ.out o (List.mem_of_getElem? hok);have Zl:=Bc.2.1;have Zk:=Bc.2.2.1;have IE:=ae hok;have hkl:(k:Int)<(n:Int):=by omega
   have hbl:b<wr.heap.size:=by have:=HB.out;omega
   obtain⟨IA,icap,Q0⟩:∃IA icap,v= .slice IA o.init.length icap:=(by obtain⟨A',c',h,_⟩:=hv;exact⟨_,_,h⟩)
   subst Q0;clear hok Bc aJ hv;go_wp2_with fail;go_roundw
   case rel=>exact⟨k+1,by omega,by go_num,by rw[List.take_add_one,IE.out];simp only[Option.toList_some];rw[pM];simp[aQ],cB.trans ((ax _ _).mono pS)⟩
   case measure=>simp[intOf];omega
  ·obtain rfl:k=n:=by omega
   have e:l.take k=l:=by rw[<-HL.out];exact List.take_length
   rw[e];clear aJ;go_wp2_with fail;refine HQ _ _ _ ?_;exact aS (v:= .int .i64 (aQ l)) (by simp[results,results46,go_sem]) rfl ⟨rfl,cB.out⟩
end Go.Proofs.YtinmgbodgecoeaaGreat
