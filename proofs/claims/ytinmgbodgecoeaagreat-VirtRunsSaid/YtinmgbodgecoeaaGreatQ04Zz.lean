/- The page's machine: an object is made. Conditions: as stated. The page's machine: what a call's walk is asked; its plain parts. No condition. The page's machine: a call's locals, made one by one. No condition. The page's machine: a call's blocks. No condition. The page's machine: an object is no more. No program in sight but its name. No condition. The graph's machine over the page's memory: plain laws. No program in sight. Conditions: as stated. An empty memory and one of the object that is none are one to the page's machine: plain laws. No program in sight. No condition. The page's machine, in whole: what a run keeps. Plain laws; no program in sight. No condition. Virtual code as a program of the middle language: each place in a function begins a block. Plain laws; no program in sight. No condition. Which functions of virtual code may be (plain), and that they may be run. No program in sight. No condition. A function's labels, as the program keeps them: a map from numbers to places. No condition. A function's labels: look-ups that say whether, stores. No condition. virt: a function's labels are laid. Conditions: as stated. The graph's heap: how it lies; the walks of its reading functions. Conditions: as stated. -/
import Derived.Test.YtinmgbodgecoeaaGreatMakeZZz
import Derived.Laws.OwnMore
import Derived.Maps.OwnSet
import Derived.Maps.Views
set_option linter.unusedSimpArgs false
set_option linter.unusedVariables false
set_option maxHeartbeats 8000000
set_option maxRecDepth 100000
open Go.Proofs.Tryz
namespace Go.Proofs.YtinmgbodgecoeaaGreat
open Go.RowKit
def rY(o:kH):Prop:=(o.size=1\/o.size=2\/o.size=4\/o.size=8)/\1<=o.count/\o.count<=64/\(o.init.length:Int)<=o.count
theorem aD.Pd{w:World}{B:Nat}{l:List Int}{v:Value}(h:aD w B l v):∀x,x∈l->In64 x:=by
 intro x hx;obtain⟨i,hi⟩:=List.mem_iff_getElem?.1 hx;obtain⟨A,aA,_,_,h2⟩:=h;obtain⟨b,off,_,_,h3⟩:=h2 (by rcases Nat.eq_zero_or_pos l.length with h|h;rw[List.eq_nil_of_length_eq_zero h]at hx;cases hx;exact h);exact(h3 i x hi).2
theorem OZ(pb po ai:Nat)(own:Nat->Prop)(aU:Value)(rb:Nat->Nat)(M:List MO)(cs:Array Value)(t:TypeId)(o:kH)(v:Value)(w:World)
  (hR:Row w pb cs t)(hp:cs[po]? =some aU)(ht:t≠75/\t≠116)(hM:qg w ai own aU rb M)(hmo:∀g,aU.ownBlock=some g->own g)(hown:∀k,own k->ai<=k/\k<w.heap.size)(hbs:ai<=w.heap.size)(hpb:ai<=pb)
  (ho:rY o)(hl:aD w ai o.init v)(jk:(au M).length+1<=1000000000):
  Calls prog 31 #[.pointer (some ⟨pb,po,none⟩),.agg #[.int .i64 o.size,.int .i64 o.count,v]] w λe w'=>xg ai own pb po cs t M o w e w':=by
 obtain⟨h1,h2,h3,h4⟩:=ho;obtain⟨ct,hct⟩:=Int.eq_ofNat_of_zero_le (show 0<=o.count by omega);have hin:=hl.Pd;obtain⟨A,aA,rfl,_,_⟩:=id hl;rw[hct];by_cases TK:M=[]
 ·exact JU pb po ai own aU rb M cs t o ct A _ aA w hR hp ht hM hmo hown hbs hpb hct (by omega) (by omega) (by omega) hl h1 hin jk TK
 ·exact MF pb po ai own aU rb M cs t o ct A _ aA w hR hp ht hM hmo hown hbs hpb hct (by omega) (by omega) (by omega) hl h1 hin jk TK
theorem pM(a b:List kH):aQ (a++b)=aQ a+aQ b:=by
 induction a with
 |nil=>simp[aQ]
 |cons o l ih=>simp[aQ,ih];omega
theorem dB{l:List kH}(h:∀o,o∈l->rY o):(l.length:Int)<=aQ l/\aQ l<=64*l.length:=by
 induction l with
 |nil=>simp[aQ]
 |cons o l ih=>
  have h1:=ih λx hx=>h x (List.mem_cons_of_mem _ hx);obtain⟨_,h2,h3,_⟩:=h o (by simp);simp only[aQ,List.length_cons];omega
theorem qN(M:List MO)(a b:List kH):bf M (a++b)=bf (bf M a) b:=by
 induction a generalizing M with
 |nil=>rfl
 |cons o l ih=>exact ih _
theorem vP(M:List MO)(o:kH):(gP M o).length=(au M).length+1:=by simp[j4]
theorem gL(M:List MO):(au M).length=if M=[]then 1 else M.length:=by
 unfold au;split<;>rfl
theorem qM(M:List MO)(l:List kH):(bf M l).length=if l=[]then M.length else(au M).length+l.length:=by
 induction l generalizing M with
 |nil=>rfl
 |cons o l ih=>
  simp only[bf,ih];have h1:=vP M o;have h2:au (gP M o)=gP M o:=by unfold au;rw[if_neg (by intro h;rw[h]at h1;simp at h1)]
  rw[h2,h1];by_cases h:l=[]
  ·simp[h]
  ·simp[h];omega
theorem Pb:(prog.info? 3).map (λi=>(i.zero,i.size,i.bytes))=some (some (.int .i64 0),1,8):=by kernel_rfl
theorem qL(M:List MO)(l:List kH):(au (bf M l)).length=(au M).length+l.length:=by
 have h:=qM M l;by_cases hl:l=[]
 ·subst hl;rfl
 ·rw[if_neg hl]at h;have hp:=cZ M;rw[gL,if_neg (by intro e;rw[e]at h;simp at h;omega),h]
theorem pG(M:List MO)(l:List kH)(k:Nat)(hk:k<=l.length):(au (bf M (l.take k))).length=(au M).length+k:=by rw[qL,List.length_take,Nat.min_eq_left hk]
theorem AP(M:List MO)(k:Nat):cX M (k+1)=cX M k++[(au M).length+k]:=by
 unfold cX;rw[List.range_succ,List.map_append,gL];rfl
theorem gm(M:List MO)(k:Nat):(cX M k).length=k:=by simp[cX]
theorem Mx{w:World}{ai:Nat}{e:TypeId}{size:Nat}{v:Value}{n:Nat}{xs:List Value}(h:w.ownsRow ai e size v n xs):w.drew.ownsRow ai e size v n xs:=
 aF h (eW (aV _ _).drew) (λ_ _ h=>h)
theorem RI{w:World}{ai:Nat}{e:TypeId}{size:Nat}{v:Value}{n:Nat}{xs:List Value}(h:w.ownsRow ai e size v n xs)(o:Obj):(w.alloc o).ownsRow ai e size v n xs:=
 aF h (eW (ax w o)) (λ_ _ h=>h)
theorem bJ.wr1{F:Nat->Prop}{w w':World}{b off:Nat}{v:V}(h:bJ w b off v)(hw:Wr F w w')(hF:¬F b)(hlt:b<w.heap.size):bJ w' b off v:=
 ⟨(World.cell?_of_block (a:=⟨b,off,none⟩) (hw.block b hlt hF)).trans h.1,(World.cell?_of_block (a:=⟨b,off+1,none⟩) (hw.block b hlt hF)).trans h.2⟩
theorem bJ.wr2{F G:Nat->Prop}{w w1 w2:World}{b off:Nat}{v:V}(h:bJ w b off v)(hw:Wr F w w1)(hF:¬F b)(hlt:b<w.heap.size)(hw2:Wr G w1 w2)(hG:¬G b)(hlt2:b<w1.heap.size):bJ w2 b off v:=
 (h.wr1 hw hF hlt).wr1 hw2 hG hlt2
theorem Jl{args:List V}{k nt:Nat}{v:V}(hk:k<nt)(hv:args[k]? =some v)(hn:k<args.length):(args.take k++List.replicate (nt-k) (⟨0,0⟩:V)).set k v=args.take (k+1)++List.replicate (nt-(k+1)) (⟨0,0⟩:V):=by
 have h1:(args.take k).length=k:=by rw[List.length_take];omega
 rw[List.take_add_one,hv,List.set_append_right _ _ (by omega),h1,Nat.sub_self];rw[show nt-k=(nt-(k+1))+1 by omega,List.replicate_succ];simp
theorem nV(w:World)(cs:List Value)(t:TypeId):∀(j:Nat)(u:Value),cs[j]? =some u->(w.alloc (.cells cs.toArray t)).cell? ((⟨w.heap.size,0,none⟩:Addr).add j)=some u:=by
 intro j u hj;rw[wY];exact(Row.new w cs.toArray t).cell (by simpa using hj)
end Go.Proofs.YtinmgbodgecoeaaGreat
namespace Go.Proofs.YtinmgbodgecoeaaGreat
open Go.RowKit
section
variable {ai mc:Nat} {own:Nat->Prop} {P:Value×Value×Value} {ah d:Int} {ng fb tb nt:Nat} {G:Value×Value×Value×Value} {lv:Value} {lo:List Nat} {gr:Nat} {gc:Array Value} {w wr:World} {own':Nat->Prop} {st:St} {tp:List V}
end
theorem Yc{v:V}(h1:v.obj=0)(h2:v.n=0):v=⟨0,0⟩:=by
 obtain⟨a,b⟩:=v;simp only at h1 h2;rw[h1,h2]
theorem ownsRow_base{w:World}{ai base':Nat}{e:TypeId}{size:Nat}{v:Value}{n:Nat}{xs:List Value}(h:w.ownsRow ai e size v n xs)(hb:base'<=ai):w.ownsRow base' e size v n xs:=by
 obtain⟨h1,h2⟩:=h;refine⟨h1,?_⟩;rcases h2 with h2|⟨g,aA,cur,hv,hg,r⟩
 ·exact aK h2
 ·exact bu ⟨g,aA,cur,hv,Nat.le_trans hb hg,r⟩
end Go.Proofs.YtinmgbodgecoeaaGreat
namespace Go.Proofs.YtinmgbodgecoeaaGreat
open Go.RowKit
def dead(o:MO):MO:={o with live:=false}
theorem A9(M:List MO)(l:List Nat)(x:Nat):dL M (l++[x])=(dL M l).modify x dead:=by
 induction l generalizing M with
 |nil=>rfl
 |cons a l ih=>exact ih _
theorem mH(M:List MO)(l:List Nat):(dL M l).length=M.length:=by
 induction l generalizing M with
 |nil=>rfl
 |cons a l ih=>simp[dL,ih]
theorem cR{M:List MO}{j k:Nat}{o:MO}{f:MO->MO}(h:(M.modify j f)[k]? =some o):∃o0,M[k]? =some o0/\o=if j=k then f o0 else o0:=by
 rw[List.getElem?_modify]at h;cases h0:M[k]? with
 |none=>rw[h0]at h;simp at h
 |some o0=>
  rw[h0]at h;refine⟨o0,rfl,?_⟩;simp at h;split at h<;>simp_all
theorem cQ.kill{M:List MO}(h:cQ M)(j:Nat):cQ (M.modify j dead):=by
 refine⟨by simpa using h.many,λo ho=>?_,λk o hk ho=>?_,λo ho v hv=>?_⟩
 ·obtain⟨o0,h0,rfl⟩:=cR ho;have:=h.zero o0 h0;subst this;split<;>rfl
 ·obtain⟨o0,h0,rfl⟩:=cR ho;have:=h.size k o0 hk h0;split
  ·exact this
  ·exact this
 ·obtain⟨k,hk⟩:=List.mem_iff_getElem?.1 ho;obtain⟨o0,h0,rfl⟩:=cR hk;rw[List.length_modify];refine h.vals o0 (List.mem_of_getElem? h0) v ?_;split at hv
  ·exact hv
  ·exact hv
theorem uA.kill{xs:List Value}{rb:Nat->Nat}{j k:Nat}{o:MO}(h:uA xs rb k o)(hl:k*3+2<xs.length):uA (xs.set (j*3+2) (.bool false)) rb k (if j=k then dead o else o):=by
 obtain⟨h0,h1,h2⟩:=h;unfold uA;rw[List.getElem?_set_ne (by omega),List.getElem?_set_ne (by omega)];by_cases e:j=k
 ·subst e;rw[if_pos rfl,List.getElem?_set_self hl];exact⟨h0,h1,rfl⟩
 ·rw[if_neg e,List.getElem?_set_ne (by omega)];exact⟨h0,h1,h2⟩
theorem eI.make{M:List MO}(h:eI M)(o:kH):eI (gP M o):=by
 intro x hx hs v hv;unfold gP at hx;rw[List.mem_append]at hx;rcases hx with hx|hx
 ·split at hx
  ·simp at hx;subst hx;simp at hv
  ·exact h x hx hs v hv
 ·simp at hx;subst hx;unfold mN at hv;simp only[List.mem_map]at hv;obtain⟨i,_,rfl⟩:=hv;rfl
theorem eI.makes{M:List MO}(h:eI M):∀(l:List kH),eI (bf M l)
 |[]=>h
 |o::l=>(h.make o).makes l
theorem mem_modify{M:List MO}{k:Nat}{f:MO->MO}{x:MO}(h:x∈M.modify k f):x∈M\/∃o,M[k]? =some o/\x=f o:=by
 obtain⟨i,hi⟩:=List.getElem?_of_mem h;obtain⟨o0,h1,h2⟩:=cR hi;by_cases hki:k=i
 ·rw[if_pos hki]at h2;exact bu ⟨o0,hki▸h1,h2⟩
 ·rw[if_neg hki]at h2;exact aK (h2▸List.mem_of_getElem? h1)
theorem eI.Lr{M:List MO}(h:eI M)(k:Nat):eI (M.modify k dead):=by
 intro x hx hs v hv;rcases mem_modify hx with hx|⟨o,ho,rfl⟩
 ·exact h x hx hs v hv
 ·exact h o (List.mem_of_getElem? ho) hs v hv
theorem eI.kills{M:List MO}(h:eI M):∀(l:List Nat),eI (dL M l)
 |[]=>h
 |k::l=>(h.Lr k).kills l
theorem eI.store{M M':List MO}(h:eI M){size:Int}{a x:V}(hs:bS M size a x=some M')(h0:0<=size):eI M':=by
 unfold bS at hs;cases ha:sP M a size.toNat with
 |none=>rw[ha]at hs;simp at hs
 |some j=>
  rw[ha]at hs;simp only at hs;split at hs
  ·cases hs
  ·rename_i hn;simp only[Option.some.injEq]at hs;subst hs;have hsz:(aG M a.obj).size=size:=by
    unfold sP at ha;split at ha
    ·rename_i h1;have:=h1.2.2.1;omega
    ·cases ha
   intro o ho hso v hv;rcases mem_modify ho with ho|⟨o0,ho0,rfl⟩
   ·exact h o ho hso v hv
   ·have XF:aG M a.obj=o0:=by unfold aG;rw[List.getD_eq_getElem?_getD,ho0];rfl
    simp only at hso hv;rw[XF]at hsz;rcases List.mem_or_eq_of_mem_set hv with hv|hv
    ·exact h o0 (List.mem_of_getElem? ho0) hso v hv
    ·have hx:x.obj=0:=by
      rcases Nat.eq_zero_or_pos x.obj with h1|h1
      ·exact h1
      ·exact absurd ⟨h1,by omega⟩ hn
     rw[if_pos hx]at hv;rw[hv]
theorem MK{M:List MO}(h:eI M){op:Int}{a:V}(h5:5<=op)(h11:op<=11){j:Nat}(ha:sP M a (gK op)=some j)(hl:j<(aG M a.obj).l.length)(hm:a.obj<M.length):
  gZ M op a=some (if op=8 then(aG M a.obj).l.getD j ⟨0,0⟩else⟨0,iZ op ((aG M a.obj).l.getD j ⟨0,0⟩).n⟩):=by
 unfold gZ;rw[ha];have hmem:(aG M a.obj)∈M:=List.mem_of_getElem? (qj hm);have hv:(aG M a.obj).l.getD j ⟨0,0⟩∈(aG M a.obj).l:=by rw[List.getD_eq_getElem?_getD,List.getElem?_eq_getElem hl];exact List.getElem_mem _
 by_cases h8:op=8
 ·subst h8;simp only[if_true];split
  ·rfl
  ·rename_i h0;have h0':((aG M a.obj).l.getD j ⟨0,0⟩).obj=0:=by omega
   have e:iZ 8 ((aG M a.obj).l.getD j ⟨0,0⟩).n=((aG M a.obj).l.getD j ⟨0,0⟩).n:=by unfold iZ;rw[if_pos rfl]
   rw[e]
   congr 1
   generalize (aG M a.obj).l.getD j ⟨0,0⟩=v at h0';cases v
   simp_all
 ·have hsz:(aG M a.obj).size≠8:=by
   unfold sP at ha;split at ha
   ·rename_i h1;have h2:=h1.2.2.1;unfold gK at h2;intro h3;rw[h3]at h2;split at h2
    ·omega
    ·split at h2
     ·omega
     ·split at h2<;>omega
   ·cases ha
  have h0:=h _ hmem hsz _ hv;simp only;rw[if_neg (by omega),if_neg h8]
theorem s7(M:List MO)(size:Int)(a x:V):bS (au M) size a x=(bS M size a x).map au:=by
 by_cases hM:M=[]
 ·subst hM;have e:∀s,sP [] a s=none:=by
   intro s;unfold sP;rw[if_neg];rintro⟨_,h,_⟩;simp[aG]at h
  unfold bS;rw[Io,e];rfl
 ·have hb:au M=M:=by unfold au;rw[if_neg hM]
  have hp:0<M.length:=by cases M with|nil=>exact absurd rfl hM|cons a l=>simp
  rw[hb];unfold bS;split
  ·rfl
  ·split
   ·rfl
   ·simp only[Option.map_some,Option.some.injEq];exact(nO (by simpa using hp)).symm
theorem uM(M:List MO)(o:kH):gP (au M) o=gP M o:=by rw[j4,j4,qK]
theorem tB(M:List MO)(o:kH):au (gP M o)=gP M o:=nO (by simp[j4])
theorem tA(M:List MO)(l:List kH):bf (au M) l=au (bf M l):=by
 cases l with
 |nil=>rfl
 |cons o l=>
  have key:∀(l:List kH)(N:List MO),0<N.length->0<(bf N l).length:=by
   intro l
   induction l with
   |nil=>intro N h;exact h
   |cons o l ih=>intro N h;exact ih _ (by simp[j4])
  show bf (gP (au M) o) l=au (bf (gP M o) l);rw[uM,nO (key l _ (by simp[j4]))]
theorem uP(M:List MO)(lo:List Nat):dL (au M) lo=au (dL M lo):=by
 by_cases hM:M=[]
 ·subst hM;have h1:∀lo,dL ([]:List MO) lo=[]:=by
   intro lo
   induction lo with
   |nil=>rfl
   |cons a l ih=>
    rw[dL];have:([]:List MO).modify a (λo=>{o with live:=false})=[]:=by cases a<;>rfl
    rw[this];exact ih
  have h2:∀lo,dL [⟨0,[],false⟩] lo=[⟨0,[],false⟩]:=by
   intro lo
   induction lo with
   |nil=>rfl
   |cons a l ih=>
    rw[dL];have:([⟨0,[],false⟩]:List MO).modify a (λo=>{o with live:=false})=[⟨0,[],false⟩]:=by
     cases a with
     |zero=>rfl
     |succ n=>simp[List.modify_succ_cons]
    rw[this];exact ih
  rw[h1];exact h2 lo
 ·have hb:au M=M:=by unfold au;rw[if_neg hM]
  have hp:0<M.length:=by cases M with|nil=>exact absurd rfl hM|cons a l=>simp
  rw[hb,nO (by rw[mH];exact hp)]
end Go.Proofs.YtinmgbodgecoeaaGreat
namespace Go.Proofs.YtinmgbodgecoeaaGreat
open Go.RowKit
def rX(p:qD)(nt nl:Nat)(x:qC):Prop:=
 oJ nt nl p.ay.length x.args/\oK x.args/\x.args.length<=1000/\
 ((x.op=1/\x.args.length=1/\(x.to= -1\/0<=x.to/\x.to<nt))\/(x.op=2/\x.args.length=2/\x.to= -1/\(x.size=1\/x.size=2\/x.size=4\/x.size=8))\/
  (x.op=3/\(∃f g,x.fn=((f:Nat):Int)/\p.funcs[f]? =some g/\(x.args.length:Int)=g.params)/\(x.to= -1\/0<=x.to/\x.to<nt))\/(x.op=4/\x.args.length=1/\x.to= -1)\/
  (x.op=5/\x.args.length=0/\0<=x.to/\x.to<nt)\/(x.op=6/\x.args.length=1/\x.to= -1))
structure CD (p:qD) (g:qX) (nt:Nat) (b:rZ):Prop where
 steps:∀x,x∈b.steps->rX p nt g.az.length x
 few:b.steps.length<=1000000
 fin:b.fin=1\/b.fin=2\/b.fin=3
 next:0<=b.next/\b.next<g.blocks.length
 els:0<=b.els/\b.els<g.blocks.length
 cond:b.fin≠1->Dd nt g.az.length p.ay.length b.cond/\De b.cond
structure D8 (p:qD) (g:qX):Prop where
 nt:∃nt:Nat,g.bN=nt/\nt<=8000/\∀b,b∈g.blocks->CD p g nt b
 params:0<=g.params/\g.params<=g.bN
 UF:∀o,o∈g.az->rY o/\∀x,x∈o.init->In64 x
 az:g.az.length<=400
 one:0<g.blocks.length
 few:g.blocks.length<=1000000
structure EX (p:qD):Prop where
 ay:∀o,o∈p.ay->rY o/\∀x,x∈o.init->In64 x
 Qa:p.ay.length<=16
 fns:∀g,g∈p.funcs->D8 p g
 main:∃f g,p.main=((f:Nat):Int)/\p.funcs[f]? =some g/\g.params=0
theorem fV.grow{M M':List MO}{tp:List V}{lo:List Nat}{ng:Nat}(h:fV M tp lo ng)(hl:M.length<=M'.length):fV M' tp lo ng:=
 ⟨λv hv=>(h.bN v hv).mono hl,λx hx=>fQ (h.az x hx) hl,fQ h.ay hl⟩
theorem fV.put{M:List MO}{tp:List V}{lo:List Nat}{ng:Nat}(h:fV M tp lo ng)(dst:Int){v:V}(hv:kW M.length v):fV M (zf tp dst v) lo ng:=by
 unfold zf;split
 ·exact⟨λu hu=>by rcases List.mem_or_eq_of_mem_set hu with h1|h1;exact h.bN u h1;exact h1▸hv,h.az,h.ay⟩
 ·exact h
theorem qi(tp:List V)(dst:Int)(v:V):(zf tp dst v).length=tp.length:=by unfold zf;split<;>simp
theorem cQ.put{M:List MO}(h:cQ M)(k j:Nat){v:V}(hk:1<=k)(hv:kW M.length v):cQ (M.modify k λo=>{o with l:=o.l.set j v}):=by
 refine⟨by simpa using h.many,λo ho=>?_,λi o h1 ho=>?_,λo ho u hu=>?_⟩
 ·obtain⟨o0,h0,he⟩:=cR ho;rw[if_neg (by omega)]at he;subst he;exact h.zero _ h0
 ·obtain⟨o0,h0,rfl⟩:=cR ho;have:=h.size i o0 h1 h0;split
  ·simpa using this
  ·exact this
 ·rw[List.length_modify];rcases mem_modify ho with ho|⟨o0,h0,rfl⟩
  ·exact h.vals o ho u hu
  ·rcases List.mem_or_eq_of_mem_set hu with hu|hu
   ·exact h.vals o0 (List.mem_of_getElem? h0) u hu
   ·exact hu▸hv
theorem yw{M M':List MO}{size:Int}{a x:V}(hs:bS M size a x=some M')(h0:0<=size)(hm:cQ M)(hn:eI M)(hx:kW M.length x):cQ M'/\eI M'/\M'.length=M.length:=by
 refine⟨?_,hn.store hs h0,?_⟩
 ·unfold bS at hs;cases ha:sP M a size.toNat with
  |none=>rw[ha]at hs;simp at hs
  |some j=>
   rw[ha]at hs;simp only at hs;split at hs
   ·cases hs
   ·simp only[Option.some.injEq]at hs;subst hs;have hp:0<a.obj:=by
     unfold sP at ha;split at ha
     ·rename_i h1;exact h1.1
     ·cases ha
    refine hm.put a.obj j hp ?_;split
    ·exact⟨Nat.lt_of_le_of_lt (Nat.zero_le _) hx.1,λh=>absurd rfl h,s6 hx.2.2⟩
    ·exact hx
 ·unfold bS at hs;split at hs
  ·cases hs
  ·split at hs
   ·cases hs
   ·simp only[Option.some.injEq]at hs;subst hs;simp
def xe(p:qD)(ah:Int)(c:Int)(R:bT):Prop:=
 ∀(f:Nat)g args s v s',p.funcs[f]? =some g->(args.length:Int)=g.params->GInv ah s->s.calls=c->(∀v,v∈args->kW (au s.mem).length v)->p.ay.length<(au s.mem).length->R f args s=(some v,s')->nC ah s s'/\kW (au s'.mem).length v
section
variable {p:qD} {ah:Int} {R:bT} {lo:List Nat} {nt nl:Nat}
theorem DR(hR:∀c,xe p ah c R){s s':St}{tp tp':List V}{x:qC}(hI:GInv ah s)(hF:fV (au s.mem) tp lo p.ay.length)(ht:tp.length=nt)(hl:lo.length=nl)(hx:rX p nt nl x)(h:oz R ah lo s tp x=(true,s',tp')):
  nC ah s s'/\fV (au s'.mem) tp' lo p.ay.length/\tp'.length=tp.length:=by
 subst ht hl;obtain⟨hts,hti,_,hop⟩:=hx;by_cases hy:(aL ah 1 s).1=true
 ·obtain⟨h1,tF⟩:=hI.tick (by omega) hy;cases he:cF s.mem tp lo x.args with
  |none=>
   unfold oz at h;rw[if_neg (by rw[hy];simp),xE,he]at h;cases h
  |some l=>
   have hok:=Bq hI.mem hF x.args hti hts (by rw[lu];exact he);have hlen:=C7 he;rw[Nk hy h1 he]at h;have hK1:nC ah s {s with steps:=s.steps+1}:=⟨tF,rfl,aY _,by show s.steps<=s.steps+1;omega⟩
   have hpos:=cZ s.mem;have hg:=λj=>zY hpos hok j;unfold kX at h;rcases hop with⟨h1,h2,h3⟩|⟨h1,h2,h3,h4⟩|⟨h1,⟨f,g,h2,h3,h4⟩,h5⟩|⟨h1,h2,h3⟩|⟨h1,h2,h3,h4⟩|⟨h1,h2,h3⟩
   ·rw[if_pos h1]at h;simp only[Prod.mk.injEq,true_and]at h;obtain⟨rfl,rfl⟩:=h;exact⟨hK1,hF.put _ (hg 0),qi _ _ _⟩
   ·rw[if_neg (by omega),if_pos h1]at h;split at h
    ·rename_i M hst;simp only[Prod.mk.injEq,true_and]at h;obtain⟨rfl,rfl⟩:=h;have hb:=s7 s.mem x.size (l.getD 0 ⟨0,0⟩) (l.getD 1 ⟨0,0⟩);simp only at hst;rw[hst]at hb;obtain⟨k1,k2,k3⟩:=yw hb (by omega) hI.mem hI.num (hg 1);refine⟨⟨⟨tF.kind,tF.lo,tF.hi,by show(au M).length<=_;rw[k3];exact tF.many,tF.outs,tF.calls,tF.deep,tF.inp,k1,k2⟩,rfl,by show _<=(au M).length;rw[k3];exact aY _,by show s.steps<=s.steps+1;omega⟩,?_,rfl⟩;exact hF.grow (by show _<=(au M).length;rw[k3];exact aY _)
    ·cases h
   ·rw[if_neg (by omega),if_neg (by omega),if_pos h1]at h;split at h
    ·rename_i v s2 hr;simp only[Prod.mk.injEq,true_and]at h;obtain⟨rfl,rfl⟩:=h;rw[h2]at hr;obtain⟨k1,k2⟩:=hR _ f g l _ v s2 h3 (by rw[hlen];exact h4) tF rfl hok hF.ay hr;exact⟨hK1.trans k1,(hF.grow k1.grow).put _ k2,qi _ _ _⟩
    ·cases h
   ·rw[if_neg (by omega),if_neg (by omega),if_neg (by omega),if_neg (by omega)]at h;split at h
    ·cases h
    ·rw[if_neg (by omega)]at h;simp only[Prod.mk.injEq,true_and]at h;obtain⟨rfl,rfl⟩:=h;have h0:=hI.lo;have h5:=hI.outs;refine⟨⟨⟨tF.kind,tF.lo,tF.hi,tF.many,?_,tF.calls,tF.deep,tF.inp,tF.mem,tF.num⟩,rfl,aY _,by show s.steps<=s.steps+1;omega⟩,hF,rfl⟩;show(s.out++_).length<=(s.steps+1).toNat;rw[List.length_append,List.length_singleton];omega
   ·rw[if_neg (by omega),if_neg (by omega),if_neg (by omega),if_pos h1]at h;split at h
    ·rename_i hin;simp only[Prod.mk.injEq,true_and]at h;obtain⟨rfl,rfl⟩:=h;exact⟨hK1,hF.put _ (kW.num hpos (by unfold In64;omega)),qi _ _ _⟩
    ·rename_i n r hin;simp only[Prod.mk.injEq,true_and]at h;obtain⟨rfl,rfl⟩:=h;simp only at hin;have hi64:=hI.inp;rw[hin]at hi64;refine⟨⟨⟨tF.kind,tF.lo,tF.hi,tF.many,tF.outs,tF.calls,tF.deep,λx hx=>hi64 x (List.mem_cons_of_mem _ hx),tF.mem,tF.num⟩,rfl,aY _,by show s.steps<=s.steps+1;omega⟩,hF.put _ (kW.num hpos (hi64 n (by simp))),qi _ _ _⟩
   ·rw[if_neg (by omega),if_neg (by omega),if_neg (by omega),if_neg (by omega)]at h;split at h
    ·cases h
    ·cases h
 ·unfold oz at h;rw[if_pos (by simpa using hy)]at h;cases h
theorem Ap(hR:∀c,xe p ah c R):∀(xs:List qC){s s':St}{tp tp':List V},GInv ah s->fV (au s.mem) tp lo p.ay.length->tp.length=nt->lo.length=nl->(∀x,x∈xs->rX p nt nl x)->qI R ah lo s tp xs=(true,s',tp')->
  nC ah s s'/\fV (au s'.mem) tp' lo p.ay.length/\tp'.length=tp.length
 |[],s,s',tp,tp',hI,hF,_,_,_,h=>by
  rw[qI]at h;simp only[Prod.mk.injEq,true_and]at h;obtain⟨rfl,rfl⟩:=h;exact⟨nC.refl hI,hF,rfl⟩
 |x::r,s,s',tp,tp',hI,hF,ht,hl,hx,h=>by
  rw[qI]at h;split at h
  ·rename_i s1 QX h1;obtain⟨k1,k2,k3⟩:=DR hR hI hF ht hl (hx x (by simp)) h1;obtain⟨m1,m2,m3⟩:=Ap hR r k1.inv k2 (k3.trans ht) hl (λy hy=>hx y (List.mem_cons_of_mem _ hy)) h;exact⟨k1.trans m1,m2,m3.trans k3⟩
  ·cases h
theorem Cs(hR:∀c,xe p ah c R){g:qX}{b:rZ}{s s':St}{tp tp':List V}{go:Goes}(hI:GInv ah s)(hF:fV (au s.mem) tp lo p.ay.length)(ht:tp.length=nt)(hl:lo.length=g.az.length)(hb:CD p g nt b)(h:qT R ah lo s tp b=(go,s',tp'))(hgo:go≠.over):
  nC ah s s'/\fV (au s'.mem) tp' lo p.ay.length/\tp'.length=tp.length/\s.steps+1<=s'.steps/\(∀k,go= .next k->0<=k/\k<g.blocks.length)/\(∀v,go= .ret v->kW (au s'.mem).length v):=by
 unfold qT at h;split at h
 ·simp only[Prod.mk.injEq]at h;exact absurd h.1.symm hgo
 ·rename_i s1 QX h1;obtain⟨k1,k2,k3⟩:=Ap hR b.steps hI hF ht hl hb.steps h1;have hmono:=k1.steps;split at h
  ·simp only[Prod.mk.injEq]at h;exact absurd h.1.symm hgo
  ·rename_i hy;have hy':(aL ah 1 s1).1=true:=by simpa using hy
   obtain⟨e1,tF⟩:=k1.inv.tick (by omega) hy';rw[e1]at h;have hK:nC ah s {s1 with steps:=s1.steps+1}:=k1.trans ⟨tF,rfl,aY _,by show s1.steps<=s1.steps+1;omega⟩;split at h
   ·simp only[Prod.mk.injEq]at h;obtain⟨rfl,rfl,rfl⟩:=h;exact⟨hK,k2,k3,by show s.steps+1<=s1.steps+1;omega,λk hk=>(by injection hk with hk;exact hk▸hb.next),λv hv=>(by cases hv)⟩
   ·rename_i hfin;obtain⟨hc1,hc2⟩:=hb.cond hfin;split at h
    ·simp only[Prod.mk.injEq]at h;exact absurd h.1.symm hgo
    ·rename_i v hv;have Ka:=LD k1.inv.mem k2 b.cond hc2 (by rw[k3,ht,hl];exact hc1) (by rw[Bt];exact hv);split at h
     ·simp only[Prod.mk.injEq]at h;obtain⟨rfl,rfl,rfl⟩:=h;exact⟨hK,k2,k3,by show s.steps+1<=s1.steps+1;omega,λk hk=>(by cases hk),λu hu=>(by injection hu with hu;exact hu▸Ka)⟩
     ·simp only[Prod.mk.injEq]at h;obtain⟨rfl,rfl,rfl⟩:=h;exact⟨hK,k2,k3,by show s.steps+1<=s1.steps+1;omega,λk hk=>(by injection hk with hk;subst hk;split;exact hb.els;exact hb.next),λu hu=>(by cases hu)⟩
theorem cQ.kills{M:List MO}(h:cQ M):∀(l:List Nat),cQ (dL M l)
 |[]=>h
 |k::l=>(h.kill k).kills l
theorem yP(hR:∀c,xe p ah c R){g:qX}(hl:lo.length=g.az.length)(hb:∀b,b∈g.blocks->CD p g nt b):∀(m:Nat)(k:Int){s s':St}{tp:List V}{v:V},GInv ah s->1<=s.calls->fV (au s.mem) tp lo p.ay.length->tp.length=nt->0<=k->k<g.blocks.length->
  bV R ah lo g.blocks m k s tp=(some v,s')->GInv ah s'/\s'.calls=s.calls-1/\(au s.mem).length<=(au s'.mem).length/\s.steps<=s'.steps/\kW (au s'.mem).length v
 |0,k,s,s',tp,v,_,_,_,_,_,_,h=>by rw[bV]at h;cases h
 |m+1,k,s,s',tp,v,hI,hc,hF,ht,hk0,hk1,h=>by
  rw[bV]at h;obtain⟨kn,rfl⟩:=Int.eq_ofNat_of_zero_le hk0;have hkl:kn<g.blocks.length:=by omega
  have hbk:g.blocks.getD ((kn:Int)).toNat Eo∈g.blocks:=by
   rw[Int.toNat_natCast,List.getD_eq_getElem?_getD,List.getElem?_eq_getElem hkl];exact List.getElem_mem _
  split at h
  ·cases h
  ·rename_i k' s1 QX h1;obtain⟨a1,a2,a3,a4,a5,_⟩:=Cs hR hI hF ht hl (hb _ hbk) h1 (by simp);obtain⟨k0,k1⟩:=a5 k' rfl;obtain⟨b1,b2,b3,b4,b5⟩:=yP hR hl hb m k' a1.inv (by rw[a1.calls];exact hc) a2 (a3.trans ht) k0 k1 h;exact⟨b1,by rw[b2,a1.calls],Nat.le_trans a1.grow b3,by omega,b5⟩
  ·rename_i u s1 QX h1;obtain⟨a1,a2,a3,a4,_,a6⟩:=Cs hR hI hF ht hl (hb _ hbk) h1 (by simp);simp only[Prod.mk.injEq,Option.some.injEq]at h;obtain⟨rfl,rfl⟩:=h;have e:au (dL s1.mem lo)=dL (au s1.mem) lo:=(uP _ _).symm;have el:(au (dL s1.mem lo)).length=(au s1.mem).length:=by rw[e,mH]
   have hcs:=a1.calls;refine⟨⟨a1.inv.kind,a1.inv.lo,a1.inv.hi,by show(au (dL s1.mem lo)).length<=_;rw[el];exact a1.inv.many,a1.inv.outs,by show 0<=s1.calls-1;omega,a1.inv.deep,a1.inv.inp,by show cQ (au (dL s1.mem lo));rw[e];exact a1.inv.mem.kills lo,by show eI (au (dL s1.mem lo));rw[e];exact a1.inv.num.kills lo⟩,by show s1.calls-1=s.calls-1;omega,by show _<=(au (dL s1.mem lo)).length;rw[el];exact a1.grow,by show s.steps<=s1.steps;omega,by show kW (au (dL s1.mem lo)).length u;rw[el];exact a6 u rfl⟩
theorem A4:∀(l:List kH){M:List MO},cQ (au M)->(∀o,o∈l->rY o/\∀x,x∈o.init->In64 x)->(au M).length+l.length<=4294967296->cQ (au (bf M l))
 |[],M,h,_,_=>h
 |o::l,M,h,ho,hm=>by
  have h1:=ho o (by simp);simp only[List.length_cons]at hm;have h2:=vO h o h1.1.1 (by have:=h1.1.2.2.1;omega) h1.2 (by rw[qK];omega);rw[uM]at h2;refine A4 l (M:=gP M o) (by rw[tB];exact h2) (λx hx=>ho x (List.mem_cons_of_mem _ hx)) ?_;rw[tB,vP];omega
theorem qR{g:qX}{s:St}{args:List V}(hg:D8 p g)(hnt:g.bN=nt)(hI:GInv ah s)(ha:∀v,v∈args->kW (au s.mem).length v)(hal:args.length<=nt)(hgl:p.ay.length<(au s.mem).length)(hf:ah<=100000000)(hst:s.steps+aQ g.az<=ah):
  GInv ah {s with calls:=s.calls+1,deep:=max s.deep (s.calls+1),steps:=s.steps+aQ g.az,mem:=bf s.mem g.az}/\fV (au (bf s.mem g.az)) (gJ nt args) (cX s.mem g.az.length) p.ay.length/\(gJ nt args).length=nt/\(cX s.mem g.az.length).length=g.az.length/\(au (bf s.mem g.az)).length=(au s.mem).length+g.az.length:=by
 have hcb:=dB (λo ho=>(hg.UF o ho).1);have uQ:=qL s.mem g.az;have h1:=hI.lo;have h2:=hI.many;have h3:=hI.outs;have h4:=hI.calls;have h5:=hI.deep;have hpos:=cZ s.mem;refine⟨⟨hI.kind,by show 0<=s.steps+_;omega,hst,?_,?_,by show 0<=s.calls+1;omega,by show 0<=max s.deep (s.calls+1);omega,hI.inp,?_,?_⟩,⟨?_,?_,by omega⟩,?_,gm _ _,uQ⟩
 ·show(au (bf s.mem g.az)).length<=20+(s.steps+aQ g.az).toNat;omega
 ·show s.out.length<=(s.steps+aQ g.az).toNat;omega
 ·exact A4 g.az hI.mem hg.UF (by omega)
 ·show eI (au (bf s.mem g.az));rw[<-tA];exact hI.num.makes g.az
 ·intro v hv;unfold gJ at hv;rw[List.mem_append]at hv;rcases hv with hv|hv
  ·exact(ha v hv).mono (by omega)
  ·rw[List.mem_replicate]at hv;rw[hv.2];exact kW.num (by omega) (by unfold In64;omega)
 ·intro x hx;unfold cX at hx;simp only[List.mem_map,List.mem_range]at hx;obtain⟨i,hi,rfl⟩:=hx;rw[<-gL];omega
 ·unfold gJ;rw[List.length_append,List.length_replicate];omega
end
theorem uW{p:qD}{ah:Int}{d f:Nat}{g:qX}{args:List V}{s:St}(hg:p.funcs[f]? =some g)(hy:(aL ah (aQ g.az) {s with calls:=s.calls+1,deep:=max s.deep (s.calls+1)}).1=false):
  mZ p ah (d+1) f args s=(none,(aL ah (aQ g.az) {s with calls:=s.calls+1,deep:=max s.deep (s.calls+1)}).2):=by
 simp only[mZ,Int.toNat_natCast,List.getD_eq_getElem?_getD,hg,Option.getD_some,hy,if_true]
theorem xY{p:qD}{ah:Int}{d f nt:Nat}{g:qX}{args:List V}{s:St}(hg:p.funcs[f]? =some g)(hnt:g.bN=nt)(hy:(aL ah (aQ g.az) {s with calls:=s.calls+1,deep:=max s.deep (s.calls+1)}).1=true):
  mZ p ah (d+1) f args s=bV (mZ p ah d) ah (cX s.mem g.az.length) g.blocks (ah-(s.steps+aQ g.az)+1).toNat 0 {s with calls:=s.calls+1,deep:=max s.deep (s.calls+1),steps:=s.steps+aQ g.az,mem:=bf s.mem g.az} (gJ nt args):=by
 obtain⟨hy0,hy1,hy2⟩:=nJ hy;simp only[mZ,Int.toNat_natCast,List.getD_eq_getElem?_getD,hg,Option.getD_some,hy,Bool.true_eq_false,if_false,hy2,hnt]
theorem xX{p:qD}(hp:EX p){ah:Int}(hf:ah<=100000000):∀(d:Nat)(c:Int),xe p ah c (mZ p ah d)
 |0,c,f,g,args,s,v,s',_,_,_,_,_,_,h=>by
  rw[mZ]at h;cases h
 |d+1,c,f,g,args,s,v,s',hg,hal,hI,hc,ha,hgl,h=>by
  have hfn:=hp.fns g (List.mem_of_getElem? hg);obtain⟨nt,hnt,Sk,hbk⟩:=hfn.nt;have GD:=hfn.params;by_cases hy:(aL ah (aQ g.az) {s with calls:=s.calls+1,deep:=max s.deep (s.calls+1)}).1=true
  ·rw[xY hg hnt hy]at h;obtain⟨_,hy1,_⟩:=nJ hy;simp only at hy1;obtain⟨k1,k2,k3,k4,k5⟩:=qR hfn hnt hI ha (by omega) hgl hf (by omega);obtain⟨b1,b2,b3,b4,b5⟩:=yP (λc=>xX hp hf d c) k4 hbk _ 0 k1 (by show 1<=s.calls+1;have:=hI.calls;omega) k2 k3 (by omega) (by have:=hfn.one;omega) h;have hcb:=dB (λo ho=>(hfn.UF o ho).1);refine⟨⟨b1,by rw[b2];show s.calls+1-1=s.calls;omega,?_,?_⟩,b5⟩
   ·have b3':(au (bf s.mem g.az)).length<=(au s'.mem).length:=b3;omega
   ·have b4':s.steps+aQ g.az<=s'.steps:=b4;omega
  ·rw[uW hg (by simpa using hy)]at h;cases h
end Go.Proofs.YtinmgbodgecoeaaGreat
namespace Go.Proofs.YtinmgbodgecoeaaGreat
open Go.RowKit
def qc(n:Int):T:= .node 1 n []
def fX(r:Int):T:= .node 2 r []
def gG(l:List bg)(n:Int):Nat:=l.findIdx λi=>decide (i.op=14/\i.n=n)
def aT(x:bg):qC:=
 if x.op=1 then⟨1,x.dst,0,0,[qc x.n]⟩
 else if x.op=2 then⟨1,x.dst,0,0,[fX x.a]⟩
 else if x.op=3 then⟨1,x.dst,0,0,[.node 3 x.n []]⟩
 else if x.op=4 then⟨1,x.dst,0,0,[.node 4 x.n []]⟩
 else if x.op=5 then⟨1,x.dst,0,0,[.node x.n 0 [fX x.a,fX x.b]]⟩
 else if x.op=6 then⟨1,x.dst,0,0,[.node x.n 0 [fX x.a,qc (x.arg.getD 0 0)]]⟩
 else if x.op=7 then⟨1,x.dst,0,0,[.node x.n 0 [fX x.a]]⟩
 else if x.op=8 then⟨1,x.dst,0,0,[.node x.n 0 [.node 12 0 [fX x.a,qc x.b]]]⟩
 else if x.op=9 then⟨2,-1,x.n,0,[.node 12 0 [fX x.a,qc x.b],fX x.dst]⟩
 else if x.op=10 then⟨3,x.dst,0,x.n,x.arg.map fX⟩
 else if x.op=11 then⟨4,-1,0,0,[fX x.a]⟩
 else if x.op=12 then⟨5,x.dst,0,0,[]⟩
 else if x.op=13 then⟨6,-1,0,0,[fX x.a]⟩
 else⟨1,-1,0,0,[qc 0]⟩
def eu(all:List bg):List bg->Nat->rZ
 |[],_=>⟨[],3,qc 0,0,0⟩
 |x::r,k=>
  if x.op=15 then⟨[],1,qc 0,(gG all x.n:Nat),0⟩
  else if x.op=16 then⟨[],2,fX x.a,(gG all x.n:Nat),(k+1:Nat)⟩
  else if x.op=17 then⟨[],3,fX x.a,0,0⟩
  else {eu all r (k+1)with steps:=aT x::(eu all r (k+1)).steps}
def b9(l:List bg):List rZ:=(List.range l.length).map λk=>eu l (l.drop k) k
def sA(c:aR):qX:=⟨c.params,c.regs,c.az,b9 c.ins⟩
def eB(v:bB):qD:=⟨v.ay,v.funcs.map sA,v.main⟩
theorem qA(l:List bg):(b9 l).length=l.length:=by simp[b9]
theorem Ia{l:List bg}{k:Nat}(hk:k<l.length):(b9 l)[k]? =some (eu l (l.drop k) k):=by
 unfold b9;rw[List.getElem?_map,List.getElem?_range hk];rfl
theorem gW{l:List bg}{k:Nat}(hk:k<l.length):(b9 l).getD k Eo=eu l (l.drop k) k:=by
 rw[List.getD_eq_getElem?_getD,Ia hk];rfl
theorem drop_cons{l:List bg}{k:Nat}{x:bg}(h:l[k]? =some x):l.drop k=x::l.drop (k+1):=by
 obtain⟨hk,hx⟩:=List.getElem?_eq_some_iff.1 h;rw[List.drop_eq_getElem_cons hk,hx]
def fF(x:bg):Prop:=x.op≠15/\x.op≠16/\x.op≠17
section
variable {R:bT} {ah:Int} {lo:List Nat} {l:List bg} {x:bg} {k:Nat} {s:St} {tp:List V}
theorem sD(h:l[k]? =some x)(hx:fF x):eu l (l.drop k) k={eu l (l.drop (k+1)) (k+1)with steps:=aT x::(eu l (l.drop (k+1)) (k+1)).steps}:=by
 rw[drop_cons h,eu,if_neg hx.1,if_neg hx.2.1,if_neg hx.2.2]
theorem yQ{b:rZ}{y:qC}:qT R ah lo s tp {b with steps:=y::b.steps}=match oz R ah lo s tp y with
  |(true,s',tp')=>qT R ah lo s' tp' b
  |(false,s',tp')=>(.over,s',tp'):=by
 unfold qT;rw[qI];rcases oz R ah lo s tp y with⟨ok,s',tp'⟩
 cases ok<;>rfl
theorem EF(h:l[k]? =some x)(hx:fF x)(hk:k+1<l.length)(g:Nat):
  bV R ah lo (b9 l) (g+1) (k:Nat) s tp=match oz R ah lo s tp (aT x)with
   |(true,s',tp')=>bV R ah lo (b9 l) (g+1) ((k+1:Nat):Int) s' tp'
   |(false,s',_)=>(none,s'):=by
 have hkl:k<l.length:=by omega
 rw[bV,Int.toNat_natCast,gW hkl,sD h hx,yQ];rcases hd:oz R ah lo s tp (aT x)with⟨ok,s',tp'⟩
 cases ok
 ·rfl
 ·simp only;rw[bV,Int.toNat_natCast,gW hk]
theorem GY(h:l[k]? =some x)(hx:fF x)(g:Nat)(hd:(oz R ah lo s tp (aT x)).1=false):
  bV R ah lo (b9 l) (g+1) (k:Nat) s tp=(none,(oz R ah lo s tp (aT x)).2.1):=by
 have hkl:k<l.length:=(List.getElem?_eq_some_iff.1 h).1;rw[bV,Int.toNat_natCast,gW hkl,sD h hx,yQ];rcases he:oz R ah lo s tp (aT x)with⟨ok,s',tp'⟩
 rw[he]at hd;simp only at hd;subst hd;rfl
theorem SH(h:l[k]? =some x)(hx:¬fF x)(g:Nat)(hy:(aL ah 1 s).1=false):
  bV R ah lo (b9 l) (g+1) (k:Nat) s tp=(none,(aL ah 1 s).2):=by
 have hkl:k<l.length:=(List.getElem?_eq_some_iff.1 h).1;have hst:(eu l (l.drop k) k).steps=[]:=by
  rw[drop_cons h,eu];by_cases iC:x.op=15
  ·rw[if_pos iC]
  by_cases mL:x.op=16
  ·rw[if_neg iC,if_pos mL]
  by_cases p8:x.op=17
  ·rw[if_neg iC,if_neg mL,if_pos p8]
  exact absurd ⟨iC,mL,p8⟩ hx
 rw[bV,Int.toNat_natCast,gW hkl];unfold qT;rw[hst,qI];simp only[hy,if_true]
theorem GZ(h:l[k]? =some x)(hx:x.op=15)(g:Nat)(hy:(aL ah 1 s).1=true):
  bV R ah lo (b9 l) (g+1) (k:Nat) s tp=bV R ah lo (b9 l) g ((gG l x.n:Nat):Int) (aL ah 1 s).2 tp:=by
 have hkl:k<l.length:=(List.getElem?_eq_some_iff.1 h).1;rw[bV,Int.toNat_natCast,gW hkl,drop_cons h,eu,if_pos hx];unfold qT;rw[qI];simp only[hy];rfl
theorem fH(M:List MO)(tp:List V)(lo:List Nat)(r:Int):gB M tp lo (fX r)=some (tp.getD r.toNat ⟨0,0⟩):=by
 rw[fX,gB,cF];rfl
theorem nT(M:List MO)(tp:List V)(lo:List Nat)(n:Int):gB M tp lo (qc n)=some ⟨0,n⟩:=by
 rw[qc,gB,cF];rfl
theorem rU(h:l[k]? =some x)(hx:x.op=16)(g:Nat)(hy:(aL ah 1 s).1=true):
  bV R ah lo (b9 l) (g+1) (k:Nat) s tp=bV R ah lo (b9 l) g (if tp.getD x.a.toNat ⟨0,0⟩=⟨0,0⟩then((k+1:Nat):Int)else((gG l x.n:Nat):Int)) (aL ah 1 s).2 tp:=by
 have hkl:k<l.length:=(List.getElem?_eq_some_iff.1 h).1;have iC:¬x.op=15:=by omega
 rw[bV,Int.toNat_natCast,gW hkl,drop_cons h,eu,if_neg iC,if_pos hx];unfold qT;rw[qI];simp only[hy,fH];rfl
theorem SG(h:l[k]? =some x)(hx:x.op=17)(g:Nat)(hy:(aL ah 1 s).1=true):
  bV R ah lo (b9 l) (g+1) (k:Nat) s tp=(some (tp.getD x.a.toNat ⟨0,0⟩),{(aL ah 1 s).2 with mem:=dL (aL ah 1 s).2.mem lo,calls:=(aL ah 1 s).2.calls-1}):=by
 have hkl:k<l.length:=(List.getElem?_eq_some_iff.1 h).1;have iC:¬x.op=15:=by omega
 have mL:¬x.op=16:=by omega
 rw[bV,Int.toNat_natCast,gW hkl,drop_cons h,eu,if_neg iC,if_neg mL,if_pos hx];unfold qT;rw[qI];simp only[hy,fH];rfl
end
end Go.Proofs.YtinmgbodgecoeaaGreat
namespace Go.Proofs.YtinmgbodgecoeaaGreat
open Go.RowKit
def aP(x:bg):Option (Bool×Bool×Bool×Bool×Bool):=
 if x.op=1\/x.op=3\/x.op=4 then some (true,false,false,true,false)
 else if x.op=2 then some (true,true,false,false,false)
 else if x.op=5 then some (true,true,true,true,false)
 else if x.op=6 then some (true,true,false,true,true)
 else if x.op=7\/x.op=8\/x.op=9 then some (true,true,false,true,false)
 else if x.op=10 then some (decide (x.dst≠ -1),false,false,true,true)
 else if x.op=11\/x.op=13\/x.op=17 then some (false,true,false,false,false)
 else if x.op=12 then some (true,false,false,false,false)
 else if x.op=14\/x.op=15 then some (false,false,false,true,false)
 else if x.op=16 then some (false,true,false,true,false)
 else none
def sH(r:Int)(named:Bool)(none nr:Int):Bool:=if named=true then decide (0<=r/\r<nr)else decide (r=none)
def sK(n:Int):Bool:=decide (-2147483648<=n/\n<=2147483647)
def dh(l:List bg)(n:Int):Bool:=l.any λi=>decide (i.op=14/\i.n=n)
def mF(l:List Int)(nr:Int):Bool:=l.all λr=>decide (0<=r/\r<nr)
def aH(c:aR)(ng nf:Int)(par:Int->Int->Bool)(x:bg):Bool:=
 if x.op=3 then decide (0<=x.n/\x.n<c.az.length)
 else if x.op=4 then decide (0<=x.n/\x.n<ng)
 else if x.op=5 then decide (12<=x.n/\x.n<=30)
 else if x.op=6 then decide (12<=x.n/\x.n<=30)&& (decide (x.arg.length=1)&& sK (x.arg.getD 0 0))
 else if x.op=7 then decide (31<=x.n/\x.n<=36)
 else if x.op=8 then decide (5<=x.n/\x.n<=11)&& sK x.b
 else if x.op=9 then j3 x.n && sK x.b
 else if x.op=10 then decide (0<=x.n/\x.n<nf)&& (mF x.arg c.regs && par x.n x.arg.length)
 else if x.op=15\/x.op=16 then dh c.ins x.n
 else true
def eN(x:bg):Bool:=decide (x.op=8\/x.op=9)
def sJ(c:aR)(ng nf:Int)(par:Int->Int->Bool)(x:bg):Bool:=
 match aP x with
 |none=>false
 |some (t,a,b,n,r)=>sH x.dst t (-1) c.regs && (sH x.a a 0 c.regs && ((eN x||sH x.b b 0 c.regs)&& ((n||decide (x.n=0))&& ((r||decide (x.arg.length=0))&& aH c ng nf par x))))
def i6:List bg->List bg->Bool
 |_,[]=>true
 |l,x::r=>(decide (x.op≠14)||(!dh l x.n && decide (0<=x.n/\x.n<8000)))&& i6 (l++[x]) r
def nZ(c:aR):Bool:=decide ((c.ins.getD (c.ins.length-1) ⟨0,0,0,0,0,[]⟩).op=15\/(c.ins.getD (c.ins.length-1) ⟨0,0,0,0,0,[]⟩).op=17\/(c.ins.getD (c.ins.length-1) ⟨0,0,0,0,0,[]⟩).op=13)
def wG(c:aR):Prop:=¬c.params<0/\¬c.params>4/\¬c.params>c.regs/\¬c.regs>8000/\fR c.az 400=true/\¬(c.ins.length:Int)<1/\¬(c.ins.length:Int)>8000/\i6 [] c.ins=true
instance(c:aR):Decidable (wG c):=by unfold wG;exact inferInstance
def gD(c:aR)(ng nf:Int)(par:Int->Int->Bool):Bool:=if wG c then(c.ins.all (sJ c ng nf par)&& nZ c)else false
def uK:aR:=⟨0,0,[],[]⟩
def gN(v:bB)(fn n:Int):Bool:=decide ((v.funcs.getD fn.toNat uK).params=n)
def s5(v:bB):Prop:=fR v.ay 16=true/\¬(v.funcs.length:Int)<1/\¬(v.funcs.length:Int)>8/\(0<=v.main/\v.main<(v.funcs.length:Int))/\(v.funcs.getD v.main.toNat uK).params=0
instance(v:bB):Decidable (s5 v):=by unfold s5;exact inferInstance
def bY(v:bB):Bool:=if s5 v then v.funcs.all (λc=>gD c v.ay.length v.funcs.length (gN v))else false
structure tJ (v:bB):Prop where
 ay:∀o,o∈v.ay->∀x,x∈o.init->In64 x
 az:∀c,c∈v.funcs->∀o,o∈c.az->∀x,x∈o.init->In64 x
 ins:∀c,c∈v.funcs->∀i,i∈c.ins->In64 i.op/\In64 i.dst/\In64 i.a/\In64 i.b/\In64 i.n/\∀x,x∈i.arg->In64 x
theorem SliceAt.mem'{α:Type}{w:World}{B sz:Nat}{E:(Nat->Option Value)->α->Prop}{l:List α}{v:Value}(h:SliceAt w B sz E l v){x:α}(hx:x∈l):∃c,E c x:=by
 obtain⟨i,hi⟩:=List.mem_iff_getElem?.1 hx;obtain⟨A,aA,_,_,h2⟩:=h;obtain⟨b,off,_,_,h3⟩:=h2 (List.length_pos_of_mem hx);exact⟨_,h3 i x hi⟩
theorem aD.Pc{w:World}{B:Nat}{l:List Int}{v:Value}(h:aD w B l v):∀x,x∈l->In64 x:=λx hx=>by
 obtain⟨c,_,h⟩:=SliceAt.mem' h hx;exact h
theorem bP.pin{w:World}{B:Nat}{P:Value×Value×Value}{v:bB}(h:bP w B P v):tJ v:=by
 obtain⟨hg,hf,_⟩:=h;refine⟨λo ho=>?_,λc hcm o ho=>?_,λc hcm i hi=>?_⟩
 ·obtain⟨c,_,_,⟨u,_,hv⟩,_⟩:=hg.mem' ho;exact hv.Pc
 ·obtain⟨c,_,_,⟨u,_,hl⟩,_⟩:=hf.mem' hcm;obtain⟨c,_,_,⟨u,_,hv⟩,_⟩:=hl.mem' ho;exact hv.Pc
 ·obtain⟨c,_,_,_,⟨u,_,hl⟩,_⟩:=hf.mem' hcm;obtain⟨c,_,_,_,_,_,⟨u,_,hv⟩,h0,h1,h2,h3,h4⟩:=hl.mem' hi;exact⟨h0,h1,h2,h3,h4,hv.Pc⟩
end Go.Proofs.YtinmgbodgecoeaaGreat
namespace Go.Proofs.YtinmgbodgecoeaaGreat
open Go.RowKit Go.Maps
theorem Et:Keyed prog 2:=int_keyed underlying2
theorem Gq(w:World):(zeroValue 3).run prog w= .ok (.int .i64 0) w:=by kernel_rfl
theorem Eu{k:Int}(h:In64 k):keyOf prog 2 (.int .i64 k)=some (.int .i64 k):=keyOf_int_mk underlying2 (WalkArith.wf_i64 (by unfold In64 at h;omega))
def WL(f:Int->Option Nat)(D:DataW Unit):Prop:=∀k,In64 k->Maps.has D (.int .i64 k)=(f k).isSome/\D.atKey (.int .i64 k) (.lit (.int .i64 0))= .lit (.int .i64 ((f k).getD 0:Nat))
def fL(w:World)(b n:Nat)(f:Int->Option Nat):Prop:=∃D:DataW Unit,w.ownsMap prog 2 (plainElem prog 3) b n D/\WL f D
theorem fL.made(w:World):fL (w.alloc (.map #[] 0)) w.heap.size 0 (λ_=>none):=
 ⟨.map [],World.ownsMap_made _ _ _ _,λk _=>⟨rfl,rfl⟩⟩
theorem fL.heap{w w':World}{b n:Nat}{f:Int->Option Nat}(h:fL w b n f)(hb:w'.heap[b]? =w.heap[b]?):fL w' b n f:=by
 obtain⟨D,⟨es,clock,h1,h2⟩,h3⟩:=h;exact⟨D,⟨es,clock,hb.trans h1,h2⟩,h3⟩
theorem fL.lt{w:World}{b n:Nat}{f:Int->Option Nat}(h:fL w b n f):b<w.heap.size:=by
 obtain⟨D,h1,_⟩:=h;exact h1.lt
theorem fL.wr{F:Nat->Prop}{w w':World}{b n:Nat}{f:Int->Option Nat}(h:fL w b n f)(hw:Wr F w w')(hF:¬F b):fL w' b n f:=h.heap (hw.block b h.lt hF)
theorem fL.below{w w':World}{b n:Nat}{f:Int->Option Nat}(h:fL w b n f)(hw:Below w.heap.size w w'):fL w' b n f:=h.heap (hw.block b h.lt)
theorem fL.ne{w:World}{b n g:Nat}{f:Int->Option Nat}{cs:Array Value}{t:TypeId}(h:fL w b n f)(hr:Row w g cs t):b≠g:=by
 rintro rfl;obtain⟨D,⟨es,clock,h1,_⟩,_⟩:=h;have h2:=h1.symm.trans (show w.heap[b]? =some (.cells cs t (0,0))from hr);exact Obj.noConfusion (Option.some.inj h2)
theorem fL.look{w:World}{b n:Nat}{f:Int->Option Nat}(h:fL w b n f){k:Int}(hk:In64 k):(Instr.lookup 71 (.map (some b)) (.int .i64 k) false).run prog w= .ok (.int .i64 ((f k).getD 0:Nat)) w:=by
 obtain⟨D,h1,h2⟩:=h;obtain⟨c,hrun,hat,_⟩:=h1.lookup_int Et underlying71 underlying3 (Gq w) (Eu hk);have:=(h2 k hk).2;rw[hat]at this;injection this with this;injection this with _ this;rw[hrun,this]
def gS(l:List bg)(n:Int):Option Nat:=if dh l n=true then some (gG l n)else none
theorem nP{l:List bg}{x:bg}{n:Int}:dh (l++[x]) n=(dh l n||decide (x.op=14/\x.n=n)):=by simp[dh]
theorem Gr{l r:List bg}{n:Int}(h:dh l n=true):gG (l++r) n=gG l n:=by
 unfold dh at h;unfold gG;rw[List.findIdx_append,if_pos];rw[List.any_eq_true]at h;obtain⟨x,hx,hp⟩:=h;exact List.findIdx_lt_length_of_exists ⟨x,hx,hp⟩
theorem Gs{l:List bg}{x:bg}{n:Int}(h:dh l n=false)(hx:x.op=14/\x.n=n):gG (l++[x]) n=l.length:=by
 unfold dh at h;unfold gG;have hl:l.findIdx (λi=>decide (i.op=14/\i.n=n))=l.length:=by
  rw[List.findIdx_eq_length];intro y hy;cases hp:decide (y.op=14/\y.n=n)with
  |false=>rfl
  |true=>
   have this:l.any (λi=>decide (i.op=14/\i.n=n))=true:=List.any_eq_true.2 ⟨y,hy,hp⟩;rw[h]at this;cases this
 rw[List.findIdx_append,hl,if_neg (by omega)];have:List.findIdx (λi=>decide (i.op=14/\i.n=n)) [x]=0:=by
  rw[List.findIdx_cons,decide_eq_true hx];rfl
 omega
theorem A7{l:List bg}{x:bg}{n:Int}(hx:¬(x.op=14/\x.n=n)):gS (l++[x]) n=gS l n:=by
 unfold gS;rw[nP,decide_eq_false hx,Bool.or_false];by_cases h:dh l n=true
 ·rw[if_pos h,if_pos h,Gr h]
 ·rw[if_neg h,if_neg h]
theorem O5{l:List bg}{x:bg}(h:dh l x.n=false)(hx:x.op=14):gS (l++[x]) x.n=some l.length:=by
 unfold gS;rw[nP,decide_eq_true ⟨hx,rfl⟩,Bool.or_true,if_pos rfl,Gs h ⟨hx,rfl⟩]
theorem iK{P:Program}{id:Nat}{Q:Exit->Act->World->Prop}{a:Act}{w:World}{l:List Oper}(hm:P.follows .mixedOrders=true)(hB:Region.lexB .any l.toArray=true)
  (h:wpQuiet P l.toArray (λw'=>w'=w.drew) (λa'=>Q .normal a' w.drew) l a):(Code.region id l.toArray true).wp P Q a w:=
 wp_region_still_lit hm hB (s8 h)
theorem fL.Dy{w:World}{b n:Nat}{f:Int->Option Nat}(h:fL w b n f){k:Int}(hk:In64 k):(Instr.lookup 71 (.map (some b)) (.int .i64 k) true).run prog w= .ok (.tuple #[.int .i64 ((f k).getD 0:Nat),.bool (f k).isSome]) w:=by
 obtain⟨D,h1,h2⟩:=h;obtain⟨v,ps,hrun,hR⟩:=h1.look_ok Et underlying71 (Gq w) (plainElem_int underlying3 (a:=0) rfl) (Eu hk);obtain⟨a,rfl,hz,_⟩:=plainElem_int_inv underlying3 hR;obtain⟨h3,h4⟩:=h2 k hk;have he:D.atKey (.int .i64 k) (.lit (.int .i64 0))= .lit (.int .i64 a):=congrArg Prod.fst hz;rw[h4]at he;injection he with he;injection he with _ he;rw[hrun,h3,he]
theorem O6{f:Int->Option Nat}{D:DataW Unit}(hD:IsMap D)(h:WL f D){k:Int}(v:Nat){g:Int->Option Nat}(hg:g k=some v)(ho:∀j,j≠k->g j=f j):WL g (D.put (.int .i64 k) (.lit (.int .i64 (v:Nat)))):=by
 have hkl:WideAt.IsKeyLit (.int .i64 k):=trivial;intro j hj;by_cases e:j=k
 ·subst e;rw[hg];exact⟨has_put_same hD hkl _,atKey_put_same hD hkl _ _⟩
 ·have hne:(Lit.int .i64 j)≠Lit.int .i64 k:=λh=>by injection h with _ h;exact e h
  rw[ho j e];exact⟨(has_put_other hne _).trans (h j hj).1,(atKey_put_other hne _ _).trans (h j hj).2⟩
theorem fL.congr{w:World}{b n:Nat}{f g:Int->Option Nat}(h:fL w b n f)(hg:∀j,g j=f j):fL w b n g:=by
 rw[show g=f from funext hg];exact h
theorem o9{l:List bg}{n:Int}:(gS l n).isSome=dh l n:=by
 unfold gS;cases h:dh l n<;>simp
theorem MP{l r:List bg}{x:bg}(h:x.op≠14):i6 l (x::r)=i6 (l++[x]) r:=by
 rw[i6,decide_eq_true h];rfl
theorem Es{l r:List bg}{x:bg}(h:x.op=14)(h':dh l x.n=true\/x.n<0\/8000<=x.n):i6 l (x::r)=false:=by
 rw[i6,decide_eq_false (by omega),Bool.false_or];rcases h' with h'|h'
 ·rw[h'];rfl
 ·rw[decide_eq_false (by omega),Bool.and_false];rfl
theorem O2{l r:List bg}{x:bg}(h:x.op=14)(h1:dh l x.n=false)(h2:0<=x.n)(h3:x.n<8000):i6 l (x::r)=i6 (l++[x]) r:=by
 rw[i6,h1];simp[h2,h3]
def EZ(ab:Nat)(l:List bg)(Yb Ya X9 zz3 X8 X7 X6:Value)(w:World)(e:Ending)(w':World):Prop:=
 e= .returned (.bool (i6 [] l))/\∃mb n,w.heap.size<=mb/\n<=l.length/\Row w' ab #[Yb,Ya,X9,zz3,X8,X7,X6,.map (some mb)] 103/\Wr (λk=>k=ab) w w'/\mb<w'.heap.size/\(i6 [] l=true->fL w' mb n (gS l))
theorem Fx(ai ab:Nat)(l:List bg)(BA:Option Addr)(cI:Nat)(Yb Ya X9 X8 X7 X6 zz7:Value)(w:World)(hr:Row w ab #[Yb,Ya,X9,.slice BA l.length cI,X8,X7,X6,zz7] 103)(hl:SliceAt w ai 6 (kI w ai) l (.slice BA l.length cI))(hab:ai<=ab)(hlen:l.length<=8000):
  Calls prog 43 #[.pointer (some ⟨ab,0,none⟩)] w λe w'=>EZ ab l Yb Ya X9 (.slice BA l.length cI) X8 X7 X6 w e w':=by
 have hrl:=hr.lt;have hbs:ai<=w.heap.size:=by omega
 have hmm:=@run_makeMap prog;have hr2:=(hr.set 7 (.map (some w.heap.size))).alloc (.map #[] 0);have r3:=hr.cell (j:=3) rfl;have r7:=hr.cell (j:=7) rfl;have f7:=hr.free 7;have s3:=hr2.cell (j:=3) rfl;have DW:=ae hr2;have z6:=ae ((Wr.cell1 w ab 7 (.map (some w.heap.size))).bH (.map #[] 0));have TQ:=ae (by simpa using fL.made (w.setCell ⟨ab,7,none⟩ (.map (some w.heap.size))):fL ((w.setCell ⟨ab,7,none⟩ (.map (some w.heap.size))).alloc (.map #[] 0)) w.heap.size 0 (λ_=>none));have HL:=ae hl;clear hr hr2 hl;go_enter func43,ntmps43;refine aj λQ HQ=>?_;go_wp2_with fail
 go_loopw [17] (λi wr=>∃k n,i= .int .i64 (k:Nat)/\k<=l.length/\n<=k/\i6 (l.take k) (l.drop k)=i6 [] l/\Row wr ab #[Yb,Ya,X9,.slice BA l.length cI,X8,X7,X6,.map (some w.heap.size)] 103/\fL wr w.heap.size n (gS (l.take k))/\Wr (λk=>k=ab) w wr) (λi _=>l.length-(intOf i).toNat)
 case atStart=>exact⟨0,0,rfl,Nat.zero_le _,aY _,rfl,DW.out,TQ.congr (λj=>rfl),z6.out⟩
 case round=>
  obtain⟨k,n,rfl,hk,hn,sN,hr,hm,hw⟩:=hrel;have HR:=ae hr;have HM:=ae hm;have HW:=ae hw;have qW:=ae sN;have pS:=hw.size;by_cases hlt:k<l.length
  ·have aJ:Below ai w wr:=hw.below hbs (λk hk=>by have e:k=ab:=hk;omega);obtain⟨bb,zO,x,rfl,hbb,hbk,b0,b1,b2,b3,b4,⟨sv,b5,hst⟩,hx0,hx1,hx2,hx3,Fj⟩:=(HL.below aJ (aY _) (λ_ _ h=>h.below aJ (aY _))).get hlt;simp only[Nat.add_zero]at b0 b1 b2 b3 b4 b5;obtain⟨SA,scap,vA⟩:∃SA scap,sv= .slice SA x.arg.length scap:=(by obtain⟨A',c',h,_⟩:=hst;exact⟨_,_,h⟩)
   subst vA;have HX:=ae Fj;have hkb:(k:Int)<(l.length:Int):=by omega
   have iF:bb<wr.heap.size:=by omega
   have hdrop:=drop_cons hbk;have htake:l.take (k+1)=l.take k++[x]:=bW hbk;have Lt:(l.take k).length=k:=by rw[List.length_take];omega
   have QN:=ae (And.intro hdrop (And.intro htake Lt));have KX:=ae (Row.new wr #[.int .i64 x.op,.int .i64 x.dst,.int .i64 x.a,.int .i64 x.b,.int .i64 x.n,.slice SA x.arg.length scap] 94);have tZ:=ae (hr.alloc (.cells #[.int .i64 x.op,.int .i64 x.dst,.int .i64 x.a,.int .i64 x.b,.int .i64 x.n,.slice SA x.arg.length scap] 94));have NM:=ae (hm.below (ax wr (.cells #[.int .i64 x.op,.int .i64 x.dst,.int .i64 x.a,.int .i64 x.b,.int .i64 x.n,.slice SA x.arg.length scap] 94)));have Qy:=ae (hw.bH (.cells #[.int .i64 x.op,.int .i64 x.dst,.int .i64 x.a,.int .i64 x.b,.int .i64 x.n,.slice SA x.arg.length scap] 94));by_cases hop:x.op=14
   ·have HOP:=ae hop;have PR:(dh (l.take k) x.n=true)\/(dh (l.take k) x.n=false/\decide (x.n<0)=true)\/(dh (l.take k) x.n=false/\decide (x.n<0)=false/\decide (8000<=x.n)=true)\/(dh (l.take k) x.n=false/\decide (x.n<0)=false/\decide (8000<=x.n)=false):=by
     cases dh (l.take k) x.n<;>cases decide (x.n<0)<;>cases decide (8000<=x.n)<;>simp
    clear hr hm hw sN hbk hst hdrop htake Lt aJ hx0 hx1 hx2 hx3 Fj;rcases PR with hv|⟨hv,e0⟩|⟨hv,e0,e1⟩|⟨hv,e0,e1⟩
    ·have HV:=ae hv;have II:=ae (show i6 [] l=false by rw[<-qW.out,QN.1,Es HOP (aK HV.out)]);clear hv;go_wp2_with fail;obtain⟨w1,hw1⟩:∃w1,w1=wr.alloc (.cells #[.int .i64 x.op,.int .i64 x.dst,.int .i64 x.a,.int .i64 x.b,.int .i64 x.n,.slice SA x.arg.length scap] 94):=⟨_,rfl⟩
     rw[<-hw1]at KX tZ NM Qy;rw[hop]at hw1;rw[<-hw1];clear hw1 hop;have x4:=KX.cell (j:=4) rfl;have xl:=KX.lt;have a7:=tZ.cell (j:=7) rfl;have al:=tZ.lt;have hlk:=(NM.below (aV _ _).drew).Dy HX.out;rw[o9,HV.out]at hlk;refine iK (by kernel_rfl) (by kernel_rfl) ?_
     repeat(go_big_quiet_step (fail))
     refine wpQuiet_nil ?_;go_wp2_with fail;refine HQ _ _ _ ?_;refine aS (v:= .bool false) (by simp[results,results43,go_sem]) rfl ?_;exact⟨by rw[II.out],w.heap.size,n,aY _,by omega,tZ.drew,Qy.bR,by have:=NM.lt;simpa using this,λh=>by rw[II.out]at h;cases h⟩
    ·have HV:=ae hv;have II:=ae (show i6 [] l=false by rw[<-qW.out,QN.1,Es HOP (bu (aK (by simpa using e0)))]);clear hv;go_wp2_with fail;obtain⟨w1,hw1⟩:∃w1,w1=wr.alloc (.cells #[.int .i64 x.op,.int .i64 x.dst,.int .i64 x.a,.int .i64 x.b,.int .i64 x.n,.slice SA x.arg.length scap] 94):=⟨_,rfl⟩
     rw[<-hw1]at KX tZ NM Qy;rw[hop]at hw1;rw[<-hw1];clear hw1 hop;have x4:=KX.cell (j:=4) rfl;have xl:=KX.lt;have a7:=tZ.cell (j:=7) rfl;have al:=tZ.lt;have hlk:=(NM.below (aV _ _).drew).Dy HX.out;rw[o9,HV.out]at hlk;refine iK (by kernel_rfl) (by kernel_rfl) ?_
     repeat(go_big_quiet_step (fail))
     refine wpQuiet_nil ?_;go_wp2_with fail;refine HQ _ _ _ ?_;refine aS (v:= .bool false) (by simp[results,results43,go_sem]) rfl ?_;exact⟨by rw[II.out],w.heap.size,n,aY _,by omega,tZ.drew,Qy.bR,by have:=NM.lt;simpa using this,λh=>by rw[II.out]at h;cases h⟩
    ·have HV:=ae hv;have II:=ae (show i6 [] l=false by rw[<-qW.out,QN.1,Es HOP (bu (bu (by simpa using e1)))]);clear hv;go_wp2_with fail;obtain⟨w1,hw1⟩:∃w1,w1=wr.alloc (.cells #[.int .i64 x.op,.int .i64 x.dst,.int .i64 x.a,.int .i64 x.b,.int .i64 x.n,.slice SA x.arg.length scap] 94):=⟨_,rfl⟩
     rw[<-hw1]at KX tZ NM Qy;rw[hop]at hw1;rw[<-hw1];clear hw1 hop;have x4:=KX.cell (j:=4) rfl;have xl:=KX.lt;have a7:=tZ.cell (j:=7) rfl;have al:=tZ.lt;have hlk:=(NM.below (aV _ _).drew).Dy HX.out;rw[o9,HV.out]at hlk;refine iK (by kernel_rfl) (by kernel_rfl) ?_
     repeat(go_big_quiet_step (fail))
     refine wpQuiet_nil ?_;go_wp2_with fail;refine HQ _ _ _ ?_;refine aS (v:= .bool false) (by simp[results,results43,go_sem]) rfl ?_;exact⟨by rw[II.out],w.heap.size,n,aY _,by omega,tZ.drew,Qy.bR,by have:=NM.lt;simpa using this,λh=>by rw[II.out]at h;cases h⟩
    ·have HV:=ae hv;have HYES:=ae (show i6 (l.take k++[x]) (l.drop (k+1))=i6 [] l by rw[<-qW.out,QN.1,O2 HOP.out HV (by simpa using e0) (by simpa using e1)]);clear hv;go_wp2_with fail;obtain⟨w1,hw1⟩:∃w1,w1=wr.alloc (.cells #[.int .i64 x.op,.int .i64 x.dst,.int .i64 x.a,.int .i64 x.b,.int .i64 x.n,.slice SA x.arg.length scap] 94):=⟨_,rfl⟩
     rw[<-hw1]at KX tZ NM Qy;rw[hop]at hw1;rw[<-hw1];clear hw1 hop;have x4:=KX.cell (j:=4) rfl;have xl:=KX.lt;have a7:=tZ.cell (j:=7) rfl;have al:=tZ.lt;have hlk:=(NM.below (aV _ _).drew).Dy HX.out;rw[o9,HV.out]at hlk;refine iK (by kernel_rfl) (by kernel_rfl) ?_
     repeat(go_big_quiet_step (fail))
     refine wpQuiet_nil ?_;go_wp2_with fail;obtain⟨D,hown,hD⟩:=NM.below (aV _ _).drew.drew;have HXIN:=ae HX.out;refine aX 7 (by kernel_rfl) (by kernel_rfl) ?_;simp only[List.take_succ_cons,List.take_zero,List.drop_succ_cons,List.drop_zero]
     repeat(go_big_quiet_step (fail))
     refine wpQuiet_nil ?_;go_wp2_with(first|(at_mapUpdate;refine wpList_mapUpdate_own _ rfl _ _ _ 71 rfl 2 3 Et underlying71 _ w.heap.size n _ rfl hown (by unfold maxLen;omega) _ _ _ rfl rfl (Eu HXIN.out) _ [] (plainElem_int underlying3 (WalkArith.wf_i64 (by omega))) ?_)|go_in);intro w2 hown2 hg2;have hD2:=O6 (g:=gS (l.take (k+1))) hown.isMap hD k (by rw[QN.2.1,O5 HV.out HOP.out,QN.2.2]) (λj hj=>by rw[QN.2.1,A7 (λh=>hj h.2.symm)]);have DD:=Wr.grown (F:=λi=>i=w.heap.size) hg2 (λk hk=>by cases hk;rfl);have HR9:=ae ((tZ.drew.drew).wr DD (by omega));have HM9:=ae (⟨_,hown2,hD2⟩:fL w2 w.heap.size (n+1) (gS (l.take (k+1))));have XS:=ae (Qy.bR.bR.trans DD (λi hi=>bu (by have:i=w.heap.size:=hi;omega)))
     clear hown hD hown2 hg2 hD2 DD;go_wp2_with fail;go_roundw
     case rel=>exact⟨k+1,n+1,by go_num,hlt,by omega,by rw[QN.2.1];exact HYES.out,HR9.out,HM9.out,XS.out⟩
     case measure=>simp[intOf];omega
   ·clear hr hm hw sN hbk hst hdrop htake Lt aJ hx0 hx1 hx2 hx3 Fj;go_wp2_with fail;go_roundw
    case rel=>
     refine⟨k+1,n,by go_num,hlt,by omega,?_,tZ.out,NM.congr (λj=>?_),Qy.out⟩
     ·rw[QN.2.1,<-MP hop,<-QN.1];exact qW.out
     ·rw[QN.2.1,A7 (λh=>hop h.1)]
    case measure=>simp[intOf];omega
  ·obtain rfl:k=l.length:=by omega
   rw[List.take_length,List.drop_length]at sN;rw[List.take_length]at hm;have HM':=ae hm;have J7:i6 [] l=true:=by rw[<-sN,i6]
   have HY:=ae J7;clear hr hm hw sN J7;go_wp2_with fail;refine HQ _ _ _ ?_;refine aS (v:= .bool true) (by simp[results,results43,go_sem]) rfl ?_;exact⟨by rw[HY.out],w.heap.size,n,aY _,hn,HR.out,HW.out,HM'.lt,λ_=>HM'.out⟩
end Go.Proofs.YtinmgbodgecoeaaGreat
namespace Go.Proofs.YtinmgbodgecoeaaGreat
open Go.RowKit
def Iu(w:World)(B mb mo k:Nat)(o:MO):Prop:=
 ∃A len aA,w.cell? ⟨mb,mo+k*3,none⟩=some (.int .i64 o.size)/\w.cell? ⟨mb,mo+k*3+1,none⟩=some (.slice A len aA)/\w.cell? ⟨mb,mo+k*3+2,none⟩=some (.bool (!o.live))/\
  (o.live=true->o.l.length=len/\EW w B A o.l)/\len<=64/\0<=o.size/\o.size<=8
def bU(w:World)(B:Nat)(A:Option Addr)(n:Nat)(M:List MO):Prop:=
 M.length<=n+1/\n<=4294967296/\∀k o,M[k+1]? =some o->∃mb mo,A=some ⟨mb,mo,none⟩/\mb<B/\k<n/\Iu w B mb mo k o
theorem bU.get{w:World}{B n:Nat}{A:Option Addr}{M:List MO}(h:bU w B A n M){k:Nat}(hk:k+1<M.length):
  ∃mb mo,A=some ⟨mb,mo,none⟩/\mb<B/\k<n/\Iu w B mb mo k (aG M (k+1)):=
 h.2.2 k _ (qj hk)
theorem Iu.below{w w':World}{B B' mb mo k:Nat}{o:MO}(h:Iu w B mb mo k o)(hb:Below B w w')(hB:B<=B')(hm:mb<B):Iu w' B' mb mo k o:=by
 obtain⟨A,len,aA,c0,c1,c2,h1,h2⟩:=h;exact⟨A,len,aA,(hb.cell (p:=⟨mb,mo+k*3,none⟩) hm).trans c0,(hb.cell (p:=⟨mb,mo+k*3+1,none⟩) hm).trans c1,(hb.cell (p:=⟨mb,mo+k*3+2,none⟩) hm).trans c2,λhl=>⟨(h1 hl).1,(h1 hl).2.below hb hB⟩,h2⟩
theorem bU.below{w w':World}{B B' n:Nat}{A:Option Addr}{M:List MO}(h:bU w B A n M)(hb:Below B w w')(hB:B<=B'):bU w' B' A n M:=by
 refine⟨h.1,h.2.1,λk o hk=>?_⟩;obtain⟨mb,mo,hA,hlt,hkn,ho⟩:=h.2.2 k o hk;exact⟨mb,mo,hA,by omega,hkn,ho.below hb hB hlt⟩
end Go.Proofs.YtinmgbodgecoeaaGreat
