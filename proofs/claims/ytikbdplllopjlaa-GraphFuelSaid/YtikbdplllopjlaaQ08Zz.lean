/- The graph's machine: a step, whole. Conditions: as stated. The graph's machine: the state between a block's steps. Conditions: as stated. 'copy' of a row of values into a row that is known whole. No program in sight but its name. No condition. -/
import Derived.Test.YtikbdplllopjlaaGStepEZz
import Derived.Test.YtikbdplllopjlaaQ02Zz
import Derived.Laws.CopyOwn
set_option linter.unusedVariables false
set_option linter.unusedSimpArgs false
namespace Go.Proofs.Ytikbdplllopjlaa
open Go.RowKit

theorem gstep_any (base cb hb rb fb tb : Nat) (own : Nat → Prop) (P : Value × Value × Value) (gv lv : Value) (fuel : Int) (s : St) (tp : List V) (lo : List Nat) (R : CallR) (p : ProgS) (x : StepS) (A : Option Addr) (n cap : Nat) (w : World)
    (h : HCs w base own cb hb fuel s) (hR : GRun w rb cb hb P gv p.globs.length) (hF : GFrame w fb tb tp lv lo) (hO : GOff base own rb fb tb lv gv) (hFr : FrOk (memBase s.mem) tp lo p.globs.length) (hI : GInv fuel s) (hf : fuel ≤ 100000000)
    (hx : StepOkG p tp.length lo.length x) (hk : KidsV w base x.args A n) (hP : ProgAt w base P p) (hcall : GCallOk p fuel s.calls R) :
    Calls Try.prog 33 #[.pointer (some ⟨rb, 0, none⟩), .pointer (some ⟨fb, 0, none⟩), .agg #[.int .i64 x.op, .int .i64 x.to, .int .i64 x.size, .int .i64 x.fn, .slice A n cap]] w fun e w' => GSays base cb hb fuel fb tb lv lo own (doesF R fuel lo s tp x) w e w' := by
  obtain ⟨op, dst, size, fn, ks⟩ := x
  obtain ⟨hts, hti, hlen, hop⟩ := hx
  simp only at hts hti hlen hop hk ⊢
  have hn : n ≤ 1000 := by have := hk.1; omega
  by_cases hy : (stepF fuel 1 s).1 = true
  · cases he : evalTs s.mem tp lo ks with
    | none => exact gstep_fail base cb hb rb fb tb own P gv lv fuel s tp lo _ R op dst size fn ks A n cap w h hR hF hO hFr hI hf hts hk hn hy he
    | some l =>
      have hll := evalTs_length he
      rcases hop with ⟨rfl, h2, h3, h4⟩ | ⟨rfl, h2, rfl, h4⟩ | ⟨rfl, ⟨f, g, rfl, h3, h4⟩, h5⟩ | ⟨rfl, h2, rfl⟩ | ⟨rfl, h2, h3, h4⟩ | ⟨rfl, h2, rfl⟩
      · obtain ⟨m, rfl⟩ := Int.eq_ofNat_of_zero_le h3
        exact gstep_set base cb hb rb fb tb own P gv lv fuel s tp lo _ R size fn m ks A n cap w h hR hF hO hFr hI hf hts hk hn hy l he (by omega) (by omega)
      · obtain ⟨sz, rfl⟩ : ∃ sz : Nat, size = sz := Int.eq_ofNat_of_zero_le (by omega)
        cases hst : storeF s.mem (sz : Int) (l.getD 0 ⟨0, 0⟩) (l.getD 1 ⟨0, 0⟩) with
        | none => exact gstep_store_stuck base cb hb rb fb tb own P gv lv fuel s tp lo _ R (-1) fn sz ks A n cap w h hR hF hO hFr hI hf hts hk hn hy l he hti (by omega) (by omega) hst
        | some M => exact gstep_store base cb hb rb fb tb own P gv lv fuel s tp lo _ R (-1) fn sz ks A n cap w h hR hF hO hFr hI hf hts hk hn hy l he hti (by omega) (by omega) M hst
      · rcases hcr : R f l { s with steps := s.steps + 1 } with ⟨_ | v, s2⟩
        · exact gstep_call_over base cb hb rb fb tb own P gv lv fuel s tp lo _ R dst size f ks A n cap w h hR hF hO hFr hI hf hts hk hn hy l he p g rfl hti h3 (by rw [hll]; exact h4) hP hcall s2 hcr
        · rcases h5 with rfl | ⟨h5, h6⟩
          · exact gstep_call_drop base cb hb rb fb tb own P gv lv fuel s tp lo _ R size f ks A n cap w h hR hF hO hFr hI hf hts hk hn hy l he p g rfl hti h3 (by rw [hll]; exact h4) hP hcall s2 v hcr
          · obtain ⟨m, rfl⟩ := Int.eq_ofNat_of_zero_le h5
            exact gstep_call_set base cb hb rb fb tb own P gv lv fuel s tp lo _ R size m f ks A n cap w h hR hF hO hFr hI hf hts hk hn hy l he (by omega) p g rfl hti h3 (by rw [hll]; exact h4) hP hcall s2 v hcr
      · by_cases hv : (l.getD 0 ⟨0, 0⟩).obj = 0
        · exact gstep_put base cb hb rb fb tb own P gv lv fuel s tp lo _ R (-1) size fn ks A n cap w h hR hF hO hFr hI hf hts hk hn hy l he (by omega) hv
        · exact gstep_put_stuck base cb hb rb fb tb own P gv lv fuel s tp lo _ R (-1) size fn ks A n cap w h hR hF hO hFr hI hf hts hk hn hy l he (by omega) hv
      · obtain ⟨m, rfl⟩ := Int.eq_ofNat_of_zero_le h3
        exact gstep_get base cb hb rb fb tb own P gv lv fuel s tp lo _ R size fn m ks A n cap w h hR hF hO hFr hI hf hts hk hn hy l he (by omega)
      · exact gstep_exit base cb hb rb fb tb own P gv lv fuel s tp lo _ R (-1) size fn ks A n cap w h hR hF hO hFr hI hf hts hk hn hy l he (by omega)
  · exact gstep_dry base cb hb rb fb tb own P gv lv fuel s tp lo _ R op dst size fn ks A n cap w h hR hF hO hFr hI hf hts hk hn (by simpa using hy)
end Go.Proofs.Ytikbdplllopjlaa
namespace Go.Proofs.Ytikbdplllopjlaa
open Go.RowKit

/-- How a block's call answers. -/
def BlkAns : Goes → Int → Int → Int → Bool → Prop
  | .over, _, _, _, ok => ok = false
  | .next j, k, _, _, ok => ok = true ∧ k = j
  | .ret v, k, y0, y1, ok => ok = true ∧ k = -1 ∧ y0 = v.obj ∧ y1 = v.n
def GBlockSays (base cb hb : Nat) (fuel : Int) (fb tb : Nat) (lv : Value) (lo : List Nat) (own : Nat → Prop) (r : Goes × St × List V) (w : World) (e : Ending) (w' : World) : Prop :=
  ∃ (k y0 y1 : Int) (ok : Bool), e = .returned (.tuple #[.int .i64 k, .agg #[.int .i64 y0, .int .i64 y1], .bool ok]) ∧ BlkAns r.1 k y0 y1 ok ∧ ∃ own' : Nat → Prop, (∀ k, own k → own' k) ∧ (∀ k, own' k → own k ∨ w.heap.size ≤ k) ∧ HCs w' base own' cb hb fuel r.2.1 ∧ (ok = true → GFrame w' fb tb r.2.2 lv lo) ∧ Wr (fun b => own b ∨ b = tb) w w'

/-- The state between a block's steps. -/
structure BIn (base cb hb rb fb tb : Nat) (own : Nat → Prop) (fuel : Int) (P : Value × Value × Value) (gv lv : Value) (lo : List Nat) (ng nt : Nat) (s : St) (bc : Array Value) (w : World) (own2 : Nat → Prop) (st : St) (tp : List V) (wr : World) : Prop where
  up : ∀ k, own k → own2 k
  dn : ∀ k, own2 k → own k ∨ w.heap.size + 2 ≤ k
  hc : HCs wr base own2 cb hb fuel st
  run : GRun wr rb cb hb P gv ng
  fr : GFrame wr fb tb tp lv lo
  off : GOff base own2 rb fb tb lv gv
  frok : FrOk (memBase st.mem) tp lo ng
  kept : GKept fuel s st
  len : tp.length = nt
  box : Row wr w.heap.size bc 65
  val : Row wr (w.heap.size + 1) #[.int .i64 0, .int .i64 0] 55
  ocb : own cb
  owl : ∀ k, own k → k < w.heap.size
  tbl : tb < w.heap.size
  pos : base ≤ w.heap.size
  wr : Wr (fun b => own b ∨ b = tb) w wr

section
variable {base cb hb rb fb tb : Nat} {own : Nat → Prop} {fuel : Int} {P : Value × Value × Value} {gv lv : Value} {lo : List Nat} {ng nt : Nat} {s : St} {bc : Array Value} {w : World} {own2 : Nat → Prop} {st : St} {tp : List V} {wr wr' : World}
theorem BIn.nown (h : BIn base cb hb rb fb tb own fuel P gv lv lo ng nt s bc w own2 st tp wr) : ¬ own2 w.heap.size ∧ ¬ own2 (w.heap.size + 1) :=
  ⟨fun e => by rcases h.dn _ e with h' | h'; have := h.owl _ h'; omega; omega, fun e => by rcases h.dn _ e with h' | h'; have := h.owl _ h'; omega; omega⟩
theorem BIn.below (h : BIn base cb hb rb fb tb own fuel P gv lv lo ng nt s bc w own2 st tp wr) (hbw : Below wr.heap.size wr wr') : BIn base cb hb rb fb tb own fuel P gv lv lo ng nt s bc w own2 st tp wr' :=
  ⟨h.up, h.dn, h.hc.below hbw, h.run.below hbw, h.fr.below hbw, h.off, h.frok, h.kept, h.len, h.box.below hbw h.box.lt, h.val.below hbw h.val.lt, h.ocb, h.owl, h.tbl, h.pos, h.wr.trans (Wr.of_below (F := fun _ => False) hbw) (fun _ h => h.elim)⟩
theorem BIn.bas (h : BIn base cb hb rb fb tb own fuel P gv lv lo ng nt s bc w own2 st tp wr) : Below base w wr :=
  h.wr.below h.pos (fun k hk => by
    rcases hk with hk | rfl
    · exact (h.hc.blocks.2.2 k (h.up k hk)).1
    · exact h.off.otb.2)
/-- A step that went on. -/
theorem BIn.step (h : BIn base cb hb rb fb tb own fuel P gv lv lo ng nt s bc w own2 st tp wr) {r : Bool × St × List V} {e : Ending} (hs : GSays base cb hb fuel fb tb lv lo own2 r wr e wr') (hr : r.1 = true) (hk : GKept fuel st r.2.1 ∧ FrOk (memBase r.2.1.mem) r.2.2 lo ng ∧ r.2.2.length = tp.length) :
    ∃ own3, BIn base cb hb rb fb tb own fuel P gv lv lo ng nt s bc w own3 r.2.1 r.2.2 wr' := by
  obtain ⟨_, own3, h1, h2, h3, h4, h5⟩ := hs
  obtain ⟨k1, k2, k3⟩ := hk
  have hz := h.val.lt
  have hn := h.nown
  have htl := h.tbl
  refine ⟨own3, fun k hk => h1 k (h.up k hk), fun k hk => ?_, h3, h.run.wr h5 ?_ ?_, h4 hr, GOff.up h.off h2 h.fr h.run, k2, h.kept.trans k1, k3.trans h.len, h.box.wr h5 ?_, h.val.wr h5 ?_, h.ocb, h.owl, h.tbl, h.pos, h.wr.trans h5 ?_⟩
  · rcases h2 k hk with h' | h'
    · exact h.dn k h'
    · exact Or.inr (by omega)
  · rintro (h' | h')
    · exact h.off.orb.1 h'
    · exact h.off.ort h'
  · rintro g hg (h' | h')
    · exact (h.off.ogv g hg).1 h'
    · exact (h.off.ogv g hg).2.2 h'
  · rintro (h' | h')
    · exact hn.1 h'
    · omega
  · rintro (h' | h')
    · exact hn.2 h'
    · omega
  · rintro k (h' | h')
    · rcases h.dn k h' with h'' | h''
      · exact Or.inl (Or.inl h'')
      · exact Or.inr (by omega)
    · exact Or.inl (Or.inr h')
/-- A step that ended it. -/
theorem BIn.stop (h : BIn base cb hb rb fb tb own fuel P gv lv lo ng nt s bc w own2 st tp wr) {r : Bool × St × List V} {e : Ending} (hs : GSays base cb hb fuel fb tb lv lo own2 r wr e wr') :
    (∃ own' : Nat → Prop, (∀ k, own k → own' k) ∧ (∀ k, own' k → own k ∨ w.heap.size ≤ k) ∧ (∀ k, own' k → k ≠ w.heap.size + 1) ∧ HCs wr' base own' cb hb fuel r.2.1) ∧ Row wr' (w.heap.size + 1) #[.int .i64 0, .int .i64 0] 55 ∧ Wr (fun b => own b ∨ b = tb) w wr' := by
  obtain ⟨_, own3, h1, h2, h3, h4, h5⟩ := hs
  have hz := h.val.lt
  have hn := h.nown
  have htl := h.tbl
  refine ⟨⟨own3, fun k hk => h1 k (h.up k hk), fun k hk => ?_, fun k hk => ?_, h3⟩, h.val.wr h5 ?_, h.wr.trans h5 ?_⟩
  · rcases h2 k hk with h' | h'
    · rcases h.dn k h' with h'' | h''
      · exact Or.inl h''
      · exact Or.inr (by omega)
    · exact Or.inr (by omega)
  · rcases h2 k hk with h' | h'
    · rcases h.dn k h' with h'' | h''
      · have := h.owl k h''; omega
      · omega
    · omega
  · rintro (h' | h')
    · exact hn.2 h'
    · omega
  · rintro k (h' | h')
    · rcases h.dn k h' with h'' | h''
      · exact Or.inl (Or.inl h'')
      · exact Or.inr (by omega)
    · exact Or.inl (Or.inr h')
/-- The clock alone is written. -/
theorem BIn.tick (h : BIn base cb hb rb fb tb own fuel P gv lv lo ng nt s bc w own2 st tp wr) {st' : St} (hc : HCs wr' base own2 cb hb fuel st') (hw : Wr (fun b => b = cb) wr wr') (hm : st'.mem = st.mem) (hk : GKept fuel st st') :
    BIn base cb hb rb fb tb own fuel P gv lv lo ng nt s bc w own2 st' tp wr' := by
  have hbk := h.hc.blocks
  have hz := h.val.lt
  have hcb := h.owl cb h.ocb
  have hn := h.nown
  refine ⟨h.up, h.dn, hc, h.run.wr hw (fun e => h.off.orb.1 (e ▸ hbk.1)) (fun g hg e => (h.off.ogv g hg).1 (e ▸ hbk.1)), h.fr.wr hw (fun e => h.off.ofb.1 (e ▸ hbk.1)) (fun e => h.off.otb.1 (e ▸ hbk.1)) (fun g hg e => (h.off.olv g hg).1 (e ▸ hbk.1)), h.off, by rw [hm]; exact h.frok, h.kept.trans hk, h.len, h.box.wr hw (by omega), h.val.wr hw (by omega), h.ocb, h.owl, h.tbl, h.pos, h.wr.trans hw (fun k hk => (by subst hk; exact Or.inl (Or.inl h.ocb)))⟩
end
theorem then_mono {K : Act → World → Prop} {X Y : Exit → Act → World → Prop} {e : Exit} {a : Act} {w : World} (h : ∀ e a w, X e a w → Y e a w) (hx : Exit.then K X e a w) : Exit.then K Y e a w := by
  cases e <;> first | exact hx | exact h _ _ _ hx
theorem setcells_wr (w : World) (r : Nat) (a b : Value) : Wr (fun i => i = r) w ((w.setCell ⟨r, 0, none⟩ a).setCell ⟨r, 1, none⟩ b) := wr_pair w r 0 1 a b
theorem setdrew_wr (w : World) (r : Nat) (a b : Value) : Wr (fun i => i = r) w ((w.drew.setCell ⟨r, 0, none⟩ a).setCell ⟨r, 1, none⟩ b) := ((Wr.refl _ w).drewR).trans (setcells_wr w.drew r a b) (fun _ h => Or.inl h)
/-- A block that ended it. -/
theorem gblock_over {base cb hb fb tb : Nat} {own : Nat → Prop} {fuel : Int} {lv : Value} {lo : List Nat} {w W W' : World} {st : St} {tp : List V} (own3 : Nat → Prop) (m1 : ∀ k, own k → own3 k) (m2 : ∀ k, own3 k → own k ∨ w.heap.size ≤ k) (m3 : ∀ k, own3 k → k ≠ w.heap.size + 1) (m4 : HCs W base own3 cb hb fuel st) (hw : Wr (fun b => own b ∨ b = tb) w W) (hbs : base ≤ w.heap.size) (h2 : Wr (fun i => i = w.heap.size + 1) W W') (y0 y1 : Int) :
    GBlockSays base cb hb fuel fb tb lv lo own (.over, st, tp) w (.returned (.tuple #[.int .i64 0, .agg #[.int .i64 y0, .int .i64 y1], .bool false])) W' := by
  refine ⟨0, y0, y1, false, rfl, rfl, own3, m1, m2, ?_, fun h => (by cases h), hw.trans h2 (fun k hk => Or.inr (by omega))⟩
  exact m4.wr h2 (fun k hk => (by subst hk; exact ⟨by omega, fun h => m3 _ h rfl⟩))
/-- A block that goes on. -/
theorem BIn.fin {base cb hb rb fb tb : Nat} {own : Nat → Prop} {fuel : Int} {P : Value × Value × Value} {gv lv : Value} {lo : List Nat} {ng nt : Nat} {s : St} {bc : Array Value} {w : World} {own2 : Nat → Prop} {st : St} {tp : List V} {W W' : World} (h : BIn base cb hb rb fb tb own fuel P gv lv lo ng nt s bc w own2 st tp W) (hw : Wr (fun i => i = w.heap.size + 1) W W') {go : Goes} {k y0 y1 : Int} (ha : BlkAns go k y0 y1 true) (hF : fb < w.heap.size) (hL : ∀ g, lv.ownBlock = some g → g < w.heap.size) :
    GBlockSays base cb hb fuel fb tb lv lo own (go, st, tp) w (.returned (.tuple #[.int .i64 k, .agg #[.int .i64 y0, .int .i64 y1], .bool true])) W' := by
  have hn := h.nown
  have htl := h.tbl
  refine ⟨k, y0, y1, true, rfl, ha, own2, h.up, fun k hk => ?_, h.hc.wr hw ?_, fun _ => h.fr.wr hw (by omega) (by omega) (fun g hg => by have := hL g hg; omega), h.wr.trans hw (fun k hk => Or.inr (by omega))⟩
  · rcases h.dn k hk with h' | h'
    · exact Or.inl h'
    · exact Or.inr (by omega)
  · intro k hk
    subst hk
    exact ⟨by have := h.pos; omega, hn.2⟩
theorem blockF_dry2 {R : CallR} {fuel : Int} {lo : List Nat} {s st : St} {tp tp2 : List V} {b : BlockS} (h : stepsF R fuel lo s tp b.steps = (true, st, tp2)) (hy : (stepF fuel 1 st).1 = false) : blockF R fuel lo s tp b = (.over, (stepF fuel 1 st).2, tp2) := by
  simp only [blockF, h, hy, if_true]
theorem blockF_jump {R : CallR} {fuel : Int} {lo : List Nat} {s st : St} {tp tp2 : List V} {b : BlockS} (h : stepsF R fuel lo s tp b.steps = (true, st, tp2)) (hy : (stepF fuel 1 st).1 = true) (hf : b.fin = 1) : blockF R fuel lo s tp b = (.next b.next, (stepF fuel 1 st).2, tp2) := by
  simp only [blockF, h, hy, hf, if_true]
  rfl
theorem blockF_fail {R : CallR} {fuel : Int} {lo : List Nat} {s st : St} {tp tp2 : List V} {b : BlockS} (h : stepsF R fuel lo s tp b.steps = (true, st, tp2)) (hy : (stepF fuel 1 st).1 = true) (hf : b.fin ≠ 1) (hv : evalT (stepF fuel 1 st).2.mem tp2 lo b.cond = none) : blockF R fuel lo s tp b = (.over, { (stepF fuel 1 st).2 with kind := 3 }, tp2) := by
  simp only [blockF, h, hy, hf, if_false, hv]
  rfl
theorem blockF_ret {R : CallR} {fuel : Int} {lo : List Nat} {s st : St} {tp tp2 : List V} {b : BlockS} {v : V} (h : stepsF R fuel lo s tp b.steps = (true, st, tp2)) (hy : (stepF fuel 1 st).1 = true) (hf : b.fin = 3) (hv : evalT (stepF fuel 1 st).2.mem tp2 lo b.cond = some v) : blockF R fuel lo s tp b = (.ret v, (stepF fuel 1 st).2, tp2) := by
  simp only [blockF, h, hy, hf, hv]
  rfl
theorem blockF_branch {R : CallR} {fuel : Int} {lo : List Nat} {s st : St} {tp tp2 : List V} {b : BlockS} {v : V} (h : stepsF R fuel lo s tp b.steps = (true, st, tp2)) (hy : (stepF fuel 1 st).1 = true) (hf : b.fin = 2) (hv : evalT (stepF fuel 1 st).2.mem tp2 lo b.cond = some v) : blockF R fuel lo s tp b = (.next (if v = ⟨0, 0⟩ then b.els else b.next), (stepF fuel 1 st).2, tp2) := by
  simp only [blockF, h, hy, hf, hv]
  rfl
end Go.Proofs.Ytikbdplllopjlaa
namespace Go.Proofs.Ytikbdplllopjlaa
open Go.RowKit

theorem flatV_at (l : List V) : ∀ (i : Nat) (u : Value), (flatV l)[i]? = some u → ∃ v, l[i / 2]? = some v ∧ ((i % 2 = 0 ∧ u = .int .i64 v.obj) ∨ (i % 2 = 1 ∧ u = .int .i64 v.n)) := by
  induction l with
  | nil => intro i u h; simp [flatV] at h
  | cons v l ih =>
    intro i u h
    match i, h with
    | 0, h => simp [flatV] at h; exact ⟨v, by simp, Or.inl ⟨rfl, h.symm⟩⟩
    | 1, h => simp [flatV] at h; exact ⟨v, by simp, Or.inr ⟨rfl, h.symm⟩⟩
    | i + 2, h =>
      simp only [flatV, List.getElem?_cons_succ] at h
      obtain ⟨x, h1, h2⟩ := ih i u h
      exact ⟨x, by rw [show (i + 2) / 2 = i / 2 + 1 by omega, List.getElem?_cons_succ]; exact h1, by rw [show (i + 2) % 2 = i % 2 by omega]; exact h2⟩
theorem flatV_cell1 (l : List V) : ∀ v ∈ flatV l, v.oneCell' = true := by
  intro u hu
  obtain ⟨i, hi⟩ := List.mem_iff_getElem?.1 hu
  obtain ⟨v, _, h⟩ := flatV_at l i u hi
  rcases h with ⟨_, rfl⟩ | ⟨_, rfl⟩ <;> rfl
theorem flatV_cells {w : World} {b off : Nat} {l : List V} (h : ∀ j v, l[j]? = some v → ValCells w b (off + j * 2) v) (i : Nat) (u : Value) (hi : (flatV l)[i]? = some u) : w.cell? ((⟨b, off, none⟩ : Addr).add i) = some u := by
  have hadd : (⟨b, off, none⟩ : Addr).add i = ⟨b, off + i, none⟩ := by unfold Addr.add; split <;> simp_all
  rw [hadd]
  obtain ⟨v, h1, h2⟩ := flatV_at l i u hi
  obtain ⟨c0, c1⟩ := h _ _ h1
  rcases h2 with ⟨e, rfl⟩ | ⟨e, rfl⟩
  · rw [show off + i = off + i / 2 * 2 by omega]; exact c0
  · rw [show off + i = off + i / 2 * 2 + 1 by omega]; exact c1

theorem run_copy_vals {P : Program} (w : World) (dT sT ty elem : TypeId) (g dLen dCap : Nat) (sp : Option Addr) (sLen sCap : Nat) (cur : Array Value) (t : TypeId) (l : List V)
    (hu : P.underlying dT = some (.slice elem)) (hs : (P.info? elem).map (·.size) = some 2) (hg : w.heap[g]? = some (.cells cur t (0, 0))) (hn : l.length = Nat.min sLen dLen)
    (hsrc : ∀ j v, l[j]? = some v → ∃ b off, sp = some ⟨b, off, none⟩ ∧ ValCells w b (off + j * 2) v) (hfit : l.length * 2 ≤ cur.size) :
    ∃ w', (Builtin.copy_ #[dT, sT] ty #[.slice (some ⟨g, 0, none⟩) dLen dCap, .slice sp sLen sCap]).run P w = .ok (goInt l.length) w' ∧ Row w' g (flatV l ++ cur.toList.drop (l.length * 2)).toArray t ∧ Wr (fun i => i = g) w w' := by
  cases hq : P.info? elem with
  | none => simp [hq] at hs
  | some i =>
    have hi : i.size = 2 := by simpa [hq] using hs
    by_cases h0 : l = []
    · subst h0
      have hz : ∀ (x : Addr), (loadCells x 0).run P w = .ok #[] w := fun x => by simpa using run_loadCells_list (P := P) w x [] (by simp)
      refine ⟨w, ?_, (by have := hg; simp only [flatV, List.length_nil, Nat.zero_mul, List.drop_zero, List.nil_append, Array.toArray_toList]; exact this), Wr.refl _ _⟩
      cases sp <;> simp [Builtin.copy_, run_underlying hu, Builtin.lenOf, Builtin.firstCells, sizeOf, typeInfo, hq, hi, ← hn, storeCells, hz]
    · obtain ⟨b, off, rfl⟩ : ∃ b off, sp = some ⟨b, off, none⟩ := by
        cases l with
        | nil => exact absurd rfl h0
        | cons v l => obtain ⟨b, off, h, _⟩ := hsrc 0 v rfl; exact ⟨b, off, h⟩
      have hc := flatV_cells (w := w) (b := b) (off := off) (l := l) (fun j v hj => by obtain ⟨b', off', h, h'⟩ := hsrc j v hj; injection h with h; injection h with e1 e2; subst e1 e2; exact h')
      have hl := run_loadCells_list (P := P) w ⟨b, off, none⟩ (flatV l) hc
      rw [flatV_length] at hl
      have hst := run_storeCells_at P g 0 t (flatV l) 0 cur w hg (by rw [flatV_length]; omega) (flatV_cell1 l)
      refine ⟨w.setRow g (flatV l ++ cur.toList.drop (l.length * 2)).toArray, ?_, setRow_heap w g _ _ t _ hg, ⟨rfl, rfl, rfl, by simp [World.setRow], fun k hk hne => setRow_other w g k _ hne⟩⟩
      simp only [Nat.add_zero, List.take_zero, List.nil_append, Nat.zero_add, flatV_length] at hst
      simp [Builtin.copy_, run_underlying hu, Builtin.lenOf, Builtin.firstCells, sizeOf, typeInfo, hq, hi, ← hn, hl, hst]

theorem wpList_copy_vals {P : Program} {w : World} {ops : Array Oper} {rest : List Oper} {o : Oper} {a : Act} {Q : Exit → Act → World → Prop} (hgd : o.guard = none) (d s : Operand) (dT sT : TypeId)
    (ho : o.op = .call { callee := .builtin .copy, args := #[d, s], argTypes := #[dT, sT] }) (elem : TypeId) (hu : P.underlying dT = some (.slice elem)) (hs : (P.info? elem).map (·.size) = some 2)
    (g dLen dCap : Nat) (sp : Option Addr) (sLen sCap : Nat) (hd : a.eval d = .slice (some ⟨g, 0, none⟩) dLen dCap) (hsv : a.eval s = .slice sp sLen sCap)
    (cur : Array Value) (t : TypeId) (l : List V) (hg : Row w g cur t) (hn : l.length = Nat.min sLen dLen)
    (hsrc : ∀ j v, l[j]? = some v → ∃ b off, sp = some ⟨b, off, none⟩ ∧ ValCells w b (off + j * 2) v) (hfit : l.length * 2 ≤ cur.size)
    (h : ∀ w', Row w' g (flatV l ++ cur.toList.drop (l.length * 2)).toArray t → Wr (fun i => i = g) w w' → wpList P ops Q rest (a.put o.dst (goInt l.length)) w') : wpList P ops Q (o :: rest) a w := by
  obtain ⟨w', hrun, hr, hw⟩ := run_copy_vals (P := P) w dT sT o.type elem g dLen dCap sp sLen sCap cur t l hu hs hg hn hsrc hfit
  refine wpList_plain hgd fun K hK => ?_
  unfold Oper.wp
  simp [execOp, ho, resolve, invoke, builtin, hd, hsv, hrun, Result.andThen]
  exact hK _ _ (h w' hr hw)

/-- The temporaries, their first ones laid. -/
theorem start_vals {cur : Array Value} {nt : Nat} {l : List V} (hc : ValsIn cur (List.replicate nt ⟨0, 0⟩)) (hl : l.length ≤ nt) : ValsIn (flatV l ++ cur.toList.drop (l.length * 2)).toArray (startF nt l) := by
  obtain ⟨h1, h2⟩ := hc
  simp only [List.length_replicate] at h1
  refine ⟨by simp [startF, flatV_length, h1]; omega, fun j v hj => ?_⟩
  unfold startF at hj
  simp only [List.getElem?_toArray]
  rcases Nat.lt_or_ge j l.length with hlt | hge
  · rw [List.getElem?_append_left hlt] at hj
    have hf : ∀ (l : List V) (j : Nat) (v : V), l[j]? = some v → (flatV l)[j * 2]? = some (.int .i64 v.obj) ∧ (flatV l)[j * 2 + 1]? = some (.int .i64 v.n) := by
      intro l
      induction l with
      | nil => intro j v h; simp at h
      | cons x l ih =>
        intro j v h
        cases j with
        | zero => simp at h; subst h; simp [flatV]
        | succ j =>
          simp only [List.getElem?_cons_succ] at h
          obtain ⟨a, b⟩ := ih j v h
          rw [show (j + 1) * 2 = j * 2 + 1 + 1 by omega, show j * 2 + 1 + 1 + 1 = j * 2 + 1 + 1 + 1 from rfl]
          simp only [flatV, List.getElem?_cons_succ]
          exact ⟨a, b⟩
    obtain ⟨a, b⟩ := hf l j v hj
    rw [List.getElem?_append_left (by rw [flatV_length]; omega), List.getElem?_append_left (by rw [flatV_length]; omega)]
    exact ⟨a, b⟩
  · rw [List.getElem?_append_right hge] at hj
    have hj' : (List.replicate nt (⟨0, 0⟩ : V))[j]? = some v := by
      rw [List.getElem?_replicate] at hj ⊢
      split at hj
      · rw [if_pos (by omega)]; exact hj
      · cases hj
    obtain ⟨a, b⟩ := h2 j v hj'
    rw [List.getElem?_append_right (by rw [flatV_length]; omega), List.getElem?_append_right (by rw [flatV_length]; omega), List.getElem?_drop, List.getElem?_drop, flatV_length]
    rw [show l.length * 2 + (j * 2 - l.length * 2) = j * 2 by omega, show l.length * 2 + (j * 2 + 1 - l.length * 2) = j * 2 + 1 by omega]
    simp only [Array.getElem?_toList]
    exact ⟨a, b⟩
end Go.Proofs.Ytikbdplllopjlaa
