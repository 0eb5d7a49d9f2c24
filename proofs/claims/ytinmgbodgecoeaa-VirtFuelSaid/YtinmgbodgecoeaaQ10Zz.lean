/- virt: an instruction: a call. Conditions: as stated. 'copy' of a row of values into a row that is known whole. No program in sight but its name. No condition. virt: calls that do not begin. Conditions: as stated. virt: the state between a call's instructions. Conditions: as stated. virt: next, whole. Conditions: as stated. virt: an instruction against the blocks of its translation (plain). No condition. The graph's machine: a step: no fuel; stuck trees. Conditions: as stated. The graph's machine: a step: a temporary is set; what comes in is read. Conditions: as stated. The graph's machine: a step: a number is put out; an exit; a store. Conditions: as stated. The graph's machine: a step: a store. Conditions: as stated. The graph's machine: a step: a call. Conditions: as stated. The graph's machine: a step, whole. Conditions: as stated. The graph's machine: the state between a block's steps. Conditions: as stated. The graph's machine: a block, whole. Conditions: as stated. The graph's machine: calls that do not begin. Conditions: as stated. The graph's machine: the state between a call's blocks. Conditions: as stated. The graph's machine: a call that begins. Conditions: as stated. The graph's machine: calls, whole. Conditions: as stated. The page's machine: how a run starts (plain). No condition. The graph's machine: how a run starts and ends (plain). Conditions: as stated. The graph's checks: Size, within. No condition. virt's checks: within, imm, register, Binary. No condition. count, Tree: how many nodes a tree has, and whether it may be. Conditions: as stated. The graph's checks: Objects. Conditions: as stated. What a run of virtual code answers, whatever is asked (plain). No program in sight. No condition. The page's machine, of two fuels: plain laws. No program in sight. Conditions: as stated. VirtFuel (plain): what the law asks of four runs. No program in sight but its name. Conditions: as stated. -/
import Derived.Test.YtinmgbodgecoeaaVNextAZz
import Derived.Test.YtinmgbodgecoeaaQ03Zz
import Derived.Test.YtinmgbodgecoeaaQ07Zz
import Derived.Test.YtinmgbodgecoeaaQ02Zz
import Derived.Laws.CopyOwn
import Derived.Deep.RegionHeld3
import Derived.WalkLawsBesides
import Derived.Deep.RegionWith
import Derived.Outline
import Derived.Deep.Cut
set_option linter.unusedVariables false
set_option linter.unusedSimpArgs false
namespace Go.Proofs.Ytinmgbodgecoeaa
open Go.RowKit

theorem afterF_call {R : CallR} {lo : List Nat} {s : St} {tp : List V} {dst a b n : Int} {l : List Int} : afterF R lo s tp (stepI ⟨10, dst, a, b, n, l⟩) = callR (R n (argV tp l) s) tp dst := by
  rw [show stepI ⟨10, dst, a, b, n, l⟩ = ⟨3, dst, 0, n, l.map tmpT⟩ from rfl]
  unfold afterF
  simp only
  rw [evalTs_tmps]
  show actF R s tp ⟨3, dst, 0, n, l.map tmpT⟩ (argV tp l) = _
  unfold actF
  simp only
  rw [if_neg (show ¬ (3 : Int) = 1 by decide), if_neg (show ¬ (3 : Int) = 2 by decide), if_pos trivial]
  rcases R n (argV tp l) s with ⟨o, s'⟩
  cases o <;> rfl

set_option maxRecDepth 100000 in
set_option maxHeartbeats 8000000 in
theorem vdoes_call (base cb hb rb fb tb mb : Nat) (own : Nat → Prop) (P : Value × Value × Value) (gv bv lv : Value) (fuel : Int) (s : St) (tp : List V) (lo : List Nat) (R : CallR) (p : VirtS) (f : Nat) (g : CodeS) (dst a b : Int) (arg : List Int) (A : Option Addr) (cap : Nat) (w : World)
    (h : HCs w base own cb hb fuel s) (hR : VRun w rb cb hb P gv bv p.globs.length) (hF : VFrame w fb tb tp lv lo mb) (hO : VOff base own rb fb tb lv gv) (hFr : FrOk (memBase s.mem) tp lo p.globs.length) (hI : GInv fuel s)
    (hreg : ∀ r, r ∈ arg → 0 ≤ r ∧ r < tp.length) (hal : arg.length ≤ 1000) (harg : LongsAt w base arg (.slice A arg.length cap)) (hfn : p.funcs[f]? = some g) (hpar : (arg.length : Int) = g.params) (hP : VirtAt w base P p) (hL : VLabs w base own w.heap.size bv p) (hC : VCallOk p fuel s.calls R) (hd : dst = -1 ∨ 0 ≤ dst ∧ dst < (tp.length : Int)) :
    Calls Try.prog 33 #[.pointer (some ⟨rb, 0, none⟩), .pointer (some ⟨fb, 0, none⟩), .agg #[.int .i64 10, .int .i64 dst, .int .i64 a, .int .i64 b, .int .i64 (f : Int), .slice A arg.length cap]] w fun e w' => VSays base cb hb fuel fb tb mb lv lo own (afterF R lo s tp (stepI ⟨10, dst, a, b, (f : Int), arg⟩)) w e w' := by
  rw [afterF_call]
  have hbs : base ≤ w.heap.size := by have := h.blocks; have := this.2.2 cb this.1; omega
  obtain ⟨r, hr⟩ : ∃ r, r = callR (R (f : Int) (argV tp arg) s) tp dst := ⟨_, rfl⟩
  have HB1 := Lib.hid (below1 w (.cells #[.int .i64 10, .int .i64 dst, .int .i64 a, .int .i64 b, .int .i64 (f : Int), .slice A arg.length cap] 68))
  have hb1 := HB1.out
  have HCD := Lib.hid (vcalled_any base cb hb rb fb tb mb own P gv bv lv fuel s tp lo R p f g 10 dst a b arg A cap _ (h.below hb1) (hR.below hb1) (hF.below hb1) hO hFr hI hreg hal (harg.below (hb1.mono hbs) (Nat.le_refl _)) hfn hpar (hP.below (hb1.mono hbs)) ((hL.wr (Wr.of_below (F := fun _ => False) hb1) (fun _ h => h.elim) (Nat.le_refl _)).mono hb1.size) hC hd)
  rw [← hr] at HCD ⊢
  have HF := Lib.hid hF
  clear h hR hF hO hFr hI hreg hal harg hfn hpar hP hL hC hd hr hb1
  go_enter Try.func33, Try.ntmps33
  refine wp_letter (fun Q hQ => ?_)
  have HQ := Lib.hid hQ
  clear hQ
  go_wp2_with fail
  refine HCD.out.mono ?_
  rintro e w2 ⟨rfl, own', h1, h2, h3, h4, h5⟩
  have HS := Lib.hid (And.intro h1 (And.intro h2 (And.intro h3 (And.intro h4 h5))))
  clear h1 h2 h3 h4 h5
  go_wp2_with fail
  refine HQ.out _ _ _ ?_
  exact bodyPost_ret (v := .bool r.1) (by simp [results, Try.results33, go_sem]) rfl ⟨rfl, own', HS.out.1, fun q hq => (HS.out.2.1 q hq).imp id (fun h => Nat.le_trans HB1.out.size h), HS.out.2.2.1, HS.out.2.2.2.1, (Wr.of_below (F := fun b => own b ∨ b = tb) HB1.out).trans HS.out.2.2.2.2 (fun i hi => Or.inl hi)⟩
end Go.Proofs.Ytinmgbodgecoeaa
namespace Go.Proofs.Ytinmgbodgecoeaa
open Go.RowKit

theorem flatV_at (l : List V) : ∀ (i : Nat) (u : Value), (flatV l)[i]? = some u → ∃ v, l[i / 2]? = some v ∧ ((i % 2 = 0 ∧ u = .int .i64 v.obj) ∨ (i % 2 = 1 ∧ u = .int .i64 v.n)) := by
  induction l with
  | nil => intro i u h; simp [flatV] at h
  | cons v l ih =>
    intro i u h
    match i, h with
    | 0, h => simp [flatV] at h; exact ⟨v, by simp, Or.inl ⟨rfl, h.symm⟩⟩
    | 1, h => simp [flatV] at h; exact ⟨v, by simp, Or.inr ⟨rfl, h.symm⟩⟩
    | i + 2, h =>
      simp only [flatV, List.getElem?_cons_succ] at h
      obtain ⟨x, h1, h2⟩ := ih i u h
      exact ⟨x, by rw [show (i + 2) / 2 = i / 2 + 1 by omega, List.getElem?_cons_succ]; exact h1, by rw [show (i + 2) % 2 = i % 2 by omega]; exact h2⟩
theorem flatV_cell1 (l : List V) : ∀ v ∈ flatV l, v.oneCell' = true := by
  intro u hu
  obtain ⟨i, hi⟩ := List.mem_iff_getElem?.1 hu
  obtain ⟨v, _, h⟩ := flatV_at l i u hi
  rcases h with ⟨_, rfl⟩ | ⟨_, rfl⟩ <;> rfl
theorem flatV_cells {w : World} {b off : Nat} {l : List V} (h : ∀ j v, l[j]? = some v → ValCells w b (off + j * 2) v) (i : Nat) (u : Value) (hi : (flatV l)[i]? = some u) : w.cell? ((⟨b, off, none⟩ : Addr).add i) = some u := by
  have hadd : (⟨b, off, none⟩ : Addr).add i = ⟨b, off + i, none⟩ := by unfold Addr.add; split <;> simp_all
  rw [hadd]
  obtain ⟨v, h1, h2⟩ := flatV_at l i u hi
  obtain ⟨c0, c1⟩ := h _ _ h1
  rcases h2 with ⟨e, rfl⟩ | ⟨e, rfl⟩
  · rw [show off + i = off + i / 2 * 2 by omega]; exact c0
  · rw [show off + i = off + i / 2 * 2 + 1 by omega]; exact c1

theorem run_copy_vals {P : Program} (w : World) (dT sT ty elem : TypeId) (g dLen dCap : Nat) (sp : Option Addr) (sLen sCap : Nat) (cur : Array Value) (t : TypeId) (l : List V)
    (hu : P.underlying dT = some (.slice elem)) (hs : (P.info? elem).map (·.size) = some 2) (hg : w.heap[g]? = some (.cells cur t (0, 0))) (hn : l.length = Nat.min sLen dLen)
    (hsrc : ∀ j v, l[j]? = some v → ∃ b off, sp = some ⟨b, off, none⟩ ∧ ValCells w b (off + j * 2) v) (hfit : l.length * 2 ≤ cur.size) :
    ∃ w', (Builtin.copy_ #[dT, sT] ty #[.slice (some ⟨g, 0, none⟩) dLen dCap, .slice sp sLen sCap]).run P w = .ok (goInt l.length) w' ∧ Row w' g (flatV l ++ cur.toList.drop (l.length * 2)).toArray t ∧ Wr (fun i => i = g) w w' := by
  cases hq : P.info? elem with
  | none => simp [hq] at hs
  | some i =>
    have hi : i.size = 2 := by simpa [hq] using hs
    by_cases h0 : l = []
    · subst h0
      have hz : ∀ (x : Addr), (loadCells x 0).run P w = .ok #[] w := fun x => by simpa using run_loadCells_list (P := P) w x [] (by simp)
      refine ⟨w, ?_, (by have := hg; simp only [flatV, List.length_nil, Nat.zero_mul, List.drop_zero, List.nil_append, Array.toArray_toList]; exact this), Wr.refl _ _⟩
      cases sp <;> simp [Builtin.copy_, run_underlying hu, Builtin.lenOf, Builtin.firstCells, sizeOf, typeInfo, hq, hi, ← hn, storeCells, hz]
    · obtain ⟨b, off, rfl⟩ : ∃ b off, sp = some ⟨b, off, none⟩ := by
        cases l with
        | nil => exact absurd rfl h0
        | cons v l => obtain ⟨b, off, h, _⟩ := hsrc 0 v rfl; exact ⟨b, off, h⟩
      have hc := flatV_cells (w := w) (b := b) (off := off) (l := l) (fun j v hj => by obtain ⟨b', off', h, h'⟩ := hsrc j v hj; injection h with h; injection h with e1 e2; subst e1 e2; exact h')
      have hl := run_loadCells_list (P := P) w ⟨b, off, none⟩ (flatV l) hc
      rw [flatV_length] at hl
      have hst := run_storeCells_at P g 0 t (flatV l) 0 cur w hg (by rw [flatV_length]; omega) (flatV_cell1 l)
      refine ⟨w.setRow g (flatV l ++ cur.toList.drop (l.length * 2)).toArray, ?_, setRow_heap w g _ _ t _ hg, ⟨rfl, rfl, rfl, by simp [World.setRow], fun k hk hne => setRow_other w g k _ hne⟩⟩
      simp only [Nat.add_zero, List.take_zero, List.nil_append, Nat.zero_add, flatV_length] at hst
      simp [Builtin.copy_, run_underlying hu, Builtin.lenOf, Builtin.firstCells, sizeOf, typeInfo, hq, hi, ← hn, hl, hst]

theorem wpList_copy_vals {P : Program} {w : World} {ops : Array Oper} {rest : List Oper} {o : Oper} {a : Act} {Q : Exit → Act → World → Prop} (hgd : o.guard = none) (d s : Operand) (dT sT : TypeId)
    (ho : o.op = .call { callee := .builtin .copy, args := #[d, s], argTypes := #[dT, sT] }) (elem : TypeId) (hu : P.underlying dT = some (.slice elem)) (hs : (P.info? elem).map (·.size) = some 2)
    (g dLen dCap : Nat) (sp : Option Addr) (sLen sCap : Nat) (hd : a.eval d = .slice (some ⟨g, 0, none⟩) dLen dCap) (hsv : a.eval s = .slice sp sLen sCap)
    (cur : Array Value) (t : TypeId) (l : List V) (hg : Row w g cur t) (hn : l.length = Nat.min sLen dLen)
    (hsrc : ∀ j v, l[j]? = some v → ∃ b off, sp = some ⟨b, off, none⟩ ∧ ValCells w b (off + j * 2) v) (hfit : l.length * 2 ≤ cur.size)
    (h : ∀ w', Row w' g (flatV l ++ cur.toList.drop (l.length * 2)).toArray t → Wr (fun i => i = g) w w' → wpList P ops Q rest (a.put o.dst (goInt l.length)) w') : wpList P ops Q (o :: rest) a w := by
  obtain ⟨w', hrun, hr, hw⟩ := run_copy_vals (P := P) w dT sT o.type elem g dLen dCap sp sLen sCap cur t l hu hs hg hn hsrc hfit
  refine wpList_plain hgd fun K hK => ?_
  unfold Oper.wp
  simp [execOp, ho, resolve, invoke, builtin, hd, hsv, hrun, Result.andThen]
  exact hK _ _ (h w' hr hw)

/-- The temporaries, their first ones laid. -/
theorem start_vals {cur : Array Value} {nt : Nat} {l : List V} (hc : ValsIn cur (List.replicate nt ⟨0, 0⟩)) (hl : l.length ≤ nt) : ValsIn (flatV l ++ cur.toList.drop (l.length * 2)).toArray (startF nt l) := by
  obtain ⟨h1, h2⟩ := hc
  simp only [List.length_replicate] at h1
  refine ⟨by simp [startF, flatV_length, h1]; omega, fun j v hj => ?_⟩
  unfold startF at hj
  simp only [List.getElem?_toArray]
  rcases Nat.lt_or_ge j l.length with hlt | hge
  · rw [List.getElem?_append_left hlt] at hj
    have hf : ∀ (l : List V) (j : Nat) (v : V), l[j]? = some v → (flatV l)[j * 2]? = some (.int .i64 v.obj) ∧ (flatV l)[j * 2 + 1]? = some (.int .i64 v.n) := by
      intro l
      induction l with
      | nil => intro j v h; simp at h
      | cons x l ih =>
        intro j v h
        cases j with
        | zero => simp at h; subst h; simp [flatV]
        | succ j =>
          simp only [List.getElem?_cons_succ] at h
          obtain ⟨a, b⟩ := ih j v h
          rw [show (j + 1) * 2 = j * 2 + 1 + 1 by omega, show j * 2 + 1 + 1 + 1 = j * 2 + 1 + 1 + 1 from rfl]
          simp only [flatV, List.getElem?_cons_succ]
          exact ⟨a, b⟩
    obtain ⟨a, b⟩ := hf l j v hj
    rw [List.getElem?_append_left (by rw [flatV_length]; omega), List.getElem?_append_left (by rw [flatV_length]; omega)]
    exact ⟨a, b⟩
  · rw [List.getElem?_append_right hge] at hj
    have hj' : (List.replicate nt (⟨0, 0⟩ : V))[j]? = some v := by
      rw [List.getElem?_replicate] at hj ⊢
      split at hj
      · rw [if_pos (by omega)]; exact hj
      · cases hj
    obtain ⟨a, b⟩ := h2 j v hj'
    rw [List.getElem?_append_right (by rw [flatV_length]; omega), List.getElem?_append_right (by rw [flatV_length]; omega), List.getElem?_drop, List.getElem?_drop, flatV_length]
    rw [show l.length * 2 + (j * 2 - l.length * 2) = j * 2 by omega, show l.length * 2 + (j * 2 + 1 - l.length * 2) = j * 2 + 1 by omega]
    simp only [Array.getElem?_toList]
    exact ⟨a, b⟩
end Go.Proofs.Ytinmgbodgecoeaa
namespace Go.Proofs.Ytinmgbodgecoeaa
open Go.RowKit

theorem setcells_wrV (w : World) (b : Nat) (u v : Value) : Wr (fun i => i = b) w ((w.setCell ⟨b, 0, none⟩ u).setCell ⟨b, 1, none⟩ v) := wr_pair w b 0 1 u v

set_option maxRecDepth 100000 in
set_option maxHeartbeats 8000000 in
theorem vcall_over (base cb hb rb : Nat) (own : Nat → Prop) (P : Value × Value × Value) (gv bv : Value) (fuel : Int) (p : VirtS) (s : St) (f : Nat) (g : CodeS) (args : List V) (AA : Option Addr) (an acap : Nat) (w : World)
    (hg : p.funcs[f]? = some g) (hfn : FnOkG (virtG p) (codeG g)) (hf : fuel ≤ 100000000) (hal : (args.length : Int) = g.params) (h : HCs w base own cb hb fuel s) (hR : VRun w rb cb hb P gv bv p.globs.length) (hP : VirtAt w base P p) (horb : ¬ own rb ∧ base ≤ rb) (hogv : ∀ k, gv.ownBlock = some k → ¬ own k ∧ base ≤ k) (hI : GInv fuel s) (hgl : p.globs.length < (memBase s.mem).length) (hva : ∀ v, v ∈ args → VOk (memBase s.mem).length v) (han : args.length = an)
    (hargs : ∀ j v, args[j]? = some v → ∃ b off, AA = some ⟨b, off, none⟩ ∧ b < w.heap.size ∧ ¬ own b ∧ ValCells w b (off + j * 2) v) (hc : s.calls = 64) :
    Calls Try.prog 13 #[.pointer (some ⟨rb, 0, none⟩), .int .i64 f, .slice AA an acap] w fun e w' => VCallSays base cb hb fuel own (none, { s with kind := 4 }) w e w' := by
  have hbk := h.blocks
  have hcb := hbk.2.2 cb hbk.1
  have hpos : base ≤ w.heap.size := by omega
  obtain ⟨GA, gcap, hPf, hfl, _⟩ := id hP.2.1
  have hfk : f < p.funcs.length := by
    rcases Nat.lt_or_ge f p.funcs.length with h' | h'
    · exact h'
    · rw [List.getElem?_eq_none h'] at hg; cases hg
  have hPs := hPf ▸ hP.2.1
  obtain ⟨gb, goff, g', rfl, hgb, hg', g0, g1, ⟨LV, g2, hlo⟩, ⟨BV, g3, hbl⟩, _, _⟩ := hPs.get hfk
  obtain rfl : g' = g := by rw [hg] at hg'; injection hg' with e; exact e.symm
  obtain ⟨LA, lcap, rfl⟩ : ∃ LA lcap, LV = .slice LA g'.locs.length lcap := (by obtain ⟨A', c', h, _⟩ := hlo; exact ⟨_, _, h⟩)
  obtain ⟨BA, bcap, rfl⟩ : ∃ BA bcap, BV = .slice BA g'.ins.length bcap := (by obtain ⟨A', c', h, _⟩ := hbl; exact ⟨_, _, h⟩)
  obtain ⟨g, rfl⟩ : ∃ g, g = g' := ⟨_, rfl⟩
  simp only [Nat.add_zero] at g0 g1 g2 g3
  have hobs : ∀ o, o ∈ g.locs → ObOk o := fun o ho => (hfn.obs o ho).1
  have hll : g.locs.length ≤ 400 := hfn.locs
  have hcbd := countsF_bd hobs
  have hfk2 : (f : Int) < (p.funcs.length : Int) := by omega
  have r0 : w.cell? ⟨rb, 0, none⟩ = some (.pointer (some ⟨cb, 0, none⟩)) := hR.row.cell (j := 0) rfl
  have r2 : w.cell? ⟨rb, 2, none⟩ = some (.slice (some ⟨gb, goff, none⟩) p.funcs.length gcap) := hPf ▸ hR.row.cell (j := 2) rfl
  have hrb := hR.row.lt
  have hgbl : gb < w.heap.size := by omega
  have HB2 := Lib.hid (below2 w (.cells #[.int .i64 0, .int .i64 0] 60) (.cells #[.int .i64 g.params, .int .i64 g.regs, .slice LA g.locs.length lcap, .slice BA g.ins.length bcap] 55))
  have HEL := Lib.hid (elements_any base g.locs LA g.locs.length lcap ((w.alloc (.cells #[.int .i64 0, .int .i64 0] 60)).alloc (.cells #[.int .i64 g.params, .int .i64 g.regs, .slice LA g.locs.length lcap, .slice BA g.ins.length bcap] 55)).drew (hlo.below (HB2.out.drew.mono hpos) (Nat.le_refl _) (fun _ _ h => h.below (HB2.out.drew.mono hpos) (Nat.le_refl _))) (by simp; omega) hobs (by omega))
  have HH := Lib.hid (fun W (hW : Below w.heap.size w W) => h.below hW)
  have hv0 := (Row.new w #[.int .i64 0, .int .i64 0] 60).alloc (.cells #[.int .i64 g.params, .int .i64 g.regs, .slice LA g.locs.length lcap, .slice BA g.ins.length bcap] 55)
  have HV0 := Lib.hid hv0
  have HBK := Lib.hid hbk
  have hg0 := Row.new (w.alloc (.cells #[.int .i64 0, .int .i64 0] 60)) #[.int .i64 g.params, .int .i64 g.regs, .slice LA g.locs.length lcap, .slice BA g.ins.length bcap] 55
  rw [World.size_alloc] at hg0
  have HG0 := Lib.hid hg0
  have HR0 := Lib.hid r0
  have KS := Lib.hid (fun (W : World) (hbw : Below ((w.alloc (.cells #[.int .i64 0, .int .i64 0] 60)).alloc (.cells #[.int .i64 g.params, .int .i64 g.regs, .slice LA g.locs.length lcap, .slice BA g.ins.length bcap] 55)).heap.size ((w.alloc (.cells #[.int .i64 0, .int .i64 0] 60)).alloc (.cells #[.int .i64 g.params, .int .i64 g.regs, .slice LA g.locs.length lcap, .slice BA g.ins.length bcap] 55)) W) => (⟨cell_below HR0.out (HB2.out.trans (hbw.mono HB2.out.size)) hrb, (HG0.out.below hbw HG0.out.lt).cell (j := 2) rfl⟩ : W.cell? ⟨rb, 0, none⟩ = some (.pointer (some ⟨cb, 0, none⟩)) ∧ W.cell? ⟨w.heap.size + 1, 2, none⟩ = some (.slice LA g.locs.length lcap)))
  have hncb1 : ¬ rb = cb := fun e => horb.1 (e ▸ hbk.1)
  have KS3 := Lib.hid (fun (W w' : World) (hbw : Below ((w.alloc (.cells #[.int .i64 0, .int .i64 0] 60)).alloc (.cells #[.int .i64 g.params, .int .i64 g.regs, .slice LA g.locs.length lcap, .slice BA g.ins.length bcap] 55)).heap.size ((w.alloc (.cells #[.int .i64 0, .int .i64 0] 60)).alloc (.cells #[.int .i64 g.params, .int .i64 g.regs, .slice LA g.locs.length lcap, .slice BA g.ins.length bcap] 55)) W) (hw : Wr (fun b => b = cb) W w') => (⟨(World.cell?_of_block (a := ⟨rb, 0, none⟩) (hw.block rb (by have := HB2.out.size; have := hbw.size; show rb < _; omega) hncb1)).trans (KS.out W hbw).1, (((HG0.out.below hbw HG0.out.lt)).wr hw (by omega)).cell (j := 2) rfl⟩ : w'.cell? ⟨rb, 0, none⟩ = some (.pointer (some ⟨cb, 0, none⟩)) ∧ w'.cell? ⟨w.heap.size + 1, 2, none⟩ = some (.slice LA g.locs.length lcap)))
  have HEN := Lib.hid (fun W (hW : Below ((w.alloc (.cells #[.int .i64 0, .int .i64 0] 60)).alloc (.cells #[.int .i64 g.params, .int .i64 g.regs, .slice LA g.locs.length lcap, .slice BA g.ins.length bcap] 55)).heap.size ((w.alloc (.cells #[.int .i64 0, .int .i64 0] 60)).alloc (.cells #[.int .i64 g.params, .int .i64 g.regs, .slice LA g.locs.length lcap, .slice BA g.ins.length bcap] 55)) W) => over_hc (countsF g.locs) (HH.out W (HB2.out.trans (hW.mono HB2.out.size))) hc)
  clear h hR hP hg hfn horb hogv hI hgl hva hargs hbk hg0 hv0 hPf hPs hlo hbl hobs hg' hfl
  go_enter Try.func13, Try.ntmps13
  refine wp_letter (fun Q hQ => ?_)
  have HQ := Lib.hid hQ
  clear hQ
  go_wp2_with fail
  go_region_held3 (fun w' => w'.cell? ⟨rb, 0, none⟩ = some (.pointer (some ⟨cb, 0, none⟩)) ∧ w'.cell? ⟨w.heap.size + 1, 2, none⟩ = some (.slice LA g.locs.length lcap)) (first | exact KS.out _ (Below.refl _ _).drew | exact KS.out _ ((Below.refl _ _).drew.trans hb1) | exact KS3.out _ _ ((Below.refl _ _).drew.trans hb1) hw2 | go_keep) ((first | (go_at_call 24; refine HEL.out.mono ?_; rintro e w1 ⟨rfl, hb1⟩) | (go_at_call 23; refine (HEN.out _ ((Below.refl _ _).drew.trans hb1)).mono ?_; rintro e w2 ⟨rfl, hH2, hw2⟩)))
  have HB1 := Lib.hid (HB2.out.drew.trans (hb1.mono HB2.out.drew.size))
  have hzb := HB1.out.size
  have hv2 := ((HV0.out.drew).below hb1 HV0.out.lt).wr hw2 (by omega)
  have c0 := hv2.cell (j := 0) rfl
  have c1 := hv2.cell (j := 1) rfl
  have c2 := hv2.free 0
  have c3 := hv2.free 1
  have cl := hv2.lt
  have HH2 := Lib.hid hH2
  have HW2 := Lib.hid hw2
  clear hH2 hw2 hv2 HV0 hb1
  go_wp2_with fail
  refine HQ.out _ _ _ ?_
  refine bodyPost_ret (v := .tuple #[.agg #[.int .i64 0, .int .i64 0], .bool false]) (by simp [results, Try.results13, go_sem, c0, c1]) rfl ⟨⟨0, 0, rfl⟩, own, fun _ h => h, fun _ h => Or.inl h, ?_, ?_⟩
  · exact HH2.out.wr (setcells_wrV w2 w.heap.size (.int .i64 0) (.int .i64 0)) (fun k hk => (by subst hk; exact ⟨hpos, fun ho => by have := (HBK.out.2.2 _ ho).2; omega⟩))
  · exact (((Wr.of_below (F := own) HB1.out).trans HW2.out (fun k hk => Or.inl (hk ▸ HBK.out.1)))).trans (setcells_wrV w2 w.heap.size (.int .i64 0) (.int .i64 0)) (fun k hk => Or.inr (by omega))

set_option maxRecDepth 100000 in
set_option maxHeartbeats 8000000 in
theorem vcall_dry (base cb hb rb : Nat) (own : Nat → Prop) (P : Value × Value × Value) (gv bv : Value) (fuel : Int) (p : VirtS) (s : St) (f : Nat) (g : CodeS) (args : List V) (AA : Option Addr) (an acap : Nat) (w : World)
    (hg : p.funcs[f]? = some g) (hfn : FnOkG (virtG p) (codeG g)) (hf : fuel ≤ 100000000) (hal : (args.length : Int) = g.params) (h : HCs w base own cb hb fuel s) (hR : VRun w rb cb hb P gv bv p.globs.length) (hP : VirtAt w base P p) (horb : ¬ own rb ∧ base ≤ rb) (hogv : ∀ k, gv.ownBlock = some k → ¬ own k ∧ base ≤ k) (hI : GInv fuel s) (hgl : p.globs.length < (memBase s.mem).length) (hva : ∀ v, v ∈ args → VOk (memBase s.mem).length v) (han : args.length = an)
    (hargs : ∀ j v, args[j]? = some v → ∃ b off, AA = some ⟨b, off, none⟩ ∧ b < w.heap.size ∧ ¬ own b ∧ ValCells w b (off + j * 2) v) (hc : s.calls < 64) (hy : (stepF fuel (countsF g.locs) { s with calls := s.calls + 1, deep := max s.deep (s.calls + 1) }).1 = false) :
    Calls Try.prog 13 #[.pointer (some ⟨rb, 0, none⟩), .int .i64 f, .slice AA an acap] w fun e w' => VCallSays base cb hb fuel own (none, (stepF fuel (countsF g.locs) { s with calls := s.calls + 1, deep := max s.deep (s.calls + 1) }).2) w e w' := by
  have hbk := h.blocks
  have hcb := hbk.2.2 cb hbk.1
  have hpos : base ≤ w.heap.size := by omega
  obtain ⟨GA, gcap, hPf, hfl, _⟩ := id hP.2.1
  have hfk : f < p.funcs.length := by
    rcases Nat.lt_or_ge f p.funcs.length with h' | h'
    · exact h'
    · rw [List.getElem?_eq_none h'] at hg; cases hg
  have hPs := hPf ▸ hP.2.1
  obtain ⟨gb, goff, g', rfl, hgb, hg', g0, g1, ⟨LV, g2, hlo⟩, ⟨BV, g3, hbl⟩, _, _⟩ := hPs.get hfk
  obtain rfl : g' = g := by rw [hg] at hg'; injection hg' with e; exact e.symm
  obtain ⟨LA, lcap, rfl⟩ : ∃ LA lcap, LV = .slice LA g'.locs.length lcap := (by obtain ⟨A', c', h, _⟩ := hlo; exact ⟨_, _, h⟩)
  obtain ⟨BA, bcap, rfl⟩ : ∃ BA bcap, BV = .slice BA g'.ins.length bcap := (by obtain ⟨A', c', h, _⟩ := hbl; exact ⟨_, _, h⟩)
  obtain ⟨g, rfl⟩ : ∃ g, g = g' := ⟨_, rfl⟩
  simp only [Nat.add_zero] at g0 g1 g2 g3
  have hobs : ∀ o, o ∈ g.locs → ObOk o := fun o ho => (hfn.obs o ho).1
  have hll : g.locs.length ≤ 400 := hfn.locs
  have hcbd := countsF_bd hobs
  have hfk2 : (f : Int) < (p.funcs.length : Int) := by omega
  have r0 : w.cell? ⟨rb, 0, none⟩ = some (.pointer (some ⟨cb, 0, none⟩)) := hR.row.cell (j := 0) rfl
  have r2 : w.cell? ⟨rb, 2, none⟩ = some (.slice (some ⟨gb, goff, none⟩) p.funcs.length gcap) := hPf ▸ hR.row.cell (j := 2) rfl
  have hrb := hR.row.lt
  have hgbl : gb < w.heap.size := by omega
  have HB2 := Lib.hid (below2 w (.cells #[.int .i64 0, .int .i64 0] 60) (.cells #[.int .i64 g.params, .int .i64 g.regs, .slice LA g.locs.length lcap, .slice BA g.ins.length bcap] 55))
  have HEL := Lib.hid (elements_any base g.locs LA g.locs.length lcap ((w.alloc (.cells #[.int .i64 0, .int .i64 0] 60)).alloc (.cells #[.int .i64 g.params, .int .i64 g.regs, .slice LA g.locs.length lcap, .slice BA g.ins.length bcap] 55)).drew (hlo.below (HB2.out.drew.mono hpos) (Nat.le_refl _) (fun _ _ h => h.below (HB2.out.drew.mono hpos) (Nat.le_refl _))) (by simp; omega) hobs (by omega))
  have HH := Lib.hid (fun W (hW : Below w.heap.size w W) => h.below hW)
  have hv0 := (Row.new w #[.int .i64 0, .int .i64 0] 60).alloc (.cells #[.int .i64 g.params, .int .i64 g.regs, .slice LA g.locs.length lcap, .slice BA g.ins.length bcap] 55)
  have HV0 := Lib.hid hv0
  have HBK := Lib.hid hbk
  have hg0 := Row.new (w.alloc (.cells #[.int .i64 0, .int .i64 0] 60)) #[.int .i64 g.params, .int .i64 g.regs, .slice LA g.locs.length lcap, .slice BA g.ins.length bcap] 55
  rw [World.size_alloc] at hg0
  have HG0 := Lib.hid hg0
  have HR0 := Lib.hid r0
  have KS := Lib.hid (fun (W : World) (hbw : Below ((w.alloc (.cells #[.int .i64 0, .int .i64 0] 60)).alloc (.cells #[.int .i64 g.params, .int .i64 g.regs, .slice LA g.locs.length lcap, .slice BA g.ins.length bcap] 55)).heap.size ((w.alloc (.cells #[.int .i64 0, .int .i64 0] 60)).alloc (.cells #[.int .i64 g.params, .int .i64 g.regs, .slice LA g.locs.length lcap, .slice BA g.ins.length bcap] 55)) W) => (⟨cell_below HR0.out (HB2.out.trans (hbw.mono HB2.out.size)) hrb, (HG0.out.below hbw HG0.out.lt).cell (j := 2) rfl⟩ : W.cell? ⟨rb, 0, none⟩ = some (.pointer (some ⟨cb, 0, none⟩)) ∧ W.cell? ⟨w.heap.size + 1, 2, none⟩ = some (.slice LA g.locs.length lcap)))
  have hncb1 : ¬ rb = cb := fun e => horb.1 (e ▸ hbk.1)
  have KS3 := Lib.hid (fun (W w' : World) (hbw : Below ((w.alloc (.cells #[.int .i64 0, .int .i64 0] 60)).alloc (.cells #[.int .i64 g.params, .int .i64 g.regs, .slice LA g.locs.length lcap, .slice BA g.ins.length bcap] 55)).heap.size ((w.alloc (.cells #[.int .i64 0, .int .i64 0] 60)).alloc (.cells #[.int .i64 g.params, .int .i64 g.regs, .slice LA g.locs.length lcap, .slice BA g.ins.length bcap] 55)) W) (hw : Wr (fun b => b = cb) W w') => (⟨(World.cell?_of_block (a := ⟨rb, 0, none⟩) (hw.block rb (by have := HB2.out.size; have := hbw.size; show rb < _; omega) hncb1)).trans (KS.out W hbw).1, (((HG0.out.below hbw HG0.out.lt)).wr hw (by omega)).cell (j := 2) rfl⟩ : w'.cell? ⟨rb, 0, none⟩ = some (.pointer (some ⟨cb, 0, none⟩)) ∧ w'.cell? ⟨w.heap.size + 1, 2, none⟩ = some (.slice LA g.locs.length lcap)))
  have HEN := Lib.hid (fun W (hW : Below ((w.alloc (.cells #[.int .i64 0, .int .i64 0] 60)).alloc (.cells #[.int .i64 g.params, .int .i64 g.regs, .slice LA g.locs.length lcap, .slice BA g.ins.length bcap] 55)).heap.size ((w.alloc (.cells #[.int .i64 0, .int .i64 0] 60)).alloc (.cells #[.int .i64 g.params, .int .i64 g.regs, .slice LA g.locs.length lcap, .slice BA g.ins.length bcap] 55)) W) => hy ▸ enter_hc (countsF g.locs) (HH.out W (HB2.out.trans (hW.mono HB2.out.size))) hI.kind hI.calls hc hf hI.lo hI.hi (by omega) (by omega))
  clear h hR hP hg hfn horb hogv hI hgl hva hargs hbk hg0 hv0 hPf hPs hlo hbl hobs hg' hfl
  go_enter Try.func13, Try.ntmps13
  refine wp_letter (fun Q hQ => ?_)
  have HQ := Lib.hid hQ
  clear hQ
  go_wp2_with fail
  go_region_held3 (fun w' => w'.cell? ⟨rb, 0, none⟩ = some (.pointer (some ⟨cb, 0, none⟩)) ∧ w'.cell? ⟨w.heap.size + 1, 2, none⟩ = some (.slice LA g.locs.length lcap)) (first | exact KS.out _ (Below.refl _ _).drew | exact KS.out _ ((Below.refl _ _).drew.trans hb1) | exact KS3.out _ _ ((Below.refl _ _).drew.trans hb1) hw2 | go_keep) ((first | (go_at_call 24; refine HEL.out.mono ?_; rintro e w1 ⟨rfl, hb1⟩) | (go_at_call 23; refine (HEN.out _ ((Below.refl _ _).drew.trans hb1)).mono ?_; rintro e w2 ⟨rfl, hH2, hw2⟩)))
  have HB1 := Lib.hid (HB2.out.drew.trans (hb1.mono HB2.out.drew.size))
  have hzb := HB1.out.size
  have hv2 := ((HV0.out.drew).below hb1 HV0.out.lt).wr hw2 (by omega)
  have c0 := hv2.cell (j := 0) rfl
  have c1 := hv2.cell (j := 1) rfl
  have c2 := hv2.free 0
  have c3 := hv2.free 1
  have cl := hv2.lt
  have HH2 := Lib.hid hH2
  have HW2 := Lib.hid hw2
  clear hH2 hw2 hv2 HV0 hb1
  go_wp2_with fail
  refine HQ.out _ _ _ ?_
  refine bodyPost_ret (v := .tuple #[.agg #[.int .i64 0, .int .i64 0], .bool false]) (by simp [results, Try.results13, go_sem, c0, c1]) rfl ⟨⟨0, 0, rfl⟩, own, fun _ h => h, fun _ h => Or.inl h, ?_, ?_⟩
  · exact HH2.out.wr (setcells_wrV w2 w.heap.size (.int .i64 0) (.int .i64 0)) (fun k hk => (by subst hk; exact ⟨hpos, fun ho => by have := (HBK.out.2.2 _ ho).2; omega⟩))
  · exact (((Wr.of_below (F := own) HB1.out).trans HW2.out (fun k hk => Or.inl (hk ▸ HBK.out.1)))).trans (setcells_wrV w2 w.heap.size (.int .i64 0) (.int .i64 0)) (fun k hk => Or.inr (by omega))
end Go.Proofs.Ytinmgbodgecoeaa
namespace Go.Proofs.Ytinmgbodgecoeaa
open Go.RowKit

theorem VOff.up {w : World} {base cb hb rb fb tb ng : Nat} {own own' : Nat → Prop} {P : Value × Value × Value} {lv gv bv : Value} {mb : Nat} {tp : List V} {lo : List Nat} (h : VOff base own rb fb tb lv gv) (hu : ∀ k, own' k → own k ∨ w.heap.size ≤ k) (hF : VFrame w fb tb tp lv lo mb) (hR : VRun w rb cb hb P gv bv ng) : VOff base own' rb fb tb lv gv := by
  have hl := hF.lt
  have hr := hR.row.lt
  have hn : ∀ k, ¬ own k → k < w.heap.size → ¬ own' k := fun k h1 h2 h3 => (hu k h3).elim h1 (fun h => by omega)
  refine ⟨⟨hn _ h.orb.1 hr, h.orb.2⟩, ⟨hn _ h.ofb.1 hl.1, h.ofb.2⟩, ⟨hn _ h.otb.1 hl.2, h.otb.2⟩, fun g hg => ?_, fun g hg => ?_, h.ort⟩
  · obtain ⟨_, cs, hr'⟩ := ownsRow_row hF.locs hg
    exact ⟨hn _ (h.olv g hg).1 hr'.lt, (h.olv g hg).2⟩
  · obtain ⟨_, cs, hr'⟩ := ownsRow_row hR.globs hg
    exact ⟨hn _ (h.ogv g hg).1 hr'.lt, (h.ogv g hg).2⟩

theorem HCs.stepsV {w : World} {base : Nat} {own : Nat → Prop} {cb hb : Nat} {fuel : Int} {s : St} (h : HCs w base own cb hb fuel s) : w.cell? ⟨cb, 3, none⟩ = some (.int .i64 s.steps) := by
  obtain ⟨inv, outv, memv, rb, h⟩ := h
  exact h.clk.cell (j := 3) rfl

theorem numsF_posV {M : List MO} {n x : Nat} (h : x ∈ numsF M n) : 1 ≤ x := by
  unfold numsF at h
  simp only [List.mem_map, List.mem_range] at h
  obtain ⟨i, _, rfl⟩ := h
  split
  · omega
  · rename_i hM
    have := List.length_pos_iff.2 hM
    omega
/-- The state between a call's blocks. -/
structure VIn (base cb hb rb fb tb : Nat) (own : Nat → Prop) (fuel : Int) (P : Value × Value × Value) (gv bv lv : Value) (mb nl : Nat) (lf : Int → Option Nat) (vp : VirtS) (lo : List Nat) (ng nt : Nat) (c : Int) (gc : Array Value) (w : World) (own2 : Nat → Prop) (st : St) (tp : List V) (wr : World) : Prop where
  up : ∀ k, own k → own2 k
  dn : ∀ k, own2 k → own k ∨ w.heap.size + 2 ≤ k
  hc : HCs wr base own2 cb hb fuel st
  run : VRun wr rb cb hb P gv bv ng
  fr : VFrame wr fb tb tp lv lo mb
  off : VOff base own2 rb fb tb lv gv
  frok : FrOk (memBase st.mem) tp lo ng
  inv : GInv fuel st
  calls : st.calls = c
  len : tp.length = nt
  box : Row wr (w.heap.size + 1) gc 55
  ocb : own cb
  owl : ∀ k, own k → k < w.heap.size
  pos : base ≤ w.heap.size
  new : w.heap.size + 2 ≤ fb ∧ w.heap.size + 2 ≤ tb ∧ ∀ g, lv.ownBlock = some g → w.heap.size + 2 ≤ g
  labs : VLabs wr base own2 w.heap.size bv vp
  lab : LabM wr mb nl lf
  lim : ¬ own2 mb ∧ mb < w.heap.size
  wr : Wr own w wr

section
variable {base cb hb rb fb tb : Nat} {own : Nat → Prop} {fuel : Int} {P : Value × Value × Value} {gv bv lv : Value} {mb nl : Nat} {lf : Int → Option Nat} {vp : VirtS} {lo : List Nat} {ng nt : Nat} {c : Int} {gc : Array Value} {w : World} {own2 : Nat → Prop} {st : St} {tp : List V} {wr wr' : World}
theorem VIn.siz (h : VIn base cb hb rb fb tb own fuel P gv bv lv mb nl lf vp lo ng nt c gc w own2 st tp wr) : w.heap.size ≤ wr.heap.size := h.wr.size
theorem VIn.nown (h : VIn base cb hb rb fb tb own fuel P gv bv lv mb nl lf vp lo ng nt c gc w own2 st tp wr) : ¬ own2 w.heap.size ∧ ¬ own2 (w.heap.size + 1) :=
  ⟨fun e => by rcases h.dn _ e with h' | h'; have := h.owl _ h'; omega; omega, fun e => by rcases h.dn _ e with h' | h'; have := h.owl _ h'; omega; omega⟩
/-- The value's box alone is written. -/
theorem VIn.box1 (h : VIn base cb hb rb fb tb own fuel P gv bv lv mb nl lf vp lo ng nt c gc w own2 st tp wr) (hw : Wr (fun i => i = w.heap.size) wr wr') (hrb : rb ≠ w.heap.size) (hgv : ∀ g, gv.ownBlock = some g → g ≠ w.heap.size) : VIn base cb hb rb fb tb own fuel P gv bv lv mb nl lf vp lo ng nt c gc w own2 st tp wr' := by
  have hn := h.nown
  obtain ⟨n1, n2, n3⟩ := h.new
  have hp := h.pos
  exact ⟨h.up, h.dn, h.hc.wr hw (fun k hk => (by subst hk; exact ⟨hp, hn.1⟩)), h.run.wr hw hrb hgv, h.fr.wr hw (by omega) (by omega) (fun g hg => by have := n3 g hg; omega), h.off, h.frok, h.inv, h.calls, h.len, h.box.wr hw (by omega), h.ocb, h.owl, h.pos, h.new, h.labs.wr hw (fun k hk => Or.inr (by have e : k = w.heap.size := hk; omega)) h.siz, h.lab.wr hw (fun e => by have := h.lim.2; have e : mb = w.heap.size := e; omega), h.lim, h.wr.trans hw (fun k hk => Or.inr (by omega))⟩
theorem VIn.below (h : VIn base cb hb rb fb tb own fuel P gv bv lv mb nl lf vp lo ng nt c gc w own2 st tp wr) (hbw : Below wr.heap.size wr wr') : VIn base cb hb rb fb tb own fuel P gv bv lv mb nl lf vp lo ng nt c gc w own2 st tp wr' :=
  ⟨h.up, h.dn, h.hc.below hbw, h.run.below hbw, h.fr.below hbw, h.off, h.frok, h.inv, h.calls, h.len, h.box.below hbw h.box.lt, h.ocb, h.owl, h.pos, h.new, h.labs.wr (Wr.of_below (F := fun _ => False) hbw) (fun _ h => h.elim) h.siz, h.lab.below hbw, h.lim, h.wr.trans (Wr.of_below (F := fun _ => False) hbw) (fun _ h => h.elim)⟩
theorem VIn.bas (h : VIn base cb hb rb fb tb own fuel P gv bv lv mb nl lf vp lo ng nt c gc w own2 st tp wr) : Below base w wr :=
  h.wr.below h.pos (fun k hk => (h.hc.blocks.2.2 k (h.up k hk)).1)
/-- What is left of the world where a block has been done. -/
theorem VIn.after (h : VIn base cb hb rb fb tb own fuel P gv bv lv mb nl lf vp lo ng nt c gc w own2 st tp wr) (own3 : Nat → Prop) (h1 : ∀ k, own2 k → own3 k) (h2 : ∀ k, own3 k → own2 k ∨ wr.heap.size ≤ k) (h5 : Wr (fun b => own2 b ∨ b = tb) wr wr') :
    (∀ k, own k → own3 k) ∧ (∀ k, own3 k → own k ∨ w.heap.size + 2 ≤ k) ∧ Wr own w wr' ∧ (∀ t cs, Row wr w.heap.size cs t → Row wr' w.heap.size cs t) ∧ Row wr' (w.heap.size + 1) gc 55 := by
  have hn := h.nown
  obtain ⟨n1, n2, n3⟩ := h.new
  have hz := h.box.lt
  refine ⟨fun k hk => h1 k (h.up k hk), fun k hk => ?_, h.wr.trans h5 ?_, fun t cs hr => hr.wr h5 ?_, h.box.wr h5 ?_⟩
  · rcases h2 k hk with h' | h'
    · exact h.dn k h'
    · exact Or.inr (by omega)
  · rintro k (hk | hk)
    · rcases h.dn k hk with h' | h'
      · exact Or.inl h'
      · exact Or.inr (by omega)
    · exact Or.inr (by omega)
  · rintro (h' | h')
    · exact hn.1 h'
    · omega
  · rintro (h' | h')
    · exact hn.2 h'
    · omega
theorem VIn.next (h : VIn base cb hb rb fb tb own fuel P gv bv lv mb nl lf vp lo ng nt c gc w own2 st tp wr) (own3 : Nat → Prop) (h1 : ∀ k, own2 k → own3 k) (h2 : ∀ k, own3 k → own2 k ∨ wr.heap.size ≤ k) (h5 : Wr (fun b => own2 b ∨ b = tb) wr wr') {st' : St} {tp' : List V} (h3 : HCs wr' base own3 cb hb fuel st') (h4 : VFrame wr' fb tb tp' lv lo mb) (hk : GKept fuel st st') (hf : FrOk (memBase st'.mem) tp' lo ng) (hl : tp'.length = tp.length) :
    VIn base cb hb rb fb tb own fuel P gv bv lv mb nl lf vp lo ng nt c gc w own3 st' tp' wr' := by
  obtain ⟨a1, a2, a3, a4, a5⟩ := h.after own3 h1 h2 h5
  refine ⟨a1, a2, h3, h.run.wr h5 ?_ ?_, h4, VOff.up h.off h2 h.fr h.run, hf, hk.inv, hk.calls.trans h.calls, hl.trans h.len, a5, h.ocb, h.owl, h.pos, h.new, (h.labs.wr h5 ?_ h.siz).up ?_, h.lab.wr h5 ?_, ⟨fun ho => (h2 mb ho).elim h.lim.1 (fun hh => by have := h.lim.2; have := h.siz; omega), h.lim.2⟩, a3⟩
  · rintro (h' | h')
    · exact h.off.orb.1 h'
    · exact h.off.ort h'
  · rintro g hg (h' | h')
    · exact (h.off.ogv g hg).1 h'
    · exact (h.off.ogv g hg).2.2 h'
  · rintro k (hk | hk)
    · exact Or.inl hk
    · exact Or.inr (by have := h.new.2.1; omega)
  · intro k hk
    rcases h2 k hk with h' | h'
    · exact Or.inl h'
    · exact Or.inr (by have := h.siz; omega)
  · rintro (hk | hk)
    · exact h.lim.1 hk
    · have := h.new.2.1; have := h.lim.2; omega
end
end Go.Proofs.Ytinmgbodgecoeaa
namespace Go.Proofs.Ytinmgbodgecoeaa
open Go.RowKit

theorem vnext_any (base cb hb rb fb tb mb nl : Nat) (own : Nat → Prop) (P : Value × Value × Value) (gv bv lv : Value) (fuel : Int) (s : St) (tp : List V) (lo : List Nat) (R : CallR) (p : VirtS) (g : CodeS) (k : Nat) (x : InsS) (A : Option Addr) (cap : Nat) (w : World)
    (hi : InsOk g p.globs.length p.funcs.length (parV p) x) (hk : k ≤ 10000) (hregs : g.regs = (tp.length : Int)) (hlo : g.locs.length = lo.length) (hb64 : In64 x.b) (hn64 : In64 x.n) (harg : LongsAt w base x.arg (.slice A x.arg.length cap)) (hpa : ∀ c, c ∈ p.funcs → c.params ≤ 4)
    (h : HCs w base own cb hb fuel s) (hR : VRun w rb cb hb P gv bv p.globs.length) (hF : VFrame w fb tb tp lv lo mb) (hO : VOff base own rb fb tb lv gv) (hFr : FrOk (memBase s.mem) tp lo p.globs.length) (hI : GInv fuel s) (hf : fuel ≤ 100000000)
    (hlab : LabM w mb nl (labO g.ins)) (hmb : ¬ own mb) (hP : VirtAt w base P p) (hL : VLabs w base own w.heap.size bv p) (hC : VCallOk p fuel s.calls R) :
    Calls Try.prog 25 #[.pointer (some ⟨rb, 0, none⟩), .pointer (some ⟨fb, 0, none⟩), .int .i64 (k : Int), .agg #[.int .i64 x.op, .int .i64 x.dst, .int .i64 x.a, .int .i64 x.b, .int .i64 x.n, .slice A x.arg.length cap]] w fun e w' => VNextSays base cb hb fuel fb tb mb lv lo own (nextF R fuel lo g.ins s tp k x) w e w' := by
  cases hy : (stepF fuel 1 s).1 with
  | false => exact vnext_dry base cb hb rb fb tb mb own P gv bv lv fuel s tp lo p.globs.length R g.ins k x A cap w h hR hF hO hI hf hk hy
  | true =>
    by_cases h17 : x.op = 17
    · exact vnext_ret base cb hb rb fb tb mb own P gv bv lv fuel s tp lo p.globs.length R g.ins k x A cap w h hR hF hO hI hf hk hy h17
    have hnum := hi.num
    by_cases h15 : x.op = 15
    · have hli : labI g.ins x.n = true := by simpa [numberI, h15] using hnum
      exact vnext_jump base cb hb rb fb tb mb own P gv bv lv fuel s tp lo p.globs.length R g.ins k x A cap w h hR hF hO hI hf hk hy h15 nl hlab hmb hli hn64
    by_cases h16 : x.op = 16
    · have hli : labI g.ins x.n = true := by simpa [numberI, h16] using hnum
      have ha := hi.a (by simp [h16])
      obtain ⟨ma, hma⟩ := Int.eq_ofNat_of_zero_le ha.1
      have hlt : ma < tp.length := by omega
      by_cases hz : tp.getD ma ⟨0, 0⟩ = ⟨0, 0⟩
      · exact vnext_stay base cb hb rb fb tb mb own P gv bv lv fuel s tp lo p.globs.length R g.ins k x A cap w h hR hF hO hI hf hk hy h16 ma hma hlt hz
      by_cases hz0 : 0 < (tp.getD ma ⟨0, 0⟩).obj
      · exact vnext_go_obj base cb hb rb fb tb mb own P gv bv lv fuel s tp lo p.globs.length R g.ins k x A cap w h hR hF hO hI hf hk hy h16 ma hma hlt hz0 nl hlab hmb hli hn64
      · exact vnext_go_num base cb hb rb fb tb mb own P gv bv lv fuel s tp lo p.globs.length R g.ins k x A cap w h hR hF hO hI hf hk hy h16 ma hma hlt ⟨by omega, fun e => hz (by
          have e0 : (tp.getD ma ⟨0, 0⟩).obj = 0 := by omega
          cases hv : tp.getD ma ⟨0, 0⟩ with
          | mk o n => rw [hv] at e e0; simp only at e e0; rw [e, e0])⟩ nl hlab hmb hli hn64
    · refine vnext_on base cb hb rb fb tb mb own P gv bv lv fuel s tp lo p.globs.length R g.ins k x A cap w h hR hF hO hI hf hk hy ⟨h15, h16, h17⟩ (fun W hH hRW hFW hW => ?_)
      obtain ⟨e1, hI1⟩ := hI.tick (by omega) hy
      rw [e1] at hH ⊢
      have hbk := h.blocks
      have hcb := hbk.2.2 cb hbk.1
      have hbW := hW.below (B := base) (by omega) (fun k hk => by subst hk; omega)
      have hout : s.out.length ≤ 1000000000 := by have := hI.outs; have := hI.hi; omega
      by_cases h10 : x.op = 10
      · obtain ⟨op, dst, a, b, n, arg⟩ := x
        simp only at h10
        subst h10
        simp only at *
        have hd := hi.dst.2 rfl
        simp [numberI, regsB, parV] at hnum
        obtain ⟨⟨hn0, hn1⟩, hrs, hpar⟩ := hnum
        obtain ⟨f, rfl⟩ := Int.eq_ofNat_of_zero_le hn0
        have hfl : f < p.funcs.length := by omega
        have hg' : p.funcs[f]? = some p.funcs[f] := List.getElem?_eq_getElem hfl
        have hgd : (p.funcs[f]?.getD noCode).params = (arg.length : Int) := by simpa using hpar
        rw [hg'] at hgd
        simp only [Option.getD_some] at hgd
        have hp4 := hpa p.funcs[f] (List.getElem_mem hfl)
        exact vdoes_call base cb hb rb fb tb mb own P gv bv lv fuel _ tp lo R p f p.funcs[f] dst a b arg A cap W hH hRW hFW hO hFr hI1 (fun r hr => by have := hrs r hr; omega) (by omega) (harg.below hbW (Nat.le_refl _)) hg' hgd.symm (hP.below hbW) ((hL.wr hW (fun q hq => Or.inl (hq ▸ hbk.1)) (Nat.le_refl _)).mono hW.size) hC (by rw [← hregs]; exact hd)
      · exact vdoes_any base cb hb rb fb tb mb own P gv bv lv fuel _ tp lo R x A cap W hi ⟨h15, h16, h17⟩ h10 hregs hlo hb64 (harg.below hbW (Nat.le_refl _)) hout hH hRW hFW hO hFr
end Go.Proofs.Ytinmgbodgecoeaa
namespace Go.Proofs.Ytinmgbodgecoeaa
open Go.RowKit

section
variable {R : CallR} {fuel : Int} {lo : List Nat} {l : List InsS} {x : InsS} {k : Nat} {s : St} {tp : List V}
theorem doesF_dryV {y : StepS} (h : (stepF fuel 1 s).1 = false) : doesF R fuel lo s tp y = (false, (stepF fuel 1 s).2, tp) := by
  unfold doesF
  rw [if_pos h]
theorem afterF_exit (h : x.op = 13) : (afterF R lo s tp (stepI x)).1 = false := by
  obtain ⟨op, dst, a, b, n, arg⟩ := x
  simp only at h
  subst h
  rw [show stepI ⟨13, dst, a, b, n, arg⟩ = ⟨6, -1, 0, 0, [tmpT a]⟩ from rfl, afterF_one (r := a) rfl]
  unfold actF
  simp only [List.getD_cons_zero]
  rw [if_neg (show ¬ (6 : Int) = 1 by decide), if_neg (show ¬ (6 : Int) = 2 by decide), if_neg (show ¬ (6 : Int) = 3 by decide), if_neg (show ¬ (6 : Int) = 5 by decide)]
  by_cases hz : (tp.getD a.toNat ⟨0, 0⟩).obj > 0
  · rw [if_pos hz]
  · rw [if_neg hz]; rfl
theorem goI_false (h : l[k]? = some x) (g : Nat) (hr : (nextF R fuel lo l s tp k x).1 = false) : blocksF R fuel lo (blocksI l) (g + 1) (k : Nat) s tp = (none, (nextF R fuel lo l s tp k x).2.2.1) := by
  cases hy : (stepF fuel 1 s).1 with
  | false =>
    have e : (nextF R fuel lo l s tp k x).2.2.1 = (stepF fuel 1 s).2 := by unfold nextF; rw [if_pos hy]
    rw [e]
    by_cases hx : Straight x
    · rw [goI_over h hx g (by rw [doesF_dryV hy]), doesF_dryV hy]
    · exact goI_dry h hx g hy
  | true =>
    by_cases h17 : x.op = 17
    · unfold nextF at hr; rw [if_neg (by rw [hy]; simp), if_pos h17] at hr; cases hr
    by_cases h15 : x.op = 15
    · unfold nextF at hr; rw [if_neg (by rw [hy]; simp), if_neg h17, if_pos h15] at hr; cases hr
    by_cases h16 : x.op = 16
    · unfold nextF at hr; rw [if_neg (by rw [hy]; simp), if_neg h17, if_neg h15, if_pos h16] at hr; cases hr
    have e : nextF R fuel lo l s tp k x = ((afterF R lo (stepF fuel 1 s).2 tp (stepI x)).1, ((k + 1 : Nat) : Int), (afterF R lo (stepF fuel 1 s).2 tp (stepI x)).2.1, (afterF R lo (stepF fuel 1 s).2 tp (stepI x)).2.2) := by unfold nextF; rw [if_neg (by rw [hy]; simp), if_neg h17, if_neg h15, if_neg h16]
    rw [e] at hr ⊢
    rw [goI_over h ⟨h15, h16, h17⟩ g (by rw [doesF_after hy]; exact hr), doesF_after hy]
theorem goI_end (h : l[k]? = some x) (g : Nat) (hx : x.op = 17) (hr : (nextF R fuel lo l s tp k x).1 = true) : blocksF R fuel lo (blocksI l) (g + 1) (k : Nat) s tp = (some (tp.getD x.a.toNat ⟨0, 0⟩), { (nextF R fuel lo l s tp k x).2.2.1 with mem := killF (nextF R fuel lo l s tp k x).2.2.1.mem lo, calls := (nextF R fuel lo l s tp k x).2.2.1.calls - 1 }) ∧ (nextF R fuel lo l s tp k x).2.2.2 = tp ∧ (nextF R fuel lo l s tp k x).2.1 = -1 := by
  cases hy : (stepF fuel 1 s).1 with
  | false => unfold nextF at hr; rw [if_pos hy] at hr; cases hr
  | true =>
    have e : nextF R fuel lo l s tp k x = (true, -1, (stepF fuel 1 s).2, tp) := by unfold nextF; rw [if_neg (by rw [hy]; simp), if_pos hx]
    rw [e]
    exact ⟨goI_ret h hx g hy, rfl, rfl⟩
theorem goI_true (h : l[k]? = some x) (hlast : x.op ≠ 15 → x.op ≠ 13 → x.op ≠ 17 → k + 1 < l.length) (hlab : x.op = 15 ∨ x.op = 16 → labN l x.n < l.length) (g : Nat) (hx : x.op ≠ 17) (hr : (nextF R fuel lo l s tp k x).1 = true) : ∃ (g' : Nat) (k' : Nat), (nextF R fuel lo l s tp k x).2.1 = (k' : Int) ∧ k' < l.length ∧
    (Straight x → g' = g + 1 ∧ k' = k + 1) ∧ (¬ Straight x → g' = g) ∧ blocksF R fuel lo (blocksI l) (g + 1) (k : Nat) s tp = blocksF R fuel lo (blocksI l) g' (k' : Nat) (nextF R fuel lo l s tp k x).2.2.1 (nextF R fuel lo l s tp k x).2.2.2 := by
  cases hy : (stepF fuel 1 s).1 with
  | false => unfold nextF at hr; rw [if_pos hy] at hr; cases hr
  | true =>
    by_cases h15 : x.op = 15
    · have e : nextF R fuel lo l s tp k x = (true, ((labN l x.n : Nat) : Int), (stepF fuel 1 s).2, tp) := by unfold nextF; rw [if_neg (by rw [hy]; simp), if_neg hx, if_pos h15]
      rw [e]
      exact ⟨g, labN l x.n, rfl, hlab (Or.inl h15), fun hs => absurd h15 hs.1, fun _ => rfl, goI_jump h h15 g hy⟩
    by_cases h16 : x.op = 16
    · have e : nextF R fuel lo l s tp k x = (true, (if tp.getD x.a.toNat ⟨0, 0⟩ = ⟨0, 0⟩ then ((k + 1 : Nat) : Int) else (labN l x.n : Nat)), (stepF fuel 1 s).2, tp) := by unfold nextF; rw [if_neg (by rw [hy]; simp), if_neg hx, if_neg h15, if_pos h16]
      rw [e, goI_branch h h16 g hy]
      by_cases hz : tp.getD x.a.toNat ⟨0, 0⟩ = ⟨0, 0⟩
      · rw [if_pos hz]
        exact ⟨g, k + 1, rfl, hlast h15 (by omega) hx, fun hs => absurd h16 hs.2.1, fun _ => rfl, rfl⟩
      · rw [if_neg hz]
        exact ⟨g, labN l x.n, rfl, hlab (Or.inr h16), fun hs => absurd h16 hs.2.1, fun _ => rfl, rfl⟩
    have e : nextF R fuel lo l s tp k x = ((afterF R lo (stepF fuel 1 s).2 tp (stepI x)).1, ((k + 1 : Nat) : Int), (afterF R lo (stepF fuel 1 s).2 tp (stepI x)).2.1, (afterF R lo (stepF fuel 1 s).2 tp (stepI x)).2.2) := by unfold nextF; rw [if_neg (by rw [hy]; simp), if_neg hx, if_neg h15, if_neg h16]
    rw [e] at hr ⊢
    simp only at hr ⊢
    have h13 : x.op ≠ 13 := fun h13 => by rw [afterF_exit h13] at hr; cases hr
    refine ⟨g + 1, k + 1, rfl, hlast h15 h13 hx, fun _ => ⟨rfl, rfl⟩, fun hs => absurd ⟨h15, h16, hx⟩ hs, ?_⟩
    rw [goI_straight h ⟨h15, h16, hx⟩ (hlast h15 h13 hx) g, doesF_after hy]
    rcases hd : afterF R lo (stepF fuel 1 s).2 tp (stepI x) with ⟨ok, s', tp'⟩
    rw [hd] at hr
    simp only at hr
    subst hr
    rfl
theorem last_more {c : CodeS} (h : lastB c = true) {x : InsS} {k : Nat} (hk : c.ins[k]? = some x) (h15 : x.op ≠ 15) (h13 : x.op ≠ 13) (h17 : x.op ≠ 17) : k + 1 < c.ins.length := by
  have hkl : k < c.ins.length := (List.getElem?_eq_some_iff.1 hk).1
  rcases Nat.lt_or_ge (k + 1) c.ins.length with h' | h'
  · exact h'
  · exfalso
    have hke : c.ins.length - 1 = k := by omega
    unfold lastB at h
    rw [hke, List.getD_eq_getElem?_getD, hk] at h
    simp at h
    omega
theorem lab_lt_of {c : CodeS} {ng nf : Nat} {par : Int → Int → Bool} {x : InsS} (hi : InsOk c ng nf par x) (h : x.op = 15 ∨ x.op = 16) : labN c.ins x.n < c.ins.length := by
  have hn := hi.num
  rcases h with h | h
  · exact labN_lt (by simpa [numberI, h] using hn)
  · exact labN_lt (by simpa [numberI, h] using hn)
theorem GKept.ticked (hI : GInv fuel s) (hy : (stepF fuel 1 s).1 = true) : GKept fuel s (stepF fuel 1 s).2 := by
  obtain ⟨e1, hI1⟩ := hI.tick (by omega) hy
  rw [e1]
  exact ⟨hI1, rfl, Nat.le_refl _, show s.steps ≤ s.steps + 1 by omega⟩
/-- What an instruction keeps. -/
theorem next_kept {p : ProgS} {nt nl : Nat} (hR : ∀ c, RKept p fuel c R) (hI : GInv fuel s) (hF : FrOk (memBase s.mem) tp lo p.globs.length) (ht : tp.length = nt) (hl : lo.length = nl) (hx : Straight x → StepOkG p nt nl (stepI x)) (hr : (nextF R fuel lo l s tp k x).1 = true) :
    GKept fuel s (nextF R fuel lo l s tp k x).2.2.1 ∧ FrOk (memBase (nextF R fuel lo l s tp k x).2.2.1.mem) (nextF R fuel lo l s tp k x).2.2.2 lo p.globs.length ∧ (nextF R fuel lo l s tp k x).2.2.2.length = tp.length ∧ (¬ Straight x → (nextF R fuel lo l s tp k x).2.2.1.steps = s.steps + 1) := by
  cases hy : (stepF fuel 1 s).1 with
  | false => unfold nextF at hr; rw [if_pos hy] at hr; cases hr
  | true =>
    obtain ⟨e1, hI1⟩ := hI.tick (by omega) hy
    have hk := GKept.ticked hI hy
    have hm : memBase (stepF fuel 1 s).2.mem = memBase s.mem := by rw [stepF_mem]
    have hst : (stepF fuel 1 s).2.steps = s.steps + 1 := by rw [e1]
    by_cases h17 : x.op = 17
    · have e : nextF R fuel lo l s tp k x = (true, -1, (stepF fuel 1 s).2, tp) := by unfold nextF; rw [if_neg (by rw [hy]; simp), if_pos h17]
      rw [e]
      exact ⟨hk, by show FrOk (memBase (stepF fuel 1 s).2.mem) tp lo _; rw [hm]; exact hF, rfl, fun _ => hst⟩
    by_cases h15 : x.op = 15
    · have e : nextF R fuel lo l s tp k x = (true, ((labN l x.n : Nat) : Int), (stepF fuel 1 s).2, tp) := by unfold nextF; rw [if_neg (by rw [hy]; simp), if_neg h17, if_pos h15]
      rw [e]
      exact ⟨hk, by show FrOk (memBase (stepF fuel 1 s).2.mem) tp lo _; rw [hm]; exact hF, rfl, fun _ => hst⟩
    by_cases h16 : x.op = 16
    · have e : nextF R fuel lo l s tp k x = (true, (if tp.getD x.a.toNat ⟨0, 0⟩ = ⟨0, 0⟩ then ((k + 1 : Nat) : Int) else (labN l x.n : Nat)), (stepF fuel 1 s).2, tp) := by unfold nextF; rw [if_neg (by rw [hy]; simp), if_neg h17, if_neg h15, if_pos h16]
      rw [e]
      exact ⟨hk, by show FrOk (memBase (stepF fuel 1 s).2.mem) tp lo _; rw [hm]; exact hF, rfl, fun _ => hst⟩
    have hs : Straight x := ⟨h15, h16, h17⟩
    have e : nextF R fuel lo l s tp k x = ((afterF R lo (stepF fuel 1 s).2 tp (stepI x)).1, ((k + 1 : Nat) : Int), (afterF R lo (stepF fuel 1 s).2 tp (stepI x)).2.1, (afterF R lo (stepF fuel 1 s).2 tp (stepI x)).2.2) := by unfold nextF; rw [if_neg (by rw [hy]; simp), if_neg h17, if_neg h15, if_neg h16]
    rw [e] at hr ⊢
    simp only at hr ⊢
    obtain ⟨q1, q2, q3⟩ := does_kept (x := stepI x) (s' := (afterF R lo (stepF fuel 1 s).2 tp (stepI x)).2.1) (tp' := (afterF R lo (stepF fuel 1 s).2 tp (stepI x)).2.2) hR hI hF ht hl (hx hs) (by rw [doesF_after hy, ← hr])
    exact ⟨q1, q2, q3, fun h => absurd hs h⟩
end
end Go.Proofs.Ytinmgbodgecoeaa
namespace Go.Proofs.Ytinmgbodgecoeaa
open Go.RowKit

theorem doesF_dry {R : CallR} {fuel : Int} {lo : List Nat} {s : St} {tp : List V} {x : StepS} (h : (stepF fuel 1 s).1 = false) : doesF R fuel lo s tp x = (false, (stepF fuel 1 s).2, tp) := by
  unfold doesF
  rw [if_pos h]
theorem doesF_fail {R : CallR} {fuel : Int} {lo : List Nat} {s : St} {tp : List V} {x : StepS} (h : (stepF fuel 1 s).1 = true) (he : evalTs s.mem tp lo x.args = none) : doesF R fuel lo s tp x = (false, { (stepF fuel 1 s).2 with kind := 3 }, tp) := by
  unfold doesF
  rw [if_neg (by rw [h]; simp), stepF_mem, he]

end Go.Proofs.Ytinmgbodgecoeaa
namespace Go.Proofs.Ytinmgbodgecoeaa
open Go.RowKit

theorem setT_nat {tp : List V} {m : Nat} {v : V} : setT tp (m : Int) v = tp.set m v := by
  unfold setT
  rw [if_pos (by omega)]
  rfl
end Go.Proofs.Ytinmgbodgecoeaa
namespace Go.Proofs.Ytinmgbodgecoeaa
open Go.RowKit

theorem int_zero {w : World} {b o : Nat} {v : V} (h : w.cell? ⟨b, o, none⟩ = some (.int .i64 v.obj)) (hv : v.obj = 0) : w.cell? ⟨b, o, none⟩ = some (.int .i64 0) := by
  rw [hv] at h
  exact h
theorem int_zero0 {w : World} {b : Nat} {v : V} (h : w.cell? ⟨b, 0, none⟩ = some (.int .i64 v.obj)) (hv : v.obj = 0) : w.cell? ⟨b, 0, none⟩ = some (.int .i64 0) := int_zero h hv

end Go.Proofs.Ytinmgbodgecoeaa
namespace Go.Proofs.Ytinmgbodgecoeaa
open Go.RowKit

end Go.Proofs.Ytinmgbodgecoeaa
namespace Go.Proofs.Ytinmgbodgecoeaa
open Go.RowKit

/-- What a call answers. -/
def GCallSays (base cb hb : Nat) (fuel : Int) (own : Nat → Prop) (r : Option V × St) (w : World) (e : Ending) (w' : World) : Prop :=
  AnsV r.1 e ∧ ∃ own' : Nat → Prop, (∀ k, own k → own' k) ∧ (∀ k, own' k → own k ∨ w.heap.size ≤ k) ∧ HCs w' base own' cb hb fuel r.2 ∧ Wr own w w'
end Go.Proofs.Ytinmgbodgecoeaa
namespace Go.Proofs.Ytinmgbodgecoeaa
open Go.RowKit

end Go.Proofs.Ytinmgbodgecoeaa
namespace Go.Proofs.Ytinmgbodgecoeaa
open Go.RowKit

/-- How a block's call answers. -/
def BlkAns : Goes → Int → Int → Int → Bool → Prop
  | .over, _, _, _, ok => ok = false
  | .next j, k, _, _, ok => ok = true ∧ k = j
  | .ret v, k, y0, y1, ok => ok = true ∧ k = -1 ∧ y0 = v.obj ∧ y1 = v.n
section
variable {base cb hb rb fb tb : Nat} {own : Nat → Prop} {fuel : Int} {P : Value × Value × Value} {gv lv : Value} {lo : List Nat} {ng nt : Nat} {s : St} {bc : Array Value} {w : World} {own2 : Nat → Prop} {st : St} {tp : List V} {wr wr' : World}
end
theorem then_mono {K : Act → World → Prop} {X Y : Exit → Act → World → Prop} {e : Exit} {a : Act} {w : World} (h : ∀ e a w, X e a w → Y e a w) (hx : Exit.then K X e a w) : Exit.then K Y e a w := by
  cases e <;> first | exact hx | exact h _ _ _ hx
theorem setcells_wr (w : World) (r : Nat) (a b : Value) : Wr (fun i => i = r) w ((w.setCell ⟨r, 0, none⟩ a).setCell ⟨r, 1, none⟩ b) := wr_pair w r 0 1 a b
theorem setdrew_wr (w : World) (r : Nat) (a b : Value) : Wr (fun i => i = r) w ((w.drew.setCell ⟨r, 0, none⟩ a).setCell ⟨r, 1, none⟩ b) := ((Wr.refl _ w).drewR).trans (setcells_wr w.drew r a b) (fun _ h => Or.inl h)
theorem blockF_dry2 {R : CallR} {fuel : Int} {lo : List Nat} {s st : St} {tp tp2 : List V} {b : BlockS} (h : stepsF R fuel lo s tp b.steps = (true, st, tp2)) (hy : (stepF fuel 1 st).1 = false) : blockF R fuel lo s tp b = (.over, (stepF fuel 1 st).2, tp2) := by
  simp only [blockF, h, hy, if_true]
theorem blockF_jump {R : CallR} {fuel : Int} {lo : List Nat} {s st : St} {tp tp2 : List V} {b : BlockS} (h : stepsF R fuel lo s tp b.steps = (true, st, tp2)) (hy : (stepF fuel 1 st).1 = true) (hf : b.fin = 1) : blockF R fuel lo s tp b = (.next b.next, (stepF fuel 1 st).2, tp2) := by
  simp only [blockF, h, hy, hf, if_true]
  rfl
theorem blockF_fail {R : CallR} {fuel : Int} {lo : List Nat} {s st : St} {tp tp2 : List V} {b : BlockS} (h : stepsF R fuel lo s tp b.steps = (true, st, tp2)) (hy : (stepF fuel 1 st).1 = true) (hf : b.fin ≠ 1) (hv : evalT (stepF fuel 1 st).2.mem tp2 lo b.cond = none) : blockF R fuel lo s tp b = (.over, { (stepF fuel 1 st).2 with kind := 3 }, tp2) := by
  simp only [blockF, h, hy, hf, if_false, hv]
  rfl
theorem blockF_ret {R : CallR} {fuel : Int} {lo : List Nat} {s st : St} {tp tp2 : List V} {b : BlockS} {v : V} (h : stepsF R fuel lo s tp b.steps = (true, st, tp2)) (hy : (stepF fuel 1 st).1 = true) (hf : b.fin = 3) (hv : evalT (stepF fuel 1 st).2.mem tp2 lo b.cond = some v) : blockF R fuel lo s tp b = (.ret v, (stepF fuel 1 st).2, tp2) := by
  simp only [blockF, h, hy, hf, hv]
  rfl
theorem blockF_branch {R : CallR} {fuel : Int} {lo : List Nat} {s st : St} {tp tp2 : List V} {b : BlockS} {v : V} (h : stepsF R fuel lo s tp b.steps = (true, st, tp2)) (hy : (stepF fuel 1 st).1 = true) (hf : b.fin = 2) (hv : evalT (stepF fuel 1 st).2.mem tp2 lo b.cond = some v) : blockF R fuel lo s tp b = (.next (if v = ⟨0, 0⟩ then b.els else b.next), (stepF fuel 1 st).2, tp2) := by
  simp only [blockF, h, hy, hf, hv]
  rfl
end Go.Proofs.Ytinmgbodgecoeaa
namespace Go.Proofs.Ytinmgbodgecoeaa
open Go.RowKit

end Go.Proofs.Ytinmgbodgecoeaa
namespace Go.Proofs.Ytinmgbodgecoeaa
open Go.RowKit

end Go.Proofs.Ytinmgbodgecoeaa
namespace Go.Proofs.Ytinmgbodgecoeaa
open Go.RowKit

theorem HCs.steps {w : World} {base : Nat} {own : Nat → Prop} {cb hb : Nat} {fuel : Int} {s : St} (h : HCs w base own cb hb fuel s) : w.cell? ⟨cb, 3, none⟩ = some (.int .i64 s.steps) := by
  obtain ⟨inv, outv, memv, rb, h⟩ := h
  exact h.clk.cell (j := 3) rfl

theorem numsF_pos {M : List MO} {n x : Nat} (h : x ∈ numsF M n) : 1 ≤ x := by
  unfold numsF at h
  simp only [List.mem_map, List.mem_range] at h
  obtain ⟨i, _, rfl⟩ := h
  split
  · omega
  · rename_i hM
    have := List.length_pos_iff.2 hM
    omega
section
variable {base cb hb rb fb tb : Nat} {own : Nat → Prop} {fuel : Int} {P : Value × Value × Value} {gv lv : Value} {lo : List Nat} {ng nt : Nat} {c : Int} {gc : Array Value} {w : World} {own2 : Nat → Prop} {st : St} {tp : List V} {wr wr' : World}
end
end Go.Proofs.Ytinmgbodgecoeaa
namespace Go.Proofs.Ytinmgbodgecoeaa
open Go.RowKit

end Go.Proofs.Ytinmgbodgecoeaa
namespace Go.Proofs.Ytinmgbodgecoeaa
open Go.RowKit

end Go.Proofs.Ytinmgbodgecoeaa
namespace Go.Proofs.Ytinmgbodgecoeaa
open Go.RowKit

/-- The machine's state at the start. -/
def s00 (inp : List Int) : St := ⟨inp, 0, 0, [], 0, 0, 0, []⟩

theorem runF_main {p : ProgS} {inp : List Int} {fuel : Int} {f : Nat} (h : p.main = (f : Nat)) : runF p inp fuel = endF (callF p fuel (63 + 1) f [] { s00 inp with mem := makesF [] p.globs }) := by
  simp only [runF, h, s00, Nat.reduceAdd]

theorem ProgAt.up {w : World} {B B' : Nat} {P : Value × Value × Value} {p : ProgS} (h : ProgAt w B P p) (hB : B ≤ B') : ProgAt w B' P p :=
  ⟨h.1.below (Below.refl _ _) hB fun _ _ h => h.below (Below.refl _ _) hB, h.2.1.below (Below.refl _ _) hB fun _ _ h => h.below (Below.refl _ _) hB, h.2.2⟩

end Go.Proofs.Ytinmgbodgecoeaa
namespace Go.Proofs.Ytinmgbodgecoeaa
open Go.RowKit

/-- What a run answers. -/
def GRunSays (o : OutS) (base : Nat) (w : World) (e : Ending) (w' : World) : Prop :=
  ∃ outv, e = .returned (.tuple #[.agg #[.int .i64 o.kind, .int .i64 o.code, outv, .int .i64 o.steps, .int .i64 o.deep], .int .i64 0]) ∧ w'.ownsRow base 2 1 outv o.out.length (o.out.map (Value.int .i64)) ∧ Below w.heap.size w w'

theorem memOk_zero : MemOk [⟨0, [], false⟩] :=
  ⟨by simp, fun o h => by simpa using h.symm, fun k o h1 h2 => by rw [List.getElem?_cons] at h2; split at h2 <;> first | omega | (simp at h2), fun o ho v hv => by simp at ho; subst ho; simp at hv⟩
theorem numOk_zero : NumOk [⟨0, [], false⟩] := fun o h => by simp at h; subst h; simp
/-- The clock and the heap as they are made. -/
theorem s00_hc {w : World} {B : Nat} {fuel : Int} {inp : List Int} {inv : Value} (hB : B ≤ w.heap.size) (hin : InW w B inv inp) :
    HCs ((w.alloc (.cells (ccells fuel (s00 inp) inv (.slice none 0 0)) 44)).alloc (.cells #[.slice none 0 0] 48)) w.heap.size (fun k => k = w.heap.size ∨ k = w.heap.size + 1) w.heap.size (w.heap.size + 1) fuel (s00 inp) := by
  have hb := below2 w (.cells (ccells fuel (s00 inp) inv (.slice none 0 0)) 44) (.cells #[.slice none 0 0] 48)
  refine ⟨inv, .slice none 0 0, .slice none 0 0, fun _ => 0, (Row.new _ _ _).alloc _, Row.new' _ _ (by simp), Or.inl rfl, Or.inr rfl, ?_, World.ownsRow_nil _ _ _ _, fun g hg => (by cases hg), ⟨⟨[], World.ownsRow_nil _ _ _ _, fun k o h => (by simp [s00, memBase] at h)⟩, fun k o h => (by simp [s00, memBase] at h), fun i j h => (by simp [s00, memBase] at h), ?_, ?_⟩, fun g hg => (by cases hg), fun k hk => ?_⟩
  · obtain ⟨A, cap, h0, h1, h2, h3⟩ := hin
    refine ⟨A, cap, h0, h1, h2, fun hp => ?_⟩
    obtain ⟨b, off, hA, hlt, hc⟩ := h3 hp
    exact ⟨b, off, hA, by omega, fun j x hj => ⟨(hb.cell (p := ⟨b, off + j, none⟩) (show b < w.heap.size by omega)).trans (hc j x hj).1, (hc j x hj).2⟩⟩
  · exact memOk_zero
  · exact numOk_zero
  · simp only [World.size_alloc]
    rcases hk with rfl | rfl <;> omega
theorem s00_inv {fuel : Int} (hf : 0 ≤ fuel) {inp : List Int} (hin : ∀ x, x ∈ inp → In64 x) {l : List ObS} (hob : ∀ o, o ∈ l → ObOk o ∧ ∀ x, x ∈ o.init → In64 x) (hl : l.length ≤ 16) : GInv fuel { s00 inp with mem := makesF [] l } ∧ (memBase (makesF [] l)).length = l.length + 1 := by
  have h1 := memBase_makes [] l
  have h2 : (memBase ([] : List MO)).length = 1 := rfl
  have h3 : MemOk (memBase (makesF [] l)) := makes_ok l (M := []) memOk_zero hob (by omega)
  refine ⟨⟨rfl, Int.le_refl _, hf, ?_, Nat.zero_le _, Int.le_refl _, Int.le_refl _, hin, h3, ?_⟩, by omega⟩
  · show (memBase (makesF [] l)).length ≤ 20 + _
    omega
  · show NumOk (memBase (makesF [] l))
    rw [← makesF_base]
    exact numOk_zero.makes l
theorem InW.in64 {w : World} {B : Nat} {v : Value} {l : List Int} (h : InW w B v l) : ∀ x, x ∈ l → In64 x := by
  intro x hx
  obtain ⟨j, hj⟩ := List.mem_iff_getElem?.1 hx
  have hlt : 0 < l.length := List.length_pos_of_mem hx
  obtain ⟨A, cap, _, _, _, h3⟩ := h
  obtain ⟨b, off, _, _, hc⟩ := h3 hlt
  exact (hc j x hj).2
theorem setcells5 (w : World) (r : Nat) (a b c d e : Value) : Wr (fun i => i = r) w (((((w.setCell ⟨r, 0, none⟩ a).setCell ⟨r, 1, none⟩ b).setCell ⟨r, 2, none⟩ c).setCell ⟨r, 3, none⟩ d).setCell ⟨r, 4, none⟩ e) :=
  (((((Wr.cell1 w r 0 a).trans (Wr.cell1 _ r 1 b) (fun _ h => Or.inl h)).trans (Wr.cell1 _ r 2 c) (fun _ h => Or.inl h)).trans (Wr.cell1 _ r 3 d) (fun _ h => Or.inl h)).trans (Wr.cell1 _ r 4 e) (fun _ h => Or.inl h))
theorem globV_nums (n : Nat) : globV n = locV (numsF [] n) := by
  unfold globV locV numsF
  rw [List.map_map]
  refine List.map_congr_left (fun i _ => ?_)
  simp [Nat.add_comm]
theorem slice_of_own {w : World} {base : Nat} {e : TypeId} {size : Nat} {v : Value} {n : Nat} {xs : List Value} (h : w.ownsRow base e size v n xs) : ∃ A c, v = .slice A n c := by
  rcases h.2 with ⟨e, e'⟩ | ⟨gg, cap, cur, e, _⟩
  · exact ⟨none, 0, by rw [e, e']⟩
  · exact ⟨_, _, e⟩
theorem endF_ret {v : V} {s : St} : endF (some v, s) = endF (none, if v.obj > 0 then { s with kind := 3 } else { s with code := v.n, kind := 1 }) := by
  unfold endF
  by_cases h : v.obj > 0
  · simp only [h, if_true]
  · simp only [h, if_false]
end Go.Proofs.Ytinmgbodgecoeaa
namespace Go.Proofs.Ytinmgbodgecoeaa
open Go.RowKit

theorem gsize_any (n : Int) (w : World) :
    Calls Try.prog 29 #[.int .i64 n] w fun e w' => e = .returned (.bool (sizeB n)) ∧ w = w' := by
  have h : n = 1 ∨ n = 2 ∨ n = 4 ∨ n = 8 ∨ (n ≠ 1 ∧ n ≠ 2 ∧ n ≠ 4 ∧ n ≠ 8) := by omega
  rcases h with rfl | rfl | rfl | rfl | ⟨h1, h2, h3, h4⟩
  all_goals
    go_enter Try.func29, Try.ntmps29
    go_wp2
    go_ret
    exact ⟨ret_b (by simp [sizeB, *]), rfl⟩
end Go.Proofs.Ytinmgbodgecoeaa
namespace Go.Proofs.Ytinmgbodgecoeaa
open Go.RowKit

theorem vwithin_any (n most : Int) (w : World) :
    Calls Try.prog 18 #[.int .i64 n, .int .i64 most] w fun e w' => e = .returned (.bool (decide (0 ≤ n ∧ n < most))) ∧ w = w' := by
  go_enter Try.func18, Try.ntmps18
  go_wp2
  all_goals go_ret
  all_goals exact ⟨ret_b (by simp; try omega), rfl⟩
theorem vimm_any (n : Int) (w : World) :
    Calls Try.prog 44 #[.int .i64 n] w fun e w' => e = .returned (.bool (immB n)) ∧ w = w' := by
  unfold immB
  go_enter Try.func44, Try.ntmps44
  go_wp2
  all_goals go_ret
  all_goals exact ⟨ret_b (by simp; try omega), rfl⟩
theorem vbinary_any (op : Int) (w : World) :
    Calls Try.prog 43 #[.int .i64 op] w fun e w' => e = .returned (.bool (decide (12 ≤ op ∧ op ≤ 30))) ∧ w = w' := by
  go_enter Try.func43, Try.ntmps43
  go_wp2
  all_goals go_ret
  all_goals exact ⟨ret_b (by simp; try omega), rfl⟩
theorem vload_any (op : Int) (w : World) :
    Calls Try.prog 46 #[.int .i64 op] w fun e w' => e = .returned (.bool (decide (5 ≤ op ∧ op ≤ 11))) ∧ w = w' := by
  go_enter Try.func46, Try.ntmps46
  go_wp2
  all_goals go_ret
  all_goals exact ⟨ret_b (by simp; try omega), rfl⟩
theorem vunary_any (op : Int) (w : World) :
    Calls Try.prog 45 #[.int .i64 op] w fun e w' => e = .returned (.bool (decide (31 ≤ op ∧ op ≤ 36))) ∧ w = w' := by
  go_enter Try.func45, Try.ntmps45
  go_wp2
  all_goals go_ret
  all_goals exact ⟨ret_b (by simp; try omega), rfl⟩
end Go.Proofs.Ytinmgbodgecoeaa
namespace Go.Proofs.Ytinmgbodgecoeaa
open Go.RowKit

/-- A node that may not be. -/
def badN (op x : Int) (ks : Nat) : Bool := decide ((ks : Int) ≠ kidsI op ∨ (op > 4 ∧ x ≠ 0) ∨ (op ≠ 1 ∧ x < 0))

mutual
def cnt : T → Int → Int × Bool
  | .node op x ks, n => if n + 1 > 200 ∨ badN op x ks.length = true then (n + 1, false) else cnts ks (n + 1)
def cnts : List T → Int → Int × Bool
  | [], n => (n, true)
  | k :: ks, n => if (cnt k n).2 = false then ((cnt k n).1, false) else cnts ks (cnt k n).1
end

mutual
theorem cnt_bd : ∀ (t : T) (n : Int), 0 ≤ n → n ≤ 200 → n ≤ (cnt t n).1 ∧ (cnt t n).1 ≤ 201 ∧ ((cnt t n).2 = true → (cnt t n).1 ≤ 200)
  | .node op x ks, n, h0, h1 => by
    unfold cnt
    split
    · exact ⟨by simp only; omega, by simp only; omega, fun h => by cases h⟩
    · rename_i h
      have h2 : ¬ n + 1 > 200 := fun h' => h (Or.inl h')
      have := cnts_bd ks (n + 1) (by omega) (by omega)
      exact ⟨by omega, this.2⟩
theorem cnts_bd : ∀ (ks : List T) (n : Int), 0 ≤ n → n ≤ 200 → n ≤ (cnts ks n).1 ∧ (cnts ks n).1 ≤ 201 ∧ ((cnts ks n).2 = true → (cnts ks n).1 ≤ 200)
  | [], n, h0, h1 => by unfold cnts; exact ⟨by simp only; omega, by simp only; omega, fun _ => by simp only; omega⟩
  | k :: ks, n, h0, h1 => by
    unfold cnts
    have hk := cnt_bd k n h0 h1
    split
    · exact ⟨hk.1, hk.2.1, fun h => by cases h⟩
    · rename_i h
      have h2 : (cnt k n).2 = true := by simpa using h
      have := cnts_bd ks (cnt k n).1 (by omega) (hk.2.2 h2)
      exact ⟨by omega, this.2⟩
end

theorem drop_of {α : Type} {l : List α} {j : Nat} {x : α} (h : l[j]? = some x) : l.drop j = x :: l.drop (j + 1) := by
  have hlt : j < l.length := by
    rcases Nat.lt_or_ge j l.length with h' | h'
    · exact h'
    · rw [List.getElem?_eq_none h'] at h; cases h
  rw [List.drop_eq_getElem_cons hlt]
  rw [List.getElem?_eq_getElem hlt] at h
  injection h with h
  rw [h]
theorem TreeAt.shape0 {w : World} {C : Nat → Nat → Prop} {t : T} {v0 v1 v2 : Value} (h : TreeAt w C t v0 v1 v2) : ∃ a b A n c, v0 = .int .i64 a ∧ v1 = .int .i64 b ∧ v2 = .slice A n c := by
  obtain ⟨op, n, ks⟩ := t
  simp only [TreeAt] at h
  obtain ⟨h0, h1, _, _, _, A, cap, h5, _⟩ := h
  exact ⟨_, _, _, _, _, h0, h1, h5⟩
theorem drop_nil_of {α : Type} {l : List α} {n : Nat} (h : l.length ≤ n) : l.drop n = [] := List.drop_eq_nil_of_le h

/-- A tree that may be: how many nodes. -/
def treeC (t : T) : Int × Bool := cnt t 0

end Go.Proofs.Ytinmgbodgecoeaa
namespace Go.Proofs.Ytinmgbodgecoeaa
open Go.RowKit

set_option maxRecDepth 100000 in
set_option maxHeartbeats 8000000 in
theorem gobjs_any (l : List ObS) (A : Option Addr) (n cap : Nat) (most : Int) (B : Nat) (w : World) (hB : B ≤ w.heap.size) (hl : SliceAt w B 3 (ObE w B) l (.slice A n cap)) :
    Calls Try.prog 17 #[.slice A n cap, .int .i64 most] w fun e w' => e = .returned (.bool (objsB l most)) ∧ Below w.heap.size w w' := by
  obtain ⟨hln, hn⟩ := hl.len
  have HL := Lib.hid hl
  have HLN := Lib.hid hln
  clear hl hln
  go_enter Try.func17, Try.ntmps17
  refine wp_letter (fun Q hQ => ?_)
  have HQ := Lib.hid hQ
  clear hQ
  go_wp2_with fail
  go_loopw [9] (fun i wr => ∃ k : Nat, k ≤ n ∧ i = .int .i64 k ∧ obsB (l.drop k) = obsB l ∧ Below w.heap.size w wr) (fun i _ => n - (intOf i).toNat)
  case atStart => exact ⟨0, by omega, rfl, rfl, Below.refl _ _⟩
  case round =>
    obtain ⟨k, hk, rfl, hcs, hbw⟩ := hrel
    have HCS := Lib.hid hcs
    have HBW := Lib.hid hbw
    clear hcs
    have hzw := hbw.size
    by_cases hlt : k < n
    · obtain ⟨b, off, o, rfl, hb, hk1, c0, c1, ⟨v, c2, hv⟩, _, _⟩ := (HL.out.below (hbw.mono hB) (Nat.le_refl _) (fun _ _ h => h.below (hbw.mono hB) (Nat.le_refl _))).get hlt
      simp only [Nat.add_zero] at c0 c1 c2
      obtain ⟨IA, icap, hiv⟩ : ∃ IA icap, v = .slice IA o.init.length icap := (by obtain ⟨A', c', h, _⟩ := hv; exact ⟨_, _, h⟩)
      subst hiv
      have hil := hv.len.2
      have HD := Lib.hid (show obsB (l.drop k) = (obB o && obsB (l.drop (k + 1))) from by rw [drop_of hk1]; rfl)
      have hklt : (k : Int) < (n : Int) := by omega
      have hbl : b < wr.heap.size := by omega
      have HS := Lib.hid (fun W => gsize_any o.size W)
      clear hk1 hv hbw
      have HBAD := Lib.hid (show obB o = false → obsB l = false from fun h => by rw [← HCS.out, HD.out, h]; rfl)
      have HGOOD := Lib.hid (show obB o = true → obsB (l.drop (k + 1)) = obsB l from fun h => by rw [← HCS.out, HD.out, h]; rfl)
      cases hq1 : sizeB o.size with
      | false =>
        rw [hq1] at HS
        have HE := Lib.hid (show objsB l most = false by unfold objsB; rw [HBAD.out (by unfold obB; rw [hq1]; rfl)]; rfl)
        clear hq1
        go_wp2_with fail
        refine (HS.out _).mono ?_
        rintro e w' ⟨rfl, rfl⟩
        go_wp2_with fail
        refine HQ.out _ _ _ ?_
        exact bodyPost_ret (v := .bool false) (by simp [results, Try.results17, go_sem]) rfl ⟨by rw [HE.out], HBW.out.trans ((below1 wr (.cells #[.int .i64 o.size, .int .i64 o.count, .slice IA o.init.length icap] 75)).mono hzw)⟩
      | true =>
        rw [hq1] at HS
        by_cases h1 : o.count < 1
        · have d1 : decide (o.count < 1) = true := by simpa using h1
          have HE := Lib.hid (show objsB l most = false by unfold objsB; rw [HBAD.out (by unfold obB betwB; rw [hq1]; simp; omega)]; rfl)
          clear hq1 h1
          go_wp2_with fail
          refine (HS.out _).mono ?_
          rintro e w' ⟨rfl, rfl⟩
          go_wp2_with fail
          refine HQ.out _ _ _ ?_
          exact bodyPost_ret (v := .bool false) (by simp [results, Try.results17, go_sem]) rfl ⟨by rw [HE.out], HBW.out.trans ((below1 wr (.cells #[.int .i64 o.size, .int .i64 o.count, .slice IA o.init.length icap] 75)).mono hzw)⟩
        · have d1 : decide (o.count < 1) = false := by simpa using h1
          by_cases h2 : o.count > 64
          · have d2 : decide (64 < o.count) = true := by simpa using h2
            have HE := Lib.hid (show objsB l most = false by unfold objsB; rw [HBAD.out (by unfold obB betwB; rw [hq1]; simp; omega)]; rfl)
            clear hq1 h1 h2
            go_wp2_with fail
            refine (HS.out _).mono ?_
            rintro e w' ⟨rfl, rfl⟩
            go_wp2_with fail
            refine HQ.out _ _ _ ?_
            exact bodyPost_ret (v := .bool false) (by simp [results, Try.results17, go_sem]) rfl ⟨by rw [HE.out], HBW.out.trans ((below1 wr (.cells #[.int .i64 o.size, .int .i64 o.count, .slice IA o.init.length icap] 75)).mono hzw)⟩
          · have d2 : decide (64 < o.count) = false := by simpa using h2
            by_cases h3 : (o.init.length : Int) > o.count
            · have d3 : decide (o.count < (o.init.length : Int)) = true := by simpa using h3
              have HE := Lib.hid (show objsB l most = false by unfold objsB; rw [HBAD.out (by unfold obB betwB; rw [hq1]; simp; omega)]; rfl)
              clear hq1 h1 h2 h3
              go_wp2_with fail
              refine (HS.out _).mono ?_
              rintro e w' ⟨rfl, rfl⟩
              go_wp2_with fail
              refine HQ.out _ _ _ ?_
              exact bodyPost_ret (v := .bool false) (by simp [results, Try.results17, go_sem]) rfl ⟨by rw [HE.out], HBW.out.trans ((below1 wr (.cells #[.int .i64 o.size, .int .i64 o.count, .slice IA o.init.length icap] 75)).mono hzw)⟩
            · have d3 : decide (o.count < (o.init.length : Int)) = false := by simpa using h3
              have HE := Lib.hid (HGOOD.out (by unfold obB betwB; rw [hq1]; simp; omega))
              clear hq1 h1 h2 h3
              go_wp2_with fail
              refine (HS.out _).mono ?_
              rintro e w' ⟨rfl, rfl⟩
              go_wp2_with fail
              go_roundw
              case rel => exact ⟨k + 1, by omega, by go_num, HE.out, HBW.out.trans ((below1 wr (.cells #[.int .i64 o.size, .int .i64 o.count, .slice IA o.init.length icap] 75)).mono hzw)⟩
              case measure => simp [intOf]; omega
    · obtain rfl : k = n := by omega
      have he : obsB l = true := by rw [← HCS.out, drop_nil_of (by rw [HLN.out]; exact Nat.le_refl _)]; rfl
      have hl2 : objsB l most = decide ((k : Int) ≤ most) := by unfold objsB; rw [he, HLN.out]; rfl
      have HE := Lib.hid hl2
      clear he hl2
      go_wp2_with fail
      refine HQ.out _ _ _ ?_
      exact bodyPost_ret (v := .bool (decide ((k : Int) ≤ most))) (by simp [results, Try.results17, go_sem]) rfl ⟨by rw [HE.out], HBW.out⟩
end Go.Proofs.Ytinmgbodgecoeaa
namespace Go.Proofs.Ytinmgbodgecoeaa
open Go.RowKit

def goodV (p : VirtS) (fuel : Int) : Prop := vmayB p = true ∧ 0 ≤ fuel ∧ fuel ≤ 2000000
instance (p : VirtS) (fuel : Int) : Decidable (goodV p fuel) := by unfold goodV; exact inferInstance
def outV (p : VirtS) (inp : List Int) (fuel : Int) : OutS := if goodV p fuel then runF (virtG p) inp fuel else ⟨0, 0, [], 0, 0⟩
def errV (p : VirtS) (fuel : Int) : Int := if goodV p fuel then 0 else 1
end Go.Proofs.Ytinmgbodgecoeaa
namespace Go.Proofs.Ytinmgbodgecoeaa
open Go.RowKit

/-- What a run leaves: it puts out more, it takes more steps, at most its fuel. -/
def Mono (f : Int) (s s' : St) : Prop := s.out <+: s'.out ∧ s.steps ≤ s'.steps ∧ s'.steps ≤ f
theorem Mono.refl {f : Int} {s : St} (h : s.steps ≤ f) : Mono f s s := ⟨List.prefix_refl _, Int.le_refl _, h⟩
theorem Mono.trans {f : Int} {a b c : St} (h : Mono f a b) (k : Mono f b c) : Mono f a c := ⟨h.1.trans k.1, Int.le_trans h.2.1 k.2.1, k.2.2⟩
theorem Mono.same {f : Int} {s s' t : St} (h : Mono f s s') (h1 : t.out = s'.out) (h2 : t.steps = s'.steps) : Mono f s t := ⟨h1 ▸ h.1, h2 ▸ h.2.1, h2 ▸ h.2.2⟩
theorem stepF_mono {f n : Int} {s : St} (hn : 0 ≤ n) (h : s.steps ≤ f) : Mono f s (stepF f n s).2 := by
  unfold stepF
  split
  · split
    · exact ⟨List.prefix_refl _, h, Int.le_refl _⟩
    · exact ⟨List.prefix_refl _, by show s.steps ≤ s.steps + n; omega, by show s.steps + n ≤ f; omega⟩
  · exact Mono.refl h
def MonoR (f : Int) (R : CallR) : Prop := ∀ fn args s, s.steps ≤ f → Mono f s (R fn args s).2
section
variable {f : Int} {R : CallR}
theorem actF_mono (hR : MonoR f R) {s : St} (h : s.steps ≤ f) (tp : List V) (x : StepS) (l : List V) : Mono f s (actF R s tp x l).2.1 := by
  have hr := Mono.refl h
  unfold actF
  split
  · exact hr
  · split
    · split <;> exact hr.same rfl rfl
    · split
      · have := hR x.fn l s h
        split <;> (rename_i e; rw [e] at this; exact this)
      · split
        · split
          · exact hr
          · exact hr.same rfl rfl
        · split
          · exact hr.same rfl rfl
          · split
            · exact hr.same rfl rfl
            · exact ⟨List.prefix_append _ _, Int.le_refl _, h⟩
theorem doesF_mono (hR : MonoR f R) (lo : List Nat) {s : St} (h : s.steps ≤ f) (tp : List V) (x : StepS) : Mono f s (doesF R f lo s tp x).2.1 := by
  have h1 := stepF_mono (n := 1) (by omega) h
  unfold doesF
  split
  · exact h1
  · split
    · exact h1.same rfl rfl
    · exact h1.trans (actF_mono hR h1.2.2 _ _ _)
theorem stepsF_mono (hR : MonoR f R) (lo : List Nat) : ∀ (xs : List StepS) {s : St} (tp : List V), s.steps ≤ f → Mono f s (stepsF R f lo s tp xs).2.1
  | [], s, tp, h => Mono.refl h
  | x :: r, s, tp, h => by
    have h1 := doesF_mono hR lo h tp x
    rw [stepsF]
    split
    · rename_i s' tp' e
      rw [e] at h1
      exact h1.trans (stepsF_mono hR lo r tp' h1.2.2)
    · rename_i s' tp' e
      rw [e] at h1
      exact h1
theorem blockF_mono (hR : MonoR f R) (lo : List Nat) {s : St} (h : s.steps ≤ f) (tp : List V) (b : BlockS) : Mono f s (blockF R f lo s tp b).2.1 := by
  have h1 := stepsF_mono hR lo b.steps tp h
  unfold blockF
  split
  · rename_i s' tp' e
    rw [e] at h1
    exact h1
  · rename_i s' tp' e
    rw [e] at h1
    have h2 := h1.trans (stepF_mono (n := 1) (by omega) h1.2.2)
    split
    · exact h2
    · split
      · exact h2
      · split
        · exact h2.same rfl rfl
        · split <;> exact h2
theorem blocksF_mono (hR : MonoR f R) (lo : List Nat) (bs : List BlockS) : ∀ (g : Nat) (k : Int) {s : St} (tp : List V), s.steps ≤ f → Mono f s (blocksF R f lo bs g k s tp).2
  | 0, _, s, _, h => Mono.refl h
  | g + 1, k, s, tp, h => by
    have h1 := blockF_mono hR lo h tp (bs.getD k.toNat noBlock)
    rw [blocksF]
    split
    · rename_i s' tp' e
      rw [e] at h1
      exact h1
    · rename_i k' s' tp' e
      rw [e] at h1
      exact h1.trans (blocksF_mono hR lo bs g k' tp' h1.2.2)
    · rename_i v s' tp' e
      rw [e] at h1
      exact h1.same rfl rfl
end
/-- No function's locals are fewer than none. -/
def Counts (p : ProgS) : Prop := ∀ fn : Int, 0 ≤ countsF (p.funcs.getD fn.toNat noGraph).locs
theorem callF_mono {p : ProgS} (hp : Counts p) (f : Int) : ∀ d, MonoR f (callF p f d)
  | 0, fn, args, s, h => by
    show Mono f s (stopF 4 s)
    unfold stopF
    split <;> exact (Mono.refl h).same rfl rfl
  | d + 1, fn, args, s, h => by
    rw [callF]
    have h0 : Mono f s { s with calls := s.calls + 1, deep := max s.deep (s.calls + 1) } := (Mono.refl h).same rfl rfl
    have h1 := h0.trans (stepF_mono (hp fn) h)
    dsimp only
    split
    · exact h1
    · exact (h1.trans ((Mono.refl h1.2.2).same (t := { (stepF f (countsF (p.funcs.getD fn.toNat noGraph).locs) { s with calls := s.calls + 1, deep := max s.deep (s.calls + 1) }).2 with mem := makesF (stepF f (countsF (p.funcs.getD fn.toNat noGraph).locs) { s with calls := s.calls + 1, deep := max s.deep (s.calls + 1) }).2.mem (p.funcs.getD fn.toNat noGraph).locs }) rfl rfl)).trans (blocksF_mono (callF_mono hp f d) _ _ _ _ _ h1.2.2)

/-! ### Two fuels -/
/-- The one with less fuel has none left; the other one has put out no less, and has taken more steps. -/
def Dry (f : Int) (s1 s2 : St) : Prop := s1.kind = 2 ∧ s1.out <+: s2.out ∧ f < s2.steps
theorem Dry.on {f f2 : Int} {s1 s2 t : St} (h : Dry f s1 s2) (k : Mono f2 s2 t) : Dry f s1 t := ⟨h.1, h.2.1.trans k.1, by have := h.2.2; have := k.2.1; omega⟩
def SimR (f1 : Int) (R1 R2 : CallR) : Prop := ∀ fn args s, s.kind = 0 → s.steps ≤ f1 →
  (R1 fn args s = R2 fn args s ∧ (R1 fn args s).2.steps ≤ f1 ∧ (R1 fn args s).2.kind ≠ 2 ∧ ((R1 fn args s).1 ≠ none → (R1 fn args s).2.kind = 0)) ∨ ((R1 fn args s).1 = none ∧ Dry f1 (R1 fn args s).2 (R2 fn args s).2)
theorem stepF_sim {f1 f2 n : Int} {s : St} (hf : f1 < f2) (hn : 0 ≤ n) (hk : s.kind = 0) (hs : s.steps ≤ f1) :
    (stepF f1 n s = (true, { s with steps := s.steps + n }) ∧ stepF f2 n s = (true, { s with steps := s.steps + n }) ∧ s.steps + n ≤ f1) ∨ ((stepF f1 n s).1 = false ∧ Dry f1 (stepF f1 n s).2 (stepF f2 n s).2) := by
  unfold stepF
  rw [if_pos hk, if_pos hk]
  by_cases h1 : n > f1 - s.steps
  · right
    rw [if_pos h1]
    refine ⟨rfl, rfl, ?_, ?_⟩
    · split <;> exact List.prefix_refl _
    · split
      · exact hf
      · show f1 < s.steps + n; omega
  · left
    rw [if_neg h1, if_neg (by omega)]
    exact ⟨rfl, rfl, by omega⟩
section
variable {f1 f2 : Int} {R1 R2 : CallR}
theorem actF_sim (hf : f1 < f2) (h1 : SimR f1 R1 R2) {s : St} (hk : s.kind = 0) (hs : s.steps ≤ f1) (tp : List V) (x : StepS) (l : List V) :
    (actF R1 s tp x l = actF R2 s tp x l ∧ (actF R1 s tp x l).2.1.steps ≤ f1 ∧ (actF R1 s tp x l).2.1.kind ≠ 2 ∧ ((actF R1 s tp x l).1 = true → (actF R1 s tp x l).2.1.kind = 0)) ∨ ((actF R1 s tp x l).1 = false ∧ Dry f1 (actF R1 s tp x l).2.1 (actF R2 s tp x l).2.1) := by
  by_cases h3 : x.op = 3
  · have hx : ∀ R : CallR, actF R s tp x l = match R x.fn l s with | (some v, s') => (true, s', setT tp x.to v) | (none, s') => (false, s', tp) := fun R => by
      unfold actF
      rw [if_neg (by omega), if_neg (by omega), if_pos h3]
      cases R x.fn l s with
      | mk v s' => cases v <;> rfl
    rw [hx, hx]
    rcases h1 x.fn l s hk hs with ⟨e, a, b, c⟩ | ⟨a, b⟩
    · left
      rw [← e]
      refine ⟨rfl, ?_⟩
      cases hr : R1 x.fn l s with
      | mk v s' =>
        rw [hr] at a b c
        cases v with
        | none => exact ⟨a, b, fun h => by cases h⟩
        | some v => exact ⟨a, b, fun _ => c (by simp)⟩
    · right
      cases hr : R1 x.fn l s with
      | mk v s' =>
        rw [hr] at a b
        simp only at a
        subst a
        refine ⟨rfl, ?_⟩
        cases hr2 : R2 x.fn l s with
        | mk v2 s2 => rw [hr2] at b; cases v2 <;> exact b
  · left
    have hx : actF R1 s tp x l = actF R2 s tp x l := by
      unfold actF
      repeat (first | rfl | (split; · rfl) | (rw [if_neg h3, if_neg h3]))
    refine ⟨hx, ?_⟩
    unfold actF
    by_cases g1 : x.op = 1
    · rw [if_pos g1]; exact ⟨hs, by rw [hk]; omega, fun _ => hk⟩
    · rw [if_neg g1]
      by_cases g2 : x.op = 2
      · rw [if_pos g2]
        split
        · exact ⟨hs, by show s.kind ≠ 2; rw [hk]; omega, fun _ => hk⟩
        · exact ⟨hs, by show (3 : Int) ≠ 2; omega, fun h => by cases h⟩
      · rw [if_neg g2, if_neg h3]
        by_cases g5 : x.op = 5
        · rw [if_pos g5]
          split
          · exact ⟨hs, by show s.kind ≠ 2; rw [hk]; omega, fun _ => hk⟩
          · exact ⟨hs, by show s.kind ≠ 2; rw [hk]; omega, fun _ => hk⟩
        · rw [if_neg g5]
          split
          · exact ⟨hs, by show (3 : Int) ≠ 2; omega, fun h => by cases h⟩
          · split
            · exact ⟨hs, by show (1 : Int) ≠ 2; omega, fun h => by cases h⟩
            · exact ⟨hs, by show s.kind ≠ 2; rw [hk]; omega, fun _ => hk⟩
/-- Two results that are the same, within the fuel; or the first has none left. -/
def SimB (f1 : Int) (r1 r2 : Bool × St × List V) : Prop :=
  (r1 = r2 ∧ r1.2.1.steps ≤ f1 ∧ r1.2.1.kind ≠ 2 ∧ (r1.1 = true → r1.2.1.kind = 0)) ∨ (r1.1 = false ∧ Dry f1 r1.2.1 r2.2.1)
theorem doesF_sim (hf : f1 < f2) (h1 : SimR f1 R1 R2) (h2 : MonoR f2 R2) (lo : List Nat) {s : St} (hk : s.kind = 0) (hs : s.steps ≤ f1) (tp : List V) (x : StepS) : SimB f1 (doesF R1 f1 lo s tp x) (doesF R2 f2 lo s tp x) := by
  rcases stepF_sim (n := 1) hf (by omega) hk hs with ⟨e1, e2, hle⟩ | ⟨e1, hd⟩
  · unfold doesF
    rw [e1, e2]
    simp only [Bool.true_eq_false, if_false]
    split
    · left
      exact ⟨rfl, hle, by show (3 : Int) ≠ 2; omega, fun h => by cases h⟩
    · exact actF_sim (s := { s with steps := s.steps + 1 }) hf h1 hk hle tp x _
  · have hm := stepF_mono (f := f2) (n := 1) (by omega) (show s.steps ≤ f2 by omega)
    right
    have e : doesF R1 f1 lo s tp x = (false, (stepF f1 1 s).2, tp) := by unfold doesF; rw [if_pos e1]
    rw [e]
    refine ⟨rfl, ?_⟩
    unfold doesF
    split
    · exact hd
    · split
      · exact ⟨hd.1, hd.2.1, hd.2.2⟩
      · exact hd.on (actF_mono h2 hm.2.2 _ _ _)
theorem stepsF_sim (hf : f1 < f2) (h1 : SimR f1 R1 R2) (h2 : MonoR f2 R2) (lo : List Nat) : ∀ (xs : List StepS) {s : St} (tp : List V), s.kind = 0 → s.steps ≤ f1 → SimB f1 (stepsF R1 f1 lo s tp xs) (stepsF R2 f2 lo s tp xs)
  | [], s, tp, hk, hs => Or.inl ⟨rfl, hs, by show s.kind ≠ 2; omega, fun _ => hk⟩
  | x :: r, s, tp, hk, hs => by
    have hm := doesF_mono h2 lo (show s.steps ≤ f2 by omega) tp x
    rw [stepsF, stepsF]
    rcases doesF_sim hf h1 h2 lo hk hs tp x with ⟨e, a, b, c⟩ | ⟨a, b⟩
    · rw [← e]
      cases hr : doesF R1 f1 lo s tp x with
      | mk ok q =>
        obtain ⟨s', tp'⟩ := q
        rw [hr] at a b c
        cases ok with
        | true => exact stepsF_sim hf h1 h2 lo r tp' (c rfl) a
        | false => exact Or.inl ⟨rfl, a, b, fun h => by cases h⟩
    · right
      cases hr : doesF R1 f1 lo s tp x with
      | mk ok q =>
        obtain ⟨s', tp'⟩ := q
        rw [hr] at a b
        simp only at a
        subst a
        refine ⟨rfl, ?_⟩
        cases hr2 : doesF R2 f2 lo s tp x with
        | mk ok2 q2 =>
          obtain ⟨s2, tp2⟩ := q2
          rw [hr2] at b hm
          cases ok2 with
          | true => exact b.on (stepsF_mono h2 lo r tp2 hm.2.2)
          | false => exact b
/-- Where a block goes on, it took a step. -/
def SimG (f1 : Int) (s : St) (r1 r2 : Goes × St × List V) : Prop :=
  (r1 = r2 ∧ r1.2.1.steps ≤ f1 ∧ r1.2.1.kind ≠ 2 ∧ (r1.1 ≠ .over → r1.2.1.kind = 0 ∧ s.steps + 1 ≤ r1.2.1.steps)) ∨ (r1.1 = .over ∧ Dry f1 r1.2.1 r2.2.1)
theorem blockF_sim (hf : f1 < f2) (h1 : SimR f1 R1 R2) (h2 : MonoR f2 R2) (lo : List Nat) {s : St} (hk : s.kind = 0) (hs : s.steps ≤ f1) (hm1 : MonoR f1 R1) (tp : List V) (b : BlockS) : SimG f1 s (blockF R1 f1 lo s tp b) (blockF R2 f2 lo s tp b) := by
  have hm := stepsF_mono h2 lo b.steps tp (show s.steps ≤ f2 by omega)
  have hmm := stepsF_mono hm1 lo b.steps tp hs
  unfold blockF
  rcases stepsF_sim hf h1 h2 lo b.steps tp hk hs with ⟨e, a, c, d⟩ | ⟨a, c⟩
  · rw [← e]
    cases hr : stepsF R1 f1 lo s tp b.steps with
    | mk ok q =>
      obtain ⟨s', tp'⟩ := q
      rw [hr] at a c d hmm
      rw [← e, hr] at hm
      cases ok with
      | false => exact Or.inl ⟨rfl, a, c, fun h => absurd rfl h⟩
      | true =>
        have hk' := d rfl
        simp only at hk' a
        dsimp only
        rcases stepF_sim (n := 1) hf (by omega) hk' a with ⟨e1, e2, hle⟩ | ⟨e1, hd⟩
        · rw [e1, e2]
          simp only [Bool.true_eq_false, if_false]
          have hst : s.steps + 1 ≤ s'.steps + 1 := by have := hmm.2.1; simp only at this; omega
          split
          · exact Or.inl ⟨rfl, hle, by show s'.kind ≠ 2; omega, fun _ => ⟨hk', hst⟩⟩
          · split
            · exact Or.inl ⟨rfl, hle, by show (3 : Int) ≠ 2; omega, fun h => absurd rfl h⟩
            · split
              · exact Or.inl ⟨rfl, hle, by show s'.kind ≠ 2; omega, fun _ => ⟨hk', hst⟩⟩
              · exact Or.inl ⟨rfl, hle, by show s'.kind ≠ 2; omega, fun _ => ⟨hk', hst⟩⟩
        · right
          rw [if_pos e1]
          refine ⟨rfl, ?_⟩
          split
          · exact hd
          · split
            · exact hd
            · split
              · exact ⟨hd.1, hd.2.1, hd.2.2⟩
              · split <;> exact hd
  · right
    cases hr : stepsF R1 f1 lo s tp b.steps with
    | mk ok q =>
      obtain ⟨s', tp'⟩ := q
      rw [hr] at a c
      simp only at a
      subst a
      refine ⟨rfl, ?_⟩
      cases hr2 : stepsF R2 f2 lo s tp b.steps with
      | mk ok2 q2 =>
        obtain ⟨s2, tp2⟩ := q2
        rw [hr2] at c hm
        cases ok2 with
        | false => exact c
        | true =>
          have h3 := c.on (stepF_mono (n := 1) (by omega) hm.2.2)
          dsimp only
          split
          · exact h3
          · split
            · exact h3
            · split
              · exact ⟨h3.1, h3.2.1, h3.2.2⟩
              · split <;> exact h3
def SimO (f1 : Int) (r1 r2 : Option V × St) : Prop :=
  (r1 = r2 ∧ r1.2.steps ≤ f1 ∧ r1.2.kind ≠ 2 ∧ (r1.1 ≠ none → r1.2.kind = 0)) ∨ (r1.1 = none ∧ Dry f1 r1.2 r2.2)
theorem blocksF_sim (hf : f1 < f2) (h1 : SimR f1 R1 R2) (h2 : MonoR f2 R2) (hm1 : MonoR f1 R1) (lo : List Nat) (bs : List BlockS) : ∀ (g1 g2 : Nat) (k : Int) {s : St} (tp : List V), s.kind = 0 → s.steps ≤ f1 → f1 - s.steps < g1 → f2 - s.steps < g2 →
    SimO f1 (blocksF R1 f1 lo bs g1 k s tp) (blocksF R2 f2 lo bs g2 k s tp)
  | 0, _, _, s, _, _, hs, hg, _ => by omega
  | _ + 1, 0, _, s, _, _, hs, _, hg => by omega
  | g1 + 1, g2 + 1, k, s, tp, hk, hs, hg1, hg2 => by
    have hm := blockF_mono h2 lo (show s.steps ≤ f2 by omega) tp (bs.getD k.toNat noBlock)
    rw [blocksF, blocksF]
    rcases blockF_sim hf h1 h2 lo hk hs hm1 tp (bs.getD k.toNat noBlock) with ⟨e, a, c, d⟩ | ⟨a, c⟩
    · rw [← e]
      cases hr : blockF R1 f1 lo s tp (bs.getD k.toNat noBlock) with
      | mk gg q =>
        obtain ⟨s', tp'⟩ := q
        rw [hr] at a c d
        simp only at a c d
        cases gg with
        | over => exact Or.inl ⟨rfl, a, c, fun h => absurd rfl h⟩
        | next k' =>
          obtain ⟨hk', hst⟩ := d (by simp)
          exact blocksF_sim hf h1 h2 hm1 lo bs g1 g2 k' tp' hk' a (by omega) (by omega)
        | ret v => exact Or.inl ⟨rfl, a, c, fun _ => (d (by simp)).1⟩
    · right
      cases hr : blockF R1 f1 lo s tp (bs.getD k.toNat noBlock) with
      | mk gg q =>
        obtain ⟨s', tp'⟩ := q
        rw [hr] at a c
        simp only at a
        subst a
        refine ⟨rfl, ?_⟩
        cases hr2 : blockF R2 f2 lo s tp (bs.getD k.toNat noBlock) with
        | mk gg2 q2 =>
          obtain ⟨s2, tp2⟩ := q2
          rw [hr2] at c hm
          cases gg2 with
          | over => exact c
          | next k' => exact c.on (blocksF_mono h2 lo bs g2 k' tp2 hm.2.2)
          | ret v => exact ⟨c.1, c.2.1, c.2.2⟩
end
theorem callF_sim {p : ProgS} (hp : Counts p) {f1 f2 : Int} (hf : f1 < f2) : ∀ d, SimR f1 (callF p f1 d) (callF p f2 d)
  | 0, fn, args, s, hk, hs => by
    left
    have e : ∀ f, callF p f 0 fn args s = (none, { s with kind := 4 }) := fun f => by show (none, stopF 4 s) = _; unfold stopF; rw [if_pos hk]
    rw [e, e]
    exact ⟨rfl, hs, by show (4 : Int) ≠ 2; omega, fun h => absurd rfl h⟩
  | d + 1, fn, args, s, hk, hs => by
    have e : ∀ f, callF p f (d + 1) fn args s = (if (stepF f (countsF (p.funcs.getD fn.toNat noGraph).locs) { s with calls := s.calls + 1, deep := max s.deep (s.calls + 1) }).1 = false then (none, (stepF f (countsF (p.funcs.getD fn.toNat noGraph).locs) { s with calls := s.calls + 1, deep := max s.deep (s.calls + 1) }).2)
        else blocksF (callF p f d) f (numsF (stepF f (countsF (p.funcs.getD fn.toNat noGraph).locs) { s with calls := s.calls + 1, deep := max s.deep (s.calls + 1) }).2.mem (p.funcs.getD fn.toNat noGraph).locs.length) (p.funcs.getD fn.toNat noGraph).blocks (f - (stepF f (countsF (p.funcs.getD fn.toNat noGraph).locs) { s with calls := s.calls + 1, deep := max s.deep (s.calls + 1) }).2.steps + 1).toNat 0
          { (stepF f (countsF (p.funcs.getD fn.toNat noGraph).locs) { s with calls := s.calls + 1, deep := max s.deep (s.calls + 1) }).2 with mem := makesF (stepF f (countsF (p.funcs.getD fn.toNat noGraph).locs) { s with calls := s.calls + 1, deep := max s.deep (s.calls + 1) }).2.mem (p.funcs.getD fn.toNat noGraph).locs } (startF (p.funcs.getD fn.toNat noGraph).temps.toNat args)) := fun f => by rw [callF]
    rw [e, e]
    have hg : 0 ≤ countsF (p.funcs.getD fn.toNat noGraph).locs := hp fn
    generalize p.funcs.getD fn.toNat noGraph = g at hg ⊢
    have hm2 := stepF_mono (f := f2) (s := { s with calls := s.calls + 1, deep := max s.deep (s.calls + 1) }) hg (show s.steps ≤ f2 by omega)
    rcases stepF_sim (s := { s with calls := s.calls + 1, deep := max s.deep (s.calls + 1) }) hf hg hk hs with ⟨e1, e2, hle⟩ | ⟨e1, hd⟩
    · rw [e1, e2]
      simp only [Bool.true_eq_false, if_false]
      have hle' : s.steps + countsF g.locs ≤ f1 := hle
      exact blocksF_sim hf (callF_sim hp hf d) (callF_mono hp f2 d) (callF_mono hp f1 d) _ _ _ _ _ _ hk hle (by show f1 - (s.steps + countsF g.locs) < _; omega) (by show f2 - (s.steps + countsF g.locs) < _; omega)
    · right
      rw [if_pos e1]
      refine ⟨rfl, ?_⟩
      split
      · exact hd
      · have h3 : Dry f1 (stepF f1 (countsF g.locs) { s with calls := s.calls + 1, deep := max s.deep (s.calls + 1) }).2 { (stepF f2 (countsF g.locs) { s with calls := s.calls + 1, deep := max s.deep (s.calls + 1) }).2 with mem := makesF (stepF f2 (countsF g.locs) { s with calls := s.calls + 1, deep := max s.deep (s.calls + 1) }).2.mem g.locs } := ⟨hd.1, hd.2.1, hd.2.2⟩
        exact h3.on (blocksF_mono (callF_mono hp f2 d) _ _ _ _ _ hm2.2.2)
/-! ### Runs -/
def startS (p : ProgS) (inp : List Int) : St := ⟨inp, 0, 0, [], 0, 0, 0, makesF [] p.globs⟩
theorem runF_eq (p : ProgS) (inp : List Int) (f : Int) : runF p inp f = endF (callF p f 64 p.main [] (startS p inp)) := rfl
theorem endF_none (s : St) : endF (none, s) = if s.kind = 3 then ⟨3, 0, [], 0, 0⟩ else ⟨s.kind, s.code, s.out, s.steps, s.deep⟩ := rfl
theorem endF_some (v : V) (s : St) : endF (some v, s) = if v.obj > 0 then ⟨3, 0, [], 0, 0⟩ else ⟨1, v.n, s.out, s.steps, s.deep⟩ := by
  unfold endF
  by_cases h : v.obj > 0
  · simp [h]
  · simp [h]
theorem endF_out (r : Option V × St) (h : (endF r).kind ≠ 3) : (endF r).out = r.2.out ∧ (endF r).steps = r.2.steps := by
  obtain ⟨v, s⟩ := r
  cases v with
  | none =>
    rw [endF_none] at h ⊢
    by_cases hk : s.kind = 3
    · rw [if_pos hk] at h; exact absurd rfl h
    · rw [if_neg hk]; exact ⟨rfl, rfl⟩
  | some v =>
    rw [endF_some] at h ⊢
    by_cases hk : v.obj > 0
    · rw [if_pos hk] at h; exact absurd rfl h
    · rw [if_neg hk]; exact ⟨rfl, rfl⟩
theorem endF_some_kind (v : V) (s : St) : (endF (some v, s)).kind = 1 ∨ (endF (some v, s)).kind = 3 := by
  rw [endF_some]
  by_cases h : v.obj > 0
  · rw [if_pos h]; right; rfl
  · rw [if_neg h]; left; rfl
/-- Two fuels: the same, or the first has none left. -/
theorem runF_two {p : ProgS} (hp : Counts p) (inp : List Int) {f1 f2 : Int} (hf : f1 < f2) (h0 : 0 ≤ f1) :
    (runF p inp f1 = runF p inp f2 ∧ (runF p inp f1).kind ≠ 2 ∧ ((runF p inp f1).kind ≠ 3 → (runF p inp f1).steps ≤ f1)) ∨
    ((runF p inp f1).kind = 2 ∧ ((runF p inp f2).kind ≠ 3 → (runF p inp f1).out <+: (runF p inp f2).out ∧ f1 < (runF p inp f2).steps)) := by
  rw [runF_eq, runF_eq]
  rcases callF_sim hp hf 64 p.main [] (startS p inp) rfl h0 with ⟨e, a, b, c⟩ | ⟨a, b⟩
  · left
    rw [← e]
    refine ⟨rfl, ?_, fun h => by rw [(endF_out _ h).2]; exact a⟩
    cases hr : callF p f1 64 p.main [] (startS p inp) with
    | mk v s =>
      rw [hr] at b
      cases v with
      | none => rw [endF_none]; split <;> simp_all
      | some v => rcases endF_some_kind v s with h | h <;> rw [h] <;> omega
  · right
    cases hr : callF p f1 64 p.main [] (startS p inp) with
    | mk v s =>
      rw [hr] at a b
      simp only at a
      subst a
      have hk2 : s.kind = 2 := b.1
      have e1 : endF (none, s) = ⟨s.kind, s.code, s.out, s.steps, s.deep⟩ := by rw [endF_none, if_neg (by omega)]
      rw [e1]
      refine ⟨hk2, fun h => ?_⟩
      obtain ⟨h1, h2⟩ := endF_out _ h
      rw [h1, h2]
      exact ⟨b.2.1, b.2.2⟩
theorem stepF_dryN {s : St} {n : Int} (hk : s.kind = 0) (hs : s.steps = 0) (hn : 0 < n) : stepF 0 n s = (false, { s with steps := 0, kind := 2 }) := by
  unfold stepF
  rw [if_pos hk, if_pos (by omega)]
theorem stepF_dry {s : St} (hk : s.kind = 0) (hs : s.steps = 0) : stepF 0 1 s = (false, { s with steps := 0, kind := 2 }) := stepF_dryN hk hs (by omega)
theorem stepF_none {s : St} (hk : s.kind = 0) (hs : s.steps = 0) : stepF 0 0 s = (true, s) := by
  unfold stepF
  rw [if_pos hk, if_neg (by omega)]
  cases s
  simp
theorem blockF_dry (R : CallR) (lo : List Nat) {s : St} (tp : List V) (b : BlockS) (hk : s.kind = 0) (hs : s.steps = 0) : ∃ tp', blockF R 0 lo s tp b = (.over, { s with steps := 0, kind := 2 }, tp') := by
  unfold blockF
  cases hb : b.steps with
  | nil =>
    refine ⟨tp, ?_⟩
    rw [stepsF]
    dsimp only
    rw [stepF_dry hk hs]
    simp
  | cons x r =>
    refine ⟨tp, ?_⟩
    have e : doesF R 0 lo s tp x = (false, { s with steps := 0, kind := 2 }, tp) := by unfold doesF; rw [stepF_dry hk hs]; simp
    rw [stepsF, e]
/-- Without fuel it does not end otherwise. -/
theorem runF_zero {p : ProgS} (hp : Counts p) (inp : List Int) : (runF p inp 0).kind = 2 := by
  rw [runF_eq]
  have hg := hp p.main
  rw [callF]
  dsimp only
  generalize p.funcs.getD p.main.toNat noGraph = g at hg ⊢
  have key : ∀ s1 : St, s1.kind = 0 → s1.steps = 0 → (endF (if (stepF 0 (countsF g.locs) s1).1 = false then (none, (stepF 0 (countsF g.locs) s1).2)
      else blocksF (callF p 0 63) 0 (numsF (stepF 0 (countsF g.locs) s1).2.mem g.locs.length) g.blocks (0 - (stepF 0 (countsF g.locs) s1).2.steps + 1).toNat 0 { (stepF 0 (countsF g.locs) s1).2 with mem := makesF (stepF 0 (countsF g.locs) s1).2.mem g.locs } (startF g.temps.toNat []))).kind = 2 := by
    intro s1 hk hs
    rcases Int.lt_or_eq_of_le hg with hlt | heq
    · rw [stepF_dryN hk hs hlt, if_pos rfl, endF_none]
      rfl
    · rw [← heq, stepF_none hk hs]
      simp only [Bool.true_eq_false, if_false]
      rw [show ((0 : Int) - s1.steps + 1).toNat = 1 from by rw [hs]; rfl, blocksF]
      obtain ⟨tp', hb⟩ := blockF_dry (callF p 0 63) (numsF s1.mem g.locs.length) (s := { s1 with mem := makesF s1.mem g.locs }) (startF g.temps.toNat []) (g.blocks.getD (0 : Int).toNat noBlock) hk hs
      rw [hb, endF_none]
      rfl
  exact key { startS p inp with calls := (startS p inp).calls + 1, deep := max (startS p inp).deep ((startS p inp).calls + 1) } rfl rfl
/-- What the law of fuel says. -/
theorem runF_more {p : ProgS} (hp : Counts p) (inp : List Int) {f1 f2 : Int} (hf : f1 < f2) (h0 : 0 ≤ f1) (hk : (runF p inp f1).kind ≠ 2) : runF p inp f2 = runF p inp f1 := by
  rcases runF_two hp inp hf h0 with ⟨e, _⟩ | ⟨e, _⟩
  · exact e.symm
  · exact absurd e hk
theorem runF_begins {p : ProgS} (hp : Counts p) (inp : List Int) {f1 f2 : Int} (hf : f1 < f2) (h0 : 0 ≤ f1) (hk : (runF p inp f2).kind ≠ 3) : (runF p inp f1).out <+: (runF p inp f2).out := by
  rcases runF_two hp inp hf h0 with ⟨e, _⟩ | ⟨_, e⟩
  · rw [e]; exact List.prefix_refl _
  · exact (e hk).1
theorem runF_exact {p : ProgS} (hp : Counts p) (inp : List Int) {f : Int} (h0 : 0 ≤ f) (hk : (runF p inp f).kind = 1) :
    1 ≤ (runF p inp f).steps ∧ (runF p inp f).steps ≤ f ∧ runF p inp (runF p inp f).steps = runF p inp f ∧ (runF p inp ((runF p inp f).steps - 1)).kind = 2 := by
  have hpos : 0 < f := by
    rcases Int.lt_or_eq_of_le h0 with h | h
    · exact h
    · rw [← h, runF_zero hp] at hk; omega
  have h1 : 1 ≤ (runF p inp f).steps := by
    rcases runF_two hp inp hpos (Int.le_refl 0) with ⟨e, h, _⟩ | ⟨_, h⟩
    · rw [runF_zero hp] at h; exact absurd rfl h
    · have := (h (by omega)).2; omega
  have h2 : (runF p inp f).steps ≤ f := by
    rcases runF_two hp inp (show f < f + 1 by omega) h0 with ⟨_, _, h⟩ | ⟨h, _⟩
    · exact h (by omega)
    · omega
  refine ⟨h1, h2, ?_, ?_⟩
  · rcases Int.lt_or_eq_of_le h2 with hlt | heq
    · rcases runF_two hp inp hlt (by omega) with ⟨e, _⟩ | ⟨_, h⟩
      · exact e
      · have := (h (by omega)).2; omega
    · rw [heq]
  · rcases runF_two hp inp (show (runF p inp f).steps - 1 < f by omega) (by omega) with ⟨e, _, h⟩ | ⟨h, _⟩
    · have h3 := h (by rw [e]; omega)
      rw [e] at h3
      omega
    · exact h
end Go.Proofs.Ytinmgbodgecoeaa
namespace Go.Proofs.Ytinmgbodgecoeaa
open Go.RowKit

theorem counts_of {p : ProgS} (h : ProgOkG p) : Counts p := by
  intro fn
  rw [List.getD_eq_getElem?_getD]
  cases hf : p.funcs[fn.toNat]? with
  | none => simp [noGraph, countsF]
  | some g =>
    have := (countsF_bd (fun o ho => ((h.fns g (List.mem_of_getElem? hf)).obs o ho).1)).1
    simp only [Option.getD_some]
    omega
section
variable {p : VirtS} {inp : List Int}
theorem errV_two (f1 f2 : Int) (h1 : 0 ≤ f1) (h2 : f1 ≤ 2000000) (h3 : 0 ≤ f2) (h4 : f2 ≤ 2000000) : errV p f1 = errV p f2 := by
  unfold errV
  by_cases h : vmayB p = true
  · rw [if_pos (show goodV p f1 from ⟨h, h1, h2⟩), if_pos (show goodV p f2 from ⟨h, h3, h4⟩)]
  · rw [if_neg (show ¬ goodV p f1 from fun g => h g.1), if_neg (show ¬ goodV p f2 from fun g => h g.1)]
theorem outV_more (hp : VirtIn p) (h : (outV p inp 2000).kind ≠ 2) : outV p inp 3000 = outV p inp 2000 := by
  unfold outV at *
  by_cases hm : vmayB p = true
  · have g2 : goodV p 2000 := ⟨hm, by omega, by omega⟩
    have g3 : goodV p 3000 := ⟨hm, by omega, by omega⟩
    rw [if_pos g2] at h ⊢
    rw [if_pos g3]
    exact runF_more (counts_of (vmay_ok hp hm)) inp (by omega) (by omega) h
  · rw [if_neg (show ¬ goodV p 2000 from fun g => hm g.1), if_neg (show ¬ goodV p 3000 from fun g => hm g.1)]
theorem outV_kind {f : Int} (h : (outV p inp f).kind ≠ 0) : goodV p f := by
  unfold outV at h
  split at h
  · rename_i hg; exact hg
  · exact absurd rfl h
theorem outV_begins (hp : VirtIn p) (h : (outV p inp 2000).kind = 2) (h3 : (outV p inp 3000).kind ≠ 3) : (outV p inp 2000).out <+: (outV p inp 3000).out := by
  have hg := outV_kind (p := p) (inp := inp) (f := 2000) (by omega)
  have hg3 : goodV p 3000 := ⟨hg.1, by omega, by omega⟩
  have e1 : outV p inp 2000 = runF (virtG p) inp 2000 := if_pos hg
  have e2 : outV p inp 3000 = runF (virtG p) inp 3000 := if_pos hg3
  rw [e1, e2]
  rw [e2] at h3
  exact runF_begins (counts_of (vmay_ok hp hg.1)) inp (by omega) (by omega) h3
theorem outV_exact (hp : VirtIn p) (h : (outV p inp 2000).kind = 1) :
    1 ≤ (outV p inp 2000).steps ∧ (outV p inp 2000).steps ≤ 2000 ∧ outV p inp (outV p inp 2000).steps = outV p inp 2000 ∧ (outV p inp ((outV p inp 2000).steps - 1)).kind = 2 ∧ errV p (outV p inp 2000).steps = 0 ∧ errV p ((outV p inp 2000).steps - 1) = 0 := by
  have hg := outV_kind (p := p) (inp := inp) (f := 2000) (by omega)
  have e1 : outV p inp 2000 = runF (virtG p) inp 2000 := if_pos hg
  rw [e1] at h ⊢
  obtain ⟨h1, h2, h3, h4⟩ := runF_exact (counts_of (vmay_ok hp hg.1)) inp (show (0 : Int) ≤ 2000 by omega) h
  have g1 : goodV p (runF (virtG p) inp 2000).steps := ⟨hg.1, by omega, by omega⟩
  have g2 : goodV p ((runF (virtG p) inp 2000).steps - 1) := ⟨hg.1, by omega, by omega⟩
  refine ⟨h1, h2, ?_, ?_, if_pos g1, if_pos g2⟩
  · rw [show outV p inp (runF (virtG p) inp 2000).steps = runF (virtG p) inp (runF (virtG p) inp 2000).steps from if_pos g1]; exact h3
  · rw [show outV p inp ((runF (virtG p) inp 2000).steps - 1) = runF (virtG p) inp ((runF (virtG p) inp 2000).steps - 1) from if_pos g2]; exact h4
theorem outV_err (h : (outV p inp 2000).kind = 2) : errV p 2000 = 0 := if_pos (outV_kind (inp := inp) (by rw [h]; decide))
end
end Go.Proofs.Ytinmgbodgecoeaa
