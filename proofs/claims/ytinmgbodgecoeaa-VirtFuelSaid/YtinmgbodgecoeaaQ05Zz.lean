/- The graph's heap and clock: how they lie, whole. No program in sight but its name. No condition. The graph's heap: cut; how many elements objects have. Conditions: as stated. The graph's heap: a store. Conditions: as stated. How many elements objects have. Conditions: as stated. -/
import Derived.Test.YtinmgbodgecoeaaGLoadZz
import Derived.Test.YtinmgbodgecoeaaGClockDZz
import Derived.Test.YtinmgbodgecoeaaQ03Zz
set_option linter.unusedVariables false
set_option linter.unusedSimpArgs false
namespace Go.Proofs.Ytinmgbodgecoeaa
open Go.RowKit

/-- An object's three cells in the row of objects (the page's object k + 1). -/
def GObjIn (xs : List Value) (rb : Nat → Nat) (k : Nat) (o : MO) : Prop :=
  xs[k * 3]? = some (.int .i64 o.size) ∧ xs[k * 3 + 1]? = some (if o.live = true then .slice (some ⟨rb k, 0, none⟩) o.l.length o.l.length else .slice none 0 0) ∧ xs[k * 3 + 2]? = some (.bool (!o.live))

structure GMemW (w : World) (base : Nat) (own : Nat → Prop) (memv : Value) (rb : Nat → Nat) (M : List MO) : Prop where
  row : ∃ xs, w.ownsRow base 88 3 memv M.tail.length xs ∧ ∀ k o, M.tail[k]? = some o → GObjIn xs rb k o
  mine : ∀ k o, M.tail[k]? = some o → own (rb k) ∧ VRow w (rb k) o.l
  inj : ∀ i j, i < M.tail.length → j < M.tail.length → rb i = rb j → i = j
  ok : MemOk M
  num : NumOk M

/-- The heap's and the clock's own blocks, and all that they hold. -/
structure HC (w : World) (base : Nat) (own : Nat → Prop) (cb hb : Nat) (fuel : Int) (s : St) (inv outv memv : Value) (rb : Nat → Nat) : Prop where
  clk : Row w cb (ccells fuel s inv outv) 44
  heap : Row w hb #[memv] 48
  ocb : own cb
  ohb : own hb
  inp : InW w base inv s.inp
  out : w.ownsRow base 2 1 outv s.out.length (s.out.map (Value.int .i64))
  outo : ∀ g, outv.ownBlock = some g → own g
  mem : GMemW w base own memv rb (memBase s.mem)
  memo : ∀ g, memv.ownBlock = some g → own g
  own : ∀ k, own k → base ≤ k ∧ k < w.heap.size
def HCs (w : World) (base : Nat) (own : Nat → Prop) (cb hb : Nat) (fuel : Int) (s : St) : Prop := ∃ inv outv memv rb, HC w base own cb hb fuel s inv outv memv rb

theorem GMemW.wr {w w' : World} {base : Nat} {own F : Nat → Prop} {memv : Value} {rb : Nat → Nat} {M : List MO} (h : GMemW w base own memv rb M) (hw : Wr F w w')
    (hF1 : ∀ g, memv.ownBlock = some g → ¬ F g) (hF2 : ∀ k, k < M.tail.length → ¬ F (rb k)) : GMemW w' base own memv rb M := by
  obtain ⟨⟨xs, hx, hox⟩, hm, hi, hk, hn⟩ := h
  refine ⟨⟨xs, ownsRow_wr hx hw hF1, hox⟩, fun k o ho => ?_, hi, hk, hn⟩
  obtain ⟨h2, cs, hr, hv⟩ := hm k o ho
  have hlt : k < M.tail.length := by
    rcases Nat.lt_or_ge k M.tail.length with h | h
    · exact h
    · rw [List.getElem?_eq_none h] at ho; cases ho
  exact ⟨h2, cs, hr.wr hw (hF2 k hlt), hv⟩
theorem GMemW.get {w : World} {base : Nat} {own : Nat → Prop} {memv : Value} {rb : Nat → Nat} {M : List MO} (h : GMemW w base own memv rb M) {k : Nat} (hk : k < M.tail.length) :
    own (rb k) ∧ ∃ cs, Row w (rb k) cs 60 := by
  obtain ⟨h1, cs, h2, _⟩ := h.mine k _ (List.getElem?_eq_getElem hk)
  exact ⟨h1, cs, h2⟩

/-- Writes into blocks of other kinds leave the heap and the clock as they are. -/
theorem HC.wr {w w' : World} {base : Nat} {own F : Nat → Prop} {cb hb : Nat} {fuel : Int} {s : St} {inv outv memv : Value} {rb : Nat → Nat} (h : HC w base own cb hb fuel s inv outv memv rb) (hw : Wr F w w') (hF : ∀ k, F k → base ≤ k ∧ ¬ own k) : HC w' base own cb hb fuel s inv outv memv rb := by
  have hb := h.own cb h.ocb
  refine ⟨h.clk.wr hw (fun hf => (hF _ hf).2 h.ocb), h.heap.wr hw (fun hf => (hF _ hf).2 h.ohb), h.ocb, h.ohb, h.inp.below (fun b o hb' => ?_), ownsRow_wr h.out hw (fun g hg hf => (hF g hf).2 (h.outo g hg)), h.outo, h.mem.wr hw (fun g hg hf => (hF g hf).2 (h.memo g hg)) (fun k hk hf => (hF _ hf).2 (h.mem.get hk).1), h.memo, fun k hk => ⟨(h.own k hk).1, Nat.lt_of_lt_of_le (h.own k hk).2 hw.size⟩⟩
  exact World.cell?_of_block (a := ⟨b, o, none⟩) (hw.block b (by omega) (fun hf => by have := (hF b hf).1; omega))
theorem HCs.wr {w w' : World} {base : Nat} {own F : Nat → Prop} {cb hb : Nat} {fuel : Int} {s : St} (h : HCs w base own cb hb fuel s) (hw : Wr F w w') (hF : ∀ k, F k → base ≤ k ∧ ¬ own k) : HCs w' base own cb hb fuel s := by
  obtain ⟨a, b, c, d, h⟩ := h
  exact ⟨a, b, c, d, h.wr hw hF⟩
theorem HCs.below {w w' : World} {base : Nat} {own : Nat → Prop} {cb hb : Nat} {fuel : Int} {s : St} (h : HCs w base own cb hb fuel s) (hw : Below w.heap.size w w') : HCs w' base own cb hb fuel s :=
  h.wr (F := fun _ => False) (Wr.of_below hw) (fun _ h => h.elim)
theorem HCs.blocks {w : World} {base : Nat} {own : Nat → Prop} {cb hb : Nat} {fuel : Int} {s : St} (h : HCs w base own cb hb fuel s) : own cb ∧ own hb ∧ ∀ k, own k → base ≤ k ∧ k < w.heap.size := by
  obtain ⟨a, b, c, d, h⟩ := h
  exact ⟨h.ocb, h.ohb, h.own⟩
theorem HCs.inp64 {w : World} {base : Nat} {own : Nat → Prop} {cb hb : Nat} {fuel : Int} {s : St} (h : HCs w base own cb hb fuel s) {j : Nat} {x : Int} (hx : s.inp[j]? = some x) : In64 x := by
  obtain ⟨_, _, _, _, h⟩ := h
  obtain ⟨A, cap, _, _, _, h3⟩ := h.inp
  have hlt : j < s.inp.length := by
    rcases Nat.lt_or_ge j s.inp.length with h' | h'
    · exact h'
    · rw [List.getElem?_eq_none h'] at hx; cases hx
  obtain ⟨b, off, _, _, hc⟩ := h3 (by omega)
  exact (hc j x hx).2

/-- The clock alone is written: what comes in and what was put out stay. -/
theorem HC.clock {w w' : World} {base : Nat} {own : Nat → Prop} {cb hb : Nat} {fuel : Int} {s s' : St} {inv outv memv : Value} {rb : Nat → Nat} (h : HC w base own cb hb fuel s inv outv memv rb) (hs : ClkSays cb fuel s' inv outv w w') (h1 : s'.inp = s.inp) (h2 : s'.out = s.out) (h3 : s'.mem = s.mem) :
    HC w' base own cb hb fuel s' inv outv memv rb := by
  obtain ⟨hr, hw⟩ := hs
  have hbd := h.own cb h.ocb
  have hne : ∀ g cs t, Row w g cs t → t ≠ 44 → ¬ g = cb := fun g cs t hr' ht e => by subst e; exact hr'.ne h.clk ht rfl
  refine ⟨hr, h.heap.wr hw (hne _ _ _ h.heap (by decide)), h.ocb, h.ohb, ?_, ?_, h.outo, ?_, h.memo, fun k hk => ⟨(h.own k hk).1, Nat.lt_of_lt_of_le (h.own k hk).2 hw.size⟩⟩
  · rw [h1]
    exact h.inp.below (fun b o hb' => World.cell?_of_block (a := ⟨b, o, none⟩) (hw.block b (by omega) (fun hf => by omega)))
  · rw [h2]
    refine ownsRow_wr h.out hw (fun g hg => ?_)
    obtain ⟨_, cs, hr'⟩ := ownsRow_row h.out hg
    exact hne g cs _ hr' (by decide)
  · rw [h3]
    refine h.mem.wr hw (fun g hg => ?_) (fun k hk => ?_)
    · obtain ⟨⟨xs, hx, _⟩, _⟩ := h.mem
      obtain ⟨_, cs, hr'⟩ := ownsRow_row hx hg
      exact hne g cs _ hr' (by decide)
    · obtain ⟨_, cs, hr'⟩ := h.mem.get hk
      exact hne _ cs _ hr' (by decide)
/-- The memory, read. -/
theorem GMemW.memRG {w : World} {base : Nat} {own : Nat → Prop} {memv : Value} {rb : Nat → Nat} {M : List MO} (h : GMemW w base own memv rb M) :
    ∃ A cap, memv = .slice A M.tail.length cap ∧ MemRG w w.heap.size A M.tail.length M := by
  obtain ⟨⟨xs, hx, hox⟩, hmine, _, hok, _⟩ := h
  obtain ⟨hxl, hx2⟩ := id hx
  have hmany := hok.many
  have htl : M.length ≤ M.tail.length + 1 := by rw [List.length_tail]; omega
  have htl2 : M.tail.length ≤ M.length := by rw [List.length_tail]; omega
  rcases hx2 with ⟨rfl, h0⟩ | ⟨g, cap, cur, rfl, _, hg, hcap, _, _, htake⟩
  · refine ⟨none, 0, by rw [h0], htl, by omega, fun k o hk => ?_⟩
    rw [← List.getElem?_tail, List.getElem?_eq_none (by omega)] at hk
    cases hk
  · refine ⟨some ⟨g, 0, none⟩, cap, rfl, htl, by omega, fun k o hk => ⟨g, 0, rfl, Row.lt hg, ?_⟩⟩
    have hk' : M.tail[k]? = some o := by rw [List.getElem?_tail]; exact hk
    have hkl : k < M.tail.length := by
      rcases Nat.lt_or_ge k M.tail.length with h | h
      · exact h
      · rw [List.getElem?_eq_none h] at hk'; cases hk'
    refine ⟨hkl, ?_⟩
    have hcell : ∀ j u, xs[j]? = some u → w.cell? ⟨g, 0 + j, none⟩ = some u := by
      intro j u hj
      have := hx.cells (g := g) rfl j u hj
      rw [addr0] at this
      simpa using this
    obtain ⟨h0, h1, h2⟩ := hox k o hk'
    obtain ⟨hs1, hs2⟩ := hok.size (k + 1) o (by omega) hk
    obtain ⟨_, cs, hrow, hvi⟩ := hmine k o hk'
    by_cases hl : o.live = true
    · rw [if_pos hl] at h1
      exact ⟨_, _, _, hcell _ _ h0, hcell _ _ h1, hcell _ _ h2, fun _ => ⟨rfl, fun j v hj => ⟨rb k, 0, rfl, hrow.lt, by rw [Nat.zero_add]; exact ⟨hrow.cell (hvi.2 j v hj).1, hrow.cell (hvi.2 j v hj).2⟩⟩⟩, hs2, by omega, by omega⟩
    · rw [if_neg hl] at h1
      exact ⟨_, _, _, hcell _ _ h0, hcell _ _ h1, hcell _ _ h2, fun h => absurd h hl, by omega, by omega, by omega⟩
/-- Where a living object's elements lie. -/
theorem GMemW.objCell {w : World} {base : Nat} {own : Nat → Prop} {A : Option Addr} {n cap : Nat} {rb : Nat → Nat} {M : List MO} (h : GMemW w base own (.slice A n cap) rb M) {k : Nat} (hk : k < M.tail.length) (hl : (mget M (k + 1)).live = true) :
    ∃ g, A = some ⟨g, 0, none⟩ ∧ w.cell? ⟨g, k * 3 + 1, none⟩ = some (.slice (some ⟨rb k, 0, none⟩) (mget M (k + 1)).l.length (mget M (k + 1)).l.length) := by
  obtain ⟨⟨xs, hx, hox⟩, _⟩ := h
  obtain ⟨hxl, hx2⟩ := id hx
  rcases hx2 with ⟨e, h0⟩ | ⟨g, cap', cur, e, _, hg, _⟩
  · omega
  · injection e with e1 e2 e3
    subst e1
    have hget : M.tail[k]? = some (mget M (k + 1)) := by rw [List.getElem?_tail]; exact mget_of (by rw [List.length_tail] at hk; omega)
    obtain ⟨_, h1, _⟩ := hox k _ hget
    rw [if_pos hl] at h1
    have := hx.cells (g := g) rfl (k * 3 + 1) _ h1
    rw [addr0] at this
    exact ⟨g, rfl, by simpa using this⟩
end Go.Proofs.Ytinmgbodgecoeaa
namespace Go.Proofs.Ytinmgbodgecoeaa
open Go.RowKit

theorem cutg_any (s : Nat) (n : Int) (w : World) (hs : s = 1 ∨ s = 2 ∨ s = 4 ∨ s = 8) (hn : In64 n) :
    Calls Try.prog 31 #[.int .i64 s, .int .i64 n] w fun e w' => e = .returned (.int .i64 (storedF s n)) ∧ w = w' := by
  rcases hs with rfl | rfl | rfl | rfl
  all_goals
    go_enter Try.func31, Try.ntmps31
    go_wp2
    go_ret
    refine ⟨ret_i ?_, rfl⟩
    unfold In64 at hn
    simp [storedF, cutN, wrap64]
    omega
end Go.Proofs.Ytinmgbodgecoeaa
namespace Go.Proofs.Ytinmgbodgecoeaa
open Go.RowKit

/-- An element is stored. -/
def putV (j : Nat) (v : V) (o : MO) : MO := { o with l := o.l.set j v }

/-- The heap by itself. -/
structure HeapAt (w : World) (base : Nat) (own : Nat → Prop) (hb : Nat) (memv : Value) (rb : Nat → Nat) (M : List MO) : Prop where
  heap : Row w hb #[memv] 48
  mem : GMemW w base own memv rb M
  memo : ∀ g, memv.ownBlock = some g → own g
theorem HC.heapAt {w : World} {base : Nat} {own : Nat → Prop} {cb hb : Nat} {fuel : Int} {s : St} {inv outv memv : Value} {rb : Nat → Nat} (h : HC w base own cb hb fuel s inv outv memv rb) : HeapAt w base own hb memv rb (memBase s.mem) := ⟨h.heap, h.mem, h.memo⟩

theorem GMemW.put {w : World} {base : Nat} {own : Nat → Prop} {memv : Value} {rb : Nat → Nat} {M : List MO} (h : GMemW w base own memv rb M) (k j : Nat) (v : V) (hk : k < M.tail.length) (hv : VOk M.length v) (hnum : (mget M (k + 1)).size ≠ 8 → v.obj = 0) (hlive : (mget M (k + 1)).live = true) (hne : memv.ownBlock ≠ some (rb k)) :
    GMemW ((w.setCell ⟨rb k, j * 2, none⟩ (.int .i64 v.obj)).setCell ⟨rb k, j * 2 + 1, none⟩ (.int .i64 v.n)) base own memv rb (M.modify (k + 1) (putV j v)) := by
  have hw := wr_pair w (rb k) (j * 2) (j * 2 + 1) (.int .i64 v.obj) (.int .i64 v.n)
  obtain ⟨⟨xs, hx, hox⟩, hm, hi, hok, hn⟩ := h
  have htail : (M.modify (k + 1) (putV j v)).tail = M.tail.modify k (putV j v) := by cases M <;> simp [List.modify_succ_cons]
  refine ⟨⟨xs, by rw [htail, List.length_modify]; exact ownsRow_wr hx hw (fun g hg hf => hne (hf ▸ hg)), fun i o ho => ?_⟩, fun i o ho => ?_, fun a b ha hb => hi a b (by simpa [htail] using ha) (by simpa [htail] using hb), ?_, ?_⟩
  · rw [htail] at ho
    obtain ⟨o0, h0, rfl⟩ := modify_get ho
    have h1 := hox i o0 h0
    split
    · unfold GObjIn putV at *
      simpa using h1
    · exact h1
  · rw [htail] at ho
    obtain ⟨o0, h0, rfl⟩ := modify_get ho
    obtain ⟨h1, cs, h2, h3⟩ := hm i o0 h0
    have hil : i < M.tail.length := by
      rcases Nat.lt_or_ge i M.tail.length with h | h
      · exact h
      · rw [List.getElem?_eq_none h] at h0; cases h0
    refine ⟨h1, ?_⟩
    by_cases e : k = i
    · subst e
      rw [if_pos rfl]
      exact (show VRow w (rb k) o0.l from ⟨cs, h2, h3⟩).set j v
    · rw [if_neg e]
      exact ⟨cs, h2.wr hw (fun he => e (hi i k hil hk he).symm), h3⟩
  · refine ⟨by simpa using hok.many, fun o ho => ?_, fun i o h1 ho => ?_, fun o ho u hu => ?_⟩
    · obtain ⟨o0, h0, he⟩ := modify_get ho
      rw [if_neg (by omega)] at he
      subst he
      exact hok.zero _ h0
    · obtain ⟨o0, h0, rfl⟩ := modify_get ho
      have := hok.size i o0 h1 h0
      split
      · unfold putV; simpa using this
      · exact this
    · rw [List.length_modify]
      rcases mem_modify ho with ho | ⟨o0, h0, rfl⟩
      · exact hok.vals o ho u hu
      · rcases List.mem_or_eq_of_mem_set hu with hu | hu
        · exact hok.vals o0 (List.mem_of_getElem? h0) u hu
        · exact hu ▸ hv
  · intro o ho hs u hu
    rcases mem_modify ho with ho | ⟨o0, h0, rfl⟩
    · exact hn o ho hs u hu
    · rcases List.mem_or_eq_of_mem_set hu with hu | hu
      · exact hn o0 (List.mem_of_getElem? h0) hs u hu
      · rw [hu]
        refine hnum ?_
        have : mget M (k + 1) = o0 := by unfold mget; rw [List.getD_eq_getElem?_getD, h0]; rfl
        rw [this]
        exact hs

set_option maxRecDepth 100000 in
set_option maxHeartbeats 2000000 in
theorem hstore_none (hb : Nat) (A : Option Addr) (n cap B s : Nat) (a x : V) (M : List MO) (w : World) (hB : B ≤ w.heap.size) (hpb : hb < w.heap.size) (hc : w.cell? ⟨hb, 0, none⟩ = some (.slice A n cap)) (hM : MemRG w B A n M) (hk : a.obj ≠ 0 → a.obj < M.length) (hx : a.obj ≠ 0 → 0 ≤ a.n ∧ a.n ≤ 512) (hs0 : 1 ≤ s) (hs1 : s ≤ 8) (hF : atF M a s = none) :
    Calls Try.prog 38 #[.pointer (some ⟨hb, 0, none⟩), .int .i64 s, .agg #[.int .i64 a.obj, .int .i64 a.n], .agg #[.int .i64 x.obj, .int .i64 x.n]] w fun e w' => e = .returned (.bool false) ∧ Below w.heap.size w w' := by
  have HC := Lib.hid (fun W (hbw : Below w.heap.size w W) => hat_none hb A n cap B s a M W (Nat.le_trans hB hbw.size) (Nat.lt_of_lt_of_le hpb hbw.size) (cell_below hc hbw hpb) (hM.below (hbw.mono hB) (Nat.le_refl _)) hk hx hs0 hs1 hF)
  clear hc hM hF
  go_enter Try.func38, Try.ntmps38
  refine wp_letter (fun Q hQ => ?_)
  have HQ := Lib.hid hQ
  clear hQ
  go_wp2_with fail
  refine (HC.out _ (below2 _ _ _)).mono ?_
  rintro e w2 ⟨rfl, hb2⟩
  have HB2 := Lib.hid ((below2 w (.cells #[.int .i64 a.obj, .int .i64 a.n] 60) (.cells #[.int .i64 x.obj, .int .i64 x.n] 60)).trans (hb2.mono (below2 w _ _).size))
  clear hb2
  go_wp2_with fail
  refine HQ.out _ _ _ ?_
  exact bodyPost_ret (v := .bool false) (by simp [results, Try.results38, go_sem]) rfl ⟨rfl, HB2.out⟩

/-- Where the element lies, at whatever later world. -/
theorem hat_there (hb : Nat) (A : Option Addr) (n cap B s j : Nat) (a : V) (M : List MO) (w : World) (hB : B ≤ w.heap.size) (hpb : hb < w.heap.size) (hc : w.cell? ⟨hb, 0, none⟩ = some (.slice A n cap)) (hM : MemRG w B A n M) (hk : a.obj < M.length) (hx : 0 ≤ a.n ∧ a.n ≤ 512) (hs0 : 1 ≤ s) (hs1 : s ≤ 8) (hF : atF M a s = some j)
    (mb mo ob oo len cap' : Nat) (hA : A = some ⟨mb, mo, none⟩) (h1 : w.cell? ⟨mb, mo + (a.obj - 1) * 3 + 1, none⟩ = some (.slice (some ⟨ob, oo, none⟩) len cap')) (W : World) (hbw : Below w.heap.size w W) :
    Calls Try.prog 49 #[.pointer (some ⟨hb, 0, none⟩), .agg #[.int .i64 a.obj, .int .i64 a.n], .int .i64 s] W fun e w' => e = .returned (.pointer (some ⟨ob, oo + j * 2, none⟩)) ∧ Below W.heap.size W w' := by
  obtain ⟨_, ob', oo', mb', mo', len', cap'', hA', hs1', _, _, hcall⟩ := hat_some hb _ n cap B s j a M W (Nat.le_trans hB hbw.size) (Nat.lt_of_lt_of_le hpb hbw.size) (cell_below hc hbw hpb) (hM.below (hbw.mono hB) (Nat.le_refl _)) hk hx hs0 hs1 hF
  have hp := (atF_some hF).1
  obtain ⟨mb2, mo2, hA2, hmb2, _⟩ := hM.get (k := a.obj - 1) (by omega)
  subst hA
  simp only [Option.some.injEq, Addr.mk.injEq, and_true] at hA' hA2
  obtain ⟨rfl, rfl⟩ := hA'
  obtain ⟨rfl, rfl⟩ := hA2
  rw [cell_below h1 hbw (by omega)] at hs1'
  simp only [Option.some.injEq, Value.slice.injEq, Addr.mk.injEq, and_true] at hs1'
  obtain ⟨⟨rfl, rfl⟩, rfl, rfl⟩ := hs1'
  exact hcall

/-- The row behind a store. -/
def StoreSays (ob o : Nat) (v : V) (w : World) (e : Ending) (w' : World) : Prop :=
  e = .returned (.bool true) ∧ ∃ W, Below w.heap.size w W ∧ w' = (W.setCell ⟨ob, o, none⟩ (.int .i64 v.obj)).setCell ⟨ob, o + 1, none⟩ (.int .i64 v.n)

set_option maxRecDepth 100000 in
set_option maxHeartbeats 2000000 in
theorem hstore_bad (hb ob o s : Nat) (a x : V) (w : World) (hat : ∀ W, Below w.heap.size w W → Calls Try.prog 49 #[.pointer (some ⟨hb, 0, none⟩), .agg #[.int .i64 a.obj, .int .i64 a.n], .int .i64 s] W fun e w' => e = .returned (.pointer (some ⟨ob, o, none⟩)) ∧ Below W.heap.size W w')
    (hx : x.obj ≠ 0) (hs : s ≠ 8) :
    Calls Try.prog 38 #[.pointer (some ⟨hb, 0, none⟩), .int .i64 s, .agg #[.int .i64 a.obj, .int .i64 a.n], .agg #[.int .i64 x.obj, .int .i64 x.n]] w fun e w' => e = .returned (.bool false) ∧ Below w.heap.size w w' := by
  have HC := Lib.hid hat
  have hd1 : decide ((0 : Int) < (x.obj : Int)) = true := by simp; omega
  have hd1' : decide (0 < x.obj) = true := by simp; omega
  have hd2 : ((s : Int) != 8) = true := by simp; omega
  clear hat hx hs
  go_enter Try.func38, Try.ntmps38
  refine wp_letter (fun Q hQ => ?_)
  have HQ := Lib.hid hQ
  clear hQ
  go_wp2_with fail
  refine (HC.out _ (below2 _ _ _)).mono ?_
  rintro e w2 ⟨rfl, hb2⟩
  have HB2 := Lib.hid ((below2 w (.cells #[.int .i64 a.obj, .int .i64 a.n] 60) (.cells #[.int .i64 x.obj, .int .i64 x.n] 60)).trans (hb2.mono (below2 w _ _).size))
  have hr := (Row.new' (w := w.alloc (.cells #[.int .i64 a.obj, .int .i64 a.n] 60)) #[.int .i64 x.obj, .int .i64 x.n] 60 (g := w.heap.size + 1) (by simp)).below hb2 (by simp)
  have r0 := hr.cell (j := 0) rfl
  have r1 := hr.cell (j := 1) rfl
  clear hr hb2
  go_wp2_with fail
  refine HQ.out _ _ _ ?_
  exact bodyPost_ret (v := .bool false) (by simp [results, Try.results38, go_sem]) rfl ⟨rfl, HB2.out⟩

set_option maxRecDepth 100000 in
set_option maxHeartbeats 4000000 in
theorem hstore_num (hb ob o s : Nat) (a : V) (xn y0 y1 : Int) (w : World) (hat : ∀ W, Below w.heap.size w W → Calls Try.prog 49 #[.pointer (some ⟨hb, 0, none⟩), .agg #[.int .i64 a.obj, .int .i64 a.n], .int .i64 s] W fun e w' => e = .returned (.pointer (some ⟨ob, o, none⟩)) ∧ Below W.heap.size W w')
    (hs : s = 1 ∨ s = 2 ∨ s = 4 ∨ s = 8) (hn : In64 xn) (hob : ob < w.heap.size) (c0 : w.cell? ⟨ob, o, none⟩ = some (.int .i64 y0)) (c1 : w.cell? ⟨ob, o + 1, none⟩ = some (.int .i64 y1)) (f : ∀ j, w.frozen? ⟨ob, j, none⟩ = false) :
    Calls Try.prog 38 #[.pointer (some ⟨hb, 0, none⟩), .int .i64 s, .agg #[.int .i64 a.obj, .int .i64 a.n], .agg #[.int .i64 0, .int .i64 xn]] w fun e w' => StoreSays ob o ⟨0, storedF s xn⟩ w e w' := by
  have HC := Lib.hid hat
  have HU := Lib.hid (fun W => cutg_any s xn W hs hn)
  have HCC := Lib.hid (And.intro c0 c1)
  have HF := Lib.hid f
  clear hat hs hn c0 c1 f
  go_enter Try.func38, Try.ntmps38
  refine wp_letter (fun Q hQ => ?_)
  have HQ := Lib.hid hQ
  clear hQ
  go_wp2_with fail
  refine (HC.out _ (below2 _ _ _)).mono ?_
  rintro e w2 ⟨rfl, hb2⟩
  have HB2 := Lib.hid ((below2 w (.cells #[.int .i64 a.obj, .int .i64 a.n] 60) (.cells #[.int .i64 0, .int .i64 xn] 60)).trans (hb2.mono (below2 w _ _).size))
  have hr := (Row.new' (w := w.alloc (.cells #[.int .i64 a.obj, .int .i64 a.n] 60)) #[.int .i64 0, .int .i64 xn] 60 (g := w.heap.size + 1) (by simp)).below hb2 (by simp)
  have HR := Lib.hid hr
  have r0 := hr.cell (j := 0) rfl
  have r1 := hr.cell (j := 1) rfl
  have r2 := hr.free 1
  have hlt := hr.lt
  have hobl : ob < w2.heap.size := by omega
  have hne : ob ≠ w.heap.size + 1 := by omega
  have k0 := cell_below HCC.out.1 HB2.out hob
  have k1 := cell_below HCC.out.2 HB2.out hob
  have hfr : ∀ j, w2.frozen? ⟨ob, j, none⟩ = false := fun j => (HB2.out.frozen (p := ⟨ob, j, none⟩) hob).trans (HF.out j)
  have k2 := hfr o
  have k3 := hfr (o + 1)
  clear hr hb2 hfr
  go_wp2_with fail
  refine (HU.out _).mono ?_
  rintro e w3 ⟨rfl, rfl⟩
  go_wp2_with fail
  refine HQ.out _ _ _ ?_
  refine bodyPost_ret (v := .bool true) (by simp [results, Try.results38, go_sem]) rfl ⟨rfl, w2.setCell ⟨w.heap.size + 1, 1, none⟩ (.int .i64 (storedF s xn)), ?_, rfl⟩
  exact HB2.out.setCell (by simp) _

set_option maxRecDepth 100000 in
set_option maxHeartbeats 4000000 in
theorem hstore_place (hb ob o : Nat) (a x : V) (y0 y1 : Int) (w : World) (hat : ∀ W, Below w.heap.size w W → Calls Try.prog 49 #[.pointer (some ⟨hb, 0, none⟩), .agg #[.int .i64 a.obj, .int .i64 a.n], .int .i64 8] W fun e w' => e = .returned (.pointer (some ⟨ob, o, none⟩)) ∧ Below W.heap.size W w')
    (hx : x.obj ≠ 0) (hob : ob < w.heap.size) (c0 : w.cell? ⟨ob, o, none⟩ = some (.int .i64 y0)) (c1 : w.cell? ⟨ob, o + 1, none⟩ = some (.int .i64 y1)) (f : ∀ j, w.frozen? ⟨ob, j, none⟩ = false) :
    Calls Try.prog 38 #[.pointer (some ⟨hb, 0, none⟩), .int .i64 8, .agg #[.int .i64 a.obj, .int .i64 a.n], .agg #[.int .i64 x.obj, .int .i64 x.n]] w fun e w' => StoreSays ob o x w e w' := by
  have HC := Lib.hid hat
  have HCC := Lib.hid (And.intro c0 c1)
  have HF := Lib.hid f
  have hd1 : decide ((0 : Int) < (x.obj : Int)) = true := by simp; omega
  have hd1' : decide (0 < x.obj) = true := by simp; omega
  have hd2 : ((x.obj : Int) == 0) = false := by simp; omega
  clear hat hx c0 c1 f
  go_enter Try.func38, Try.ntmps38
  refine wp_letter (fun Q hQ => ?_)
  have HQ := Lib.hid hQ
  clear hQ
  go_wp2_with fail
  refine (HC.out _ (below2 _ _ _)).mono ?_
  rintro e w2 ⟨rfl, hb2⟩
  have HB2 := Lib.hid ((below2 w (.cells #[.int .i64 a.obj, .int .i64 a.n] 60) (.cells #[.int .i64 x.obj, .int .i64 x.n] 60)).trans (hb2.mono (below2 w _ _).size))
  have hr := (Row.new' (w := w.alloc (.cells #[.int .i64 a.obj, .int .i64 a.n] 60)) #[.int .i64 x.obj, .int .i64 x.n] 60 (g := w.heap.size + 1) (by simp)).below hb2 (by simp)
  have HR := Lib.hid hr
  have r0 := hr.cell (j := 0) rfl
  have r1 := hr.cell (j := 1) rfl
  have hlt := hr.lt
  have hobl : ob < w2.heap.size := by omega
  have k0 := cell_below HCC.out.1 HB2.out hob
  have k1 := cell_below HCC.out.2 HB2.out hob
  have hfr : ∀ j, w2.frozen? ⟨ob, j, none⟩ = false := fun j => (HB2.out.frozen (p := ⟨ob, j, none⟩) hob).trans (HF.out j)
  have k2 := hfr o
  have k3 := hfr (o + 1)
  clear hr hb2 hfr
  go_wp2_with fail
  refine HQ.out _ _ _ ?_
  exact bodyPost_ret (v := .bool true) (by simp [results, Try.results38, go_sem]) rfl ⟨rfl, w2, HB2.out, rfl⟩
end Go.Proofs.Ytinmgbodgecoeaa
namespace Go.Proofs.Ytinmgbodgecoeaa
open Go.RowKit

set_option maxHeartbeats 2000000 in
theorem elements_any (B : Nat) (l : List ObS) (A : Option Addr) (n cap : Nat) (w : World) (h : SliceAt w B 3 (ObE w B) l (.slice A n cap)) (hB : B ≤ w.heap.size) (hobs : ∀ o, o ∈ l → ObOk o) (hnl : l.length ≤ 1000) :
    Calls Try.prog 24 #[.slice A n cap] w fun e w' => e = .returned (.int .i64 (countsF l)) ∧ Below w.heap.size w w' := by
  have hl := h.len
  have H := Lib.hid h
  have HB := Lib.hid hB
  have HOBS := Lib.hid hobs
  have HL := Lib.hid hl.1
  obtain ⟨_, hn2⟩ := hl
  clear h hobs hB
  go_enter Try.func24, Try.ntmps24
  refine wp_letter (fun Q hQ => ?_)
  have HQ := Lib.hid hQ
  clear hQ
  go_wp2_with fail
  go_loopw [3, 8] (fun t i wr => ∃ k : Nat, k ≤ n ∧ i = .int .i64 k ∧ t = .int .i64 (countsF (l.take k)) ∧ Below w.heap.size w wr) (fun _ i _ => n - (intOf i).toNat)
  case atStart => exact ⟨0, by omega, rfl, rfl, Below.refl _ _⟩
  case round =>
    obtain ⟨k, hk, rfl, rfl, hbw⟩ := hrel
    have hct := countsF_bd (l := l.take k) (fun o ho => HOBS.out o (List.mem_of_mem_take ho))
    rw [List.length_take, Nat.min_eq_left (by have := HL.out; omega)] at hct
    obtain ⟨hct1, hct2⟩ := hct
    have HBW := Lib.hid hbw
    have hnb : n ≤ 1000 := by have := HL.out; omega
    have hzw := hbw.size
    by_cases hlt : k < n
    · obtain ⟨b, off, o, rfl, hbB, hok, c0, c1, ⟨v, c2, hv⟩, _, _⟩ := (H.out.below (hbw.mono HB.out) (Nat.le_refl _) (fun _ _ h => h.below (hbw.mono HB.out) (Nat.le_refl _))).get hlt
      simp only [Nat.add_zero] at c0 c1 c2
      have hoo := HOBS.out o (List.mem_of_getElem? hok)
      have hoc0 := hoo.2.1
      have hoc1 := hoo.2.2.1
      have HOK := Lib.hid hok
      have hkl : (k : Int) < (n : Int) := by omega
      have hbl : b < wr.heap.size := by have := HB.out; omega
      obtain ⟨IA, icap, hiv⟩ : ∃ IA icap, v = .slice IA o.init.length icap := (by obtain ⟨A', c', h, _⟩ := hv; exact ⟨_, _, h⟩)
      subst hiv
      clear hok hoo hbw hv
      go_wp2_with fail
      go_roundw
      case rel => exact ⟨k + 1, by omega, by go_num, by rw [List.take_add_one, HOK.out]; simp only [Option.toList_some]; rw [countsF_append]; simp [countsF], HBW.out.trans ((below1 _ _).mono hzw)⟩
      case measure => simp [intOf]; omega
    · obtain rfl : k = n := by omega
      have e : l.take k = l := by rw [← HL.out]; exact List.take_length
      rw [e]
      clear hbw
      go_wp2_with fail
      refine HQ.out _ _ _ ?_
      exact bodyPost_ret (v := .int .i64 (countsF l)) (by simp [results, Try.results24, go_sem]) rfl ⟨rfl, HBW.out⟩
end Go.Proofs.Ytinmgbodgecoeaa
