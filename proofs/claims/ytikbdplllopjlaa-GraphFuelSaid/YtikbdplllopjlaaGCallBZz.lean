/- The graph's machine: the state between a call's blocks. Conditions: as stated. -/
import Derived.Test.YtikbdplllopjlaaGCallAZz
set_option linter.unusedVariables false
set_option linter.unusedSimpArgs false
namespace Go.Proofs.Ytikbdplllopjlaa
open Go.RowKit

theorem HCs.steps {w : World} {base : Nat} {own : Nat → Prop} {cb hb : Nat} {fuel : Int} {s : St} (h : HCs w base own cb hb fuel s) : w.cell? ⟨cb, 3, none⟩ = some (.int .i64 s.steps) := by
  obtain ⟨inv, outv, memv, rb, h⟩ := h
  exact h.clk.cell (j := 3) rfl

theorem numsF_pos {M : List MO} {n x : Nat} (h : x ∈ numsF M n) : 1 ≤ x := by
  unfold numsF at h
  simp only [List.mem_map, List.mem_range] at h
  obtain ⟨i, _, rfl⟩ := h
  split
  · omega
  · rename_i hM
    have := List.length_pos_iff.2 hM
    omega
/-- The state between a call's blocks. -/
structure CIn (base cb hb rb fb tb : Nat) (own : Nat → Prop) (fuel : Int) (P : Value × Value × Value) (gv lv : Value) (lo : List Nat) (ng nt : Nat) (c : Int) (gc : Array Value) (w : World) (own2 : Nat → Prop) (st : St) (tp : List V) (wr : World) : Prop where
  up : ∀ k, own k → own2 k
  dn : ∀ k, own2 k → own k ∨ w.heap.size + 2 ≤ k
  hc : HCs wr base own2 cb hb fuel st
  run : GRun wr rb cb hb P gv ng
  fr : GFrame wr fb tb tp lv lo
  off : GOff base own2 rb fb tb lv gv
  frok : FrOk (memBase st.mem) tp lo ng
  inv : GInv fuel st
  calls : st.calls = c
  len : tp.length = nt
  box : Row wr (w.heap.size + 1) gc 68
  ocb : own cb
  owl : ∀ k, own k → k < w.heap.size
  pos : base ≤ w.heap.size
  new : w.heap.size + 2 ≤ fb ∧ w.heap.size + 2 ≤ tb ∧ ∀ g, lv.ownBlock = some g → w.heap.size + 2 ≤ g
  wr : Wr own w wr

section
variable {base cb hb rb fb tb : Nat} {own : Nat → Prop} {fuel : Int} {P : Value × Value × Value} {gv lv : Value} {lo : List Nat} {ng nt : Nat} {c : Int} {gc : Array Value} {w : World} {own2 : Nat → Prop} {st : St} {tp : List V} {wr wr' : World}
theorem CIn.nown (h : CIn base cb hb rb fb tb own fuel P gv lv lo ng nt c gc w own2 st tp wr) : ¬ own2 w.heap.size ∧ ¬ own2 (w.heap.size + 1) :=
  ⟨fun e => by rcases h.dn _ e with h' | h'; have := h.owl _ h'; omega; omega, fun e => by rcases h.dn _ e with h' | h'; have := h.owl _ h'; omega; omega⟩
/-- The value's box alone is written. -/
theorem CIn.box1 (h : CIn base cb hb rb fb tb own fuel P gv lv lo ng nt c gc w own2 st tp wr) (hw : Wr (fun i => i = w.heap.size) wr wr') (hrb : rb ≠ w.heap.size) (hgv : ∀ g, gv.ownBlock = some g → g ≠ w.heap.size) : CIn base cb hb rb fb tb own fuel P gv lv lo ng nt c gc w own2 st tp wr' := by
  have hn := h.nown
  obtain ⟨n1, n2, n3⟩ := h.new
  have hp := h.pos
  exact ⟨h.up, h.dn, h.hc.wr hw (fun k hk => (by subst hk; exact ⟨hp, hn.1⟩)), h.run.wr hw hrb hgv, h.fr.wr hw (by omega) (by omega) (fun g hg => by have := n3 g hg; omega), h.off, h.frok, h.inv, h.calls, h.len, h.box.wr hw (by omega), h.ocb, h.owl, h.pos, h.new, h.wr.trans hw (fun k hk => Or.inr (by omega))⟩
theorem CIn.below (h : CIn base cb hb rb fb tb own fuel P gv lv lo ng nt c gc w own2 st tp wr) (hbw : Below wr.heap.size wr wr') : CIn base cb hb rb fb tb own fuel P gv lv lo ng nt c gc w own2 st tp wr' :=
  ⟨h.up, h.dn, h.hc.below hbw, h.run.below hbw, h.fr.below hbw, h.off, h.frok, h.inv, h.calls, h.len, h.box.below hbw h.box.lt, h.ocb, h.owl, h.pos, h.new, h.wr.trans (Wr.of_below (F := fun _ => False) hbw) (fun _ h => h.elim)⟩
theorem CIn.bas (h : CIn base cb hb rb fb tb own fuel P gv lv lo ng nt c gc w own2 st tp wr) : Below base w wr :=
  h.wr.below h.pos (fun k hk => (h.hc.blocks.2.2 k (h.up k hk)).1)
/-- What is left of the world where a block has been done. -/
theorem CIn.after (h : CIn base cb hb rb fb tb own fuel P gv lv lo ng nt c gc w own2 st tp wr) (own3 : Nat → Prop) (h1 : ∀ k, own2 k → own3 k) (h2 : ∀ k, own3 k → own2 k ∨ wr.heap.size ≤ k) (h5 : Wr (fun b => own2 b ∨ b = tb) wr wr') :
    (∀ k, own k → own3 k) ∧ (∀ k, own3 k → own k ∨ w.heap.size + 2 ≤ k) ∧ Wr own w wr' ∧ (∀ t cs, Row wr w.heap.size cs t → Row wr' w.heap.size cs t) ∧ Row wr' (w.heap.size + 1) gc 68 := by
  have hn := h.nown
  obtain ⟨n1, n2, n3⟩ := h.new
  have hz := h.box.lt
  refine ⟨fun k hk => h1 k (h.up k hk), fun k hk => ?_, h.wr.trans h5 ?_, fun t cs hr => hr.wr h5 ?_, h.box.wr h5 ?_⟩
  · rcases h2 k hk with h' | h'
    · exact h.dn k h'
    · exact Or.inr (by omega)
  · rintro k (hk | hk)
    · rcases h.dn k hk with h' | h'
      · exact Or.inl h'
      · exact Or.inr (by omega)
    · exact Or.inr (by omega)
  · rintro (h' | h')
    · exact hn.1 h'
    · omega
  · rintro (h' | h')
    · exact hn.2 h'
    · omega
theorem CIn.next (h : CIn base cb hb rb fb tb own fuel P gv lv lo ng nt c gc w own2 st tp wr) (own3 : Nat → Prop) (h1 : ∀ k, own2 k → own3 k) (h2 : ∀ k, own3 k → own2 k ∨ wr.heap.size ≤ k) (h5 : Wr (fun b => own2 b ∨ b = tb) wr wr') {st' : St} {tp' : List V} (h3 : HCs wr' base own3 cb hb fuel st') (h4 : GFrame wr' fb tb tp' lv lo) (hk : GKept fuel st st') (hf : FrOk (memBase st'.mem) tp' lo ng) (hl : tp'.length = tp.length) :
    CIn base cb hb rb fb tb own fuel P gv lv lo ng nt c gc w own3 st' tp' wr' := by
  obtain ⟨a1, a2, a3, a4, a5⟩ := h.after own3 h1 h2 h5
  refine ⟨a1, a2, h3, h.run.wr h5 ?_ ?_, h4, GOff.up h.off h2 h.fr h.run, hf, hk.inv, hk.calls.trans h.calls, hl.trans h.len, a5, h.ocb, h.owl, h.pos, h.new, a3⟩
  · rintro (h' | h')
    · exact h.off.orb.1 h'
    · exact h.off.ort h'
  · rintro g hg (h' | h')
    · exact (h.off.ogv g hg).1 h'
    · exact (h.off.ogv g hg).2.2 h'
end
end Go.Proofs.Ytikbdplllopjlaa
