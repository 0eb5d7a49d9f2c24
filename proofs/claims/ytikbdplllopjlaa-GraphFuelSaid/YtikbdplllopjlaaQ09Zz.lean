/- The graph's machine: the state between a call's blocks. Conditions: as stated. The page's machine: how a run starts (plain). No condition. Kids, Size, Between, Num, IsLoad: small asks. No condition. The graph's checks: Size, within. No condition. Leaf, Is, Arity, Binary: small asks of the program. No condition but those stated. count, Tree: how many nodes a tree has, and whether it may be. Conditions: as stated. -/
import Derived.Test.YtikbdplllopjlaaGCallAZz
import Derived.Test.YtikbdplllopjlaaQ02Zz
import Derived.Test.YtikbdplllopjlaaQ01Zz
set_option linter.unusedVariables false
set_option linter.unusedSimpArgs false
namespace Go.Proofs.Ytikbdplllopjlaa
open Go.RowKit

theorem HCs.steps {w : World} {base : Nat} {own : Nat → Prop} {cb hb : Nat} {fuel : Int} {s : St} (h : HCs w base own cb hb fuel s) : w.cell? ⟨cb, 3, none⟩ = some (.int .i64 s.steps) := by
  obtain ⟨inv, outv, memv, rb, h⟩ := h
  exact h.clk.cell (j := 3) rfl

theorem numsF_pos {M : List MO} {n x : Nat} (h : x ∈ numsF M n) : 1 ≤ x := by
  unfold numsF at h
  simp only [List.mem_map, List.mem_range] at h
  obtain ⟨i, _, rfl⟩ := h
  split
  · omega
  · rename_i hM
    have := List.length_pos_iff.2 hM
    omega
/-- The state between a call's blocks. -/
structure CIn (base cb hb rb fb tb : Nat) (own : Nat → Prop) (fuel : Int) (P : Value × Value × Value) (gv lv : Value) (lo : List Nat) (ng nt : Nat) (c : Int) (gc : Array Value) (w : World) (own2 : Nat → Prop) (st : St) (tp : List V) (wr : World) : Prop where
  up : ∀ k, own k → own2 k
  dn : ∀ k, own2 k → own k ∨ w.heap.size + 2 ≤ k
  hc : HCs wr base own2 cb hb fuel st
  run : GRun wr rb cb hb P gv ng
  fr : GFrame wr fb tb tp lv lo
  off : GOff base own2 rb fb tb lv gv
  frok : FrOk (memBase st.mem) tp lo ng
  inv : GInv fuel st
  calls : st.calls = c
  len : tp.length = nt
  box : Row wr (w.heap.size + 1) gc 68
  ocb : own cb
  owl : ∀ k, own k → k < w.heap.size
  pos : base ≤ w.heap.size
  new : w.heap.size + 2 ≤ fb ∧ w.heap.size + 2 ≤ tb ∧ ∀ g, lv.ownBlock = some g → w.heap.size + 2 ≤ g
  wr : Wr own w wr

section
variable {base cb hb rb fb tb : Nat} {own : Nat → Prop} {fuel : Int} {P : Value × Value × Value} {gv lv : Value} {lo : List Nat} {ng nt : Nat} {c : Int} {gc : Array Value} {w : World} {own2 : Nat → Prop} {st : St} {tp : List V} {wr wr' : World}
theorem CIn.nown (h : CIn base cb hb rb fb tb own fuel P gv lv lo ng nt c gc w own2 st tp wr) : ¬ own2 w.heap.size ∧ ¬ own2 (w.heap.size + 1) :=
  ⟨fun e => by rcases h.dn _ e with h' | h'; have := h.owl _ h'; omega; omega, fun e => by rcases h.dn _ e with h' | h'; have := h.owl _ h'; omega; omega⟩
/-- The value's box alone is written. -/
theorem CIn.box1 (h : CIn base cb hb rb fb tb own fuel P gv lv lo ng nt c gc w own2 st tp wr) (hw : Wr (fun i => i = w.heap.size) wr wr') (hrb : rb ≠ w.heap.size) (hgv : ∀ g, gv.ownBlock = some g → g ≠ w.heap.size) : CIn base cb hb rb fb tb own fuel P gv lv lo ng nt c gc w own2 st tp wr' := by
  have hn := h.nown
  obtain ⟨n1, n2, n3⟩ := h.new
  have hp := h.pos
  exact ⟨h.up, h.dn, h.hc.wr hw (fun k hk => (by subst hk; exact ⟨hp, hn.1⟩)), h.run.wr hw hrb hgv, h.fr.wr hw (by omega) (by omega) (fun g hg => by have := n3 g hg; omega), h.off, h.frok, h.inv, h.calls, h.len, h.box.wr hw (by omega), h.ocb, h.owl, h.pos, h.new, h.wr.trans hw (fun k hk => Or.inr (by omega))⟩
theorem CIn.below (h : CIn base cb hb rb fb tb own fuel P gv lv lo ng nt c gc w own2 st tp wr) (hbw : Below wr.heap.size wr wr') : CIn base cb hb rb fb tb own fuel P gv lv lo ng nt c gc w own2 st tp wr' :=
  ⟨h.up, h.dn, h.hc.below hbw, h.run.below hbw, h.fr.below hbw, h.off, h.frok, h.inv, h.calls, h.len, h.box.below hbw h.box.lt, h.ocb, h.owl, h.pos, h.new, h.wr.trans (Wr.of_below (F := fun _ => False) hbw) (fun _ h => h.elim)⟩
theorem CIn.bas (h : CIn base cb hb rb fb tb own fuel P gv lv lo ng nt c gc w own2 st tp wr) : Below base w wr :=
  h.wr.below h.pos (fun k hk => (h.hc.blocks.2.2 k (h.up k hk)).1)
/-- What is left of the world where a block has been done. -/
theorem CIn.after (h : CIn base cb hb rb fb tb own fuel P gv lv lo ng nt c gc w own2 st tp wr) (own3 : Nat → Prop) (h1 : ∀ k, own2 k → own3 k) (h2 : ∀ k, own3 k → own2 k ∨ wr.heap.size ≤ k) (h5 : Wr (fun b => own2 b ∨ b = tb) wr wr') :
    (∀ k, own k → own3 k) ∧ (∀ k, own3 k → own k ∨ w.heap.size + 2 ≤ k) ∧ Wr own w wr' ∧ (∀ t cs, Row wr w.heap.size cs t → Row wr' w.heap.size cs t) ∧ Row wr' (w.heap.size + 1) gc 68 := by
  have hn := h.nown
  obtain ⟨n1, n2, n3⟩ := h.new
  have hz := h.box.lt
  refine ⟨fun k hk => h1 k (h.up k hk), fun k hk => ?_, h.wr.trans h5 ?_, fun t cs hr => hr.wr h5 ?_, h.box.wr h5 ?_⟩
  · rcases h2 k hk with h' | h'
    · exact h.dn k h'
    · exact Or.inr (by omega)
  · rintro k (hk | hk)
    · rcases h.dn k hk with h' | h'
      · exact Or.inl h'
      · exact Or.inr (by omega)
    · exact Or.inr (by omega)
  · rintro (h' | h')
    · exact hn.1 h'
    · omega
  · rintro (h' | h')
    · exact hn.2 h'
    · omega
theorem CIn.next (h : CIn base cb hb rb fb tb own fuel P gv lv lo ng nt c gc w own2 st tp wr) (own3 : Nat → Prop) (h1 : ∀ k, own2 k → own3 k) (h2 : ∀ k, own3 k → own2 k ∨ wr.heap.size ≤ k) (h5 : Wr (fun b => own2 b ∨ b = tb) wr wr') {st' : St} {tp' : List V} (h3 : HCs wr' base own3 cb hb fuel st') (h4 : GFrame wr' fb tb tp' lv lo) (hk : GKept fuel st st') (hf : FrOk (memBase st'.mem) tp' lo ng) (hl : tp'.length = tp.length) :
    CIn base cb hb rb fb tb own fuel P gv lv lo ng nt c gc w own3 st' tp' wr' := by
  obtain ⟨a1, a2, a3, a4, a5⟩ := h.after own3 h1 h2 h5
  refine ⟨a1, a2, h3, h.run.wr h5 ?_ ?_, h4, GOff.up h.off h2 h.fr h.run, hf, hk.inv, hk.calls.trans h.calls, hl.trans h.len, a5, h.ocb, h.owl, h.pos, h.new, a3⟩
  · rintro (h' | h')
    · exact h.off.orb.1 h'
    · exact h.off.ort h'
  · rintro g hg (h' | h')
    · exact (h.off.ogv g hg).1 h'
    · exact (h.off.ogv g hg).2.2 h'
end
end Go.Proofs.Ytikbdplllopjlaa
namespace Go.Proofs.Ytikbdplllopjlaa
open Go.RowKit

/-- The machine's state at the start. -/
def s00 (inp : List Int) : St := ⟨inp, 0, 0, [], 0, 0, 0, []⟩

theorem runF_main {p : ProgS} {inp : List Int} {fuel : Int} {f : Nat} (h : p.main = (f : Nat)) : runF p inp fuel = endF (callF p fuel (63 + 1) f [] { s00 inp with mem := makesF [] p.globs }) := by
  simp only [runF, h, s00, Nat.reduceAdd]

theorem ProgAt.up {w : World} {B B' : Nat} {P : Value × Value × Value} {p : ProgS} (h : ProgAt w B P p) (hB : B ≤ B') : ProgAt w B' P p :=
  ⟨h.1.below (Below.refl _ _) hB fun _ _ h => h.below (Below.refl _ _) hB, h.2.1.below (Below.refl _ _) hB fun _ _ h => h.below (Below.refl _ _) hB, h.2.2⟩

end Go.Proofs.Ytikbdplllopjlaa
namespace Go.Proofs.Ytikbdplllopjlaa
open Go.RowKit

def kidsI (op : Int) : Int := if op < 1 ∨ op > 36 then -1 else if op ≤ 4 then 0 else if 12 ≤ op ∧ op ≤ 30 then 2 else 1

def sizeB (n : Int) : Bool := decide (n = 1 ∨ n = 2 ∨ n = 4 ∨ n = 8)
def betwB (n a b : Int) : Bool := decide (a ≤ n ∧ n ≤ b)
def numB (n b : Int) : Bool := decide (0 ≤ n ∧ n ≤ b)
def loadB (op : Int) : Bool := decide (5 ≤ op ∧ op ≤ 11)

end Go.Proofs.Ytikbdplllopjlaa
namespace Go.Proofs.Ytikbdplllopjlaa
open Go.RowKit

theorem gsize_any (n : Int) (w : World) :
    Calls Try.prog 28 #[.int .i64 n] w fun e w' => e = .returned (.bool (sizeB n)) ∧ w = w' := by
  have h : n = 1 ∨ n = 2 ∨ n = 4 ∨ n = 8 ∨ (n ≠ 1 ∧ n ≠ 2 ∧ n ≠ 4 ∧ n ≠ 8) := by omega
  rcases h with rfl | rfl | rfl | rfl | ⟨h1, h2, h3, h4⟩
  all_goals
    go_enter Try.func28, Try.ntmps28
    go_wp2
    go_ret
    exact ⟨ret_b (by simp [sizeB, *]), rfl⟩
theorem gwithin_any (n most : Int) (w : World) :
    Calls Try.prog 19 #[.int .i64 n, .int .i64 most] w fun e w' => e = .returned (.bool (decide (0 ≤ n ∧ n < most))) ∧ w = w' := by
  go_enter Try.func19, Try.ntmps19
  go_wp2
  all_goals go_ret
  all_goals exact ⟨ret_b (by simp; try omega), rfl⟩
end Go.Proofs.Ytikbdplllopjlaa
namespace Go.Proofs.Ytikbdplllopjlaa
open Go.RowKit

def leafB (op : Int) : Bool := decide (1 ≤ op ∧ op ≤ 4)
def arityI (op : Int) : Int := if 1 ≤ op ∧ op ≤ 4 then 0 else if 12 ≤ op ∧ op ≤ 30 then 2 else 1

theorem leaf_any (op : Int) (w : World) :
    Calls Try.prog 63 #[.int .i64 op] w fun e w' => e = .returned (.bool (leafB op)) ∧ w = w' := by
  unfold leafB
  go_enter Try.func63, Try.ntmps63
  go_wp2
  all_goals go_ret
  · exact ⟨ret_b (by simp [*]), rfl⟩
  · exact ⟨ret_b (by simp; omega), rfl⟩
theorem is_any (op : Int) (w : World) :
    Calls Try.prog 61 #[.int .i64 op] w fun e w' => e = .returned (.bool (decide (1 ≤ op ∧ op ≤ 36))) ∧ w = w' := by
  go_enter Try.func61, Try.ntmps61
  go_wp2
  all_goals go_ret
  · exact ⟨ret_b (by simp [*]), rfl⟩
  · exact ⟨ret_b (by simp; omega), rfl⟩
theorem binary_any (op : Int) (w : World) :
    Calls Try.prog 66 #[.int .i64 op] w fun e w' => e = .returned (.bool (decide (12 ≤ op ∧ op ≤ 30))) ∧ w = w' := by
  go_enter Try.func66, Try.ntmps66
  go_wp2
  all_goals go_ret
  · exact ⟨ret_b (by simp [*]), rfl⟩
  · exact ⟨ret_b (by simp; omega), rfl⟩

set_option maxHeartbeats 1000000 in
theorem arity_any (op : Int) (w : World) :
    Calls Try.prog 62 #[.int .i64 op] w fun e w' => e = .returned (.int .i64 (arityI op)) ∧ w = w' := by
  have HL := Lib.hid (leaf_any op w)
  have HB := Lib.hid (binary_any op w)
  unfold arityI
  unfold leafB at HL
  by_cases h1 : 1 ≤ op ∧ op ≤ 4
  · rw [if_pos h1]
    rw [decide_eq_true h1] at HL
    clear h1
    go_enter Try.func62, Try.ntmps62
    go_wp2_with (go_at_call 63; refine HL.out.mono ?_; rintro e w' ⟨rfl, rfl⟩)
    go_ret
    exact ⟨rfl, rfl⟩
  · rw [if_neg h1]
    rw [decide_eq_false h1] at HL
    by_cases h2 : 12 ≤ op ∧ op ≤ 30
    · rw [if_pos h2]
      rw [decide_eq_true h2] at HB
      clear h1 h2
      go_enter Try.func62, Try.ntmps62
      go_wp2_with (first | (go_at_call 63; refine HL.out.mono ?_; rintro e w' ⟨rfl, rfl⟩) | (go_at_call 66; refine HB.out.mono ?_; rintro e w' ⟨rfl, rfl⟩))
      go_ret
      exact ⟨rfl, rfl⟩
    · rw [if_neg h2]
      rw [decide_eq_false h2] at HB
      clear h1 h2
      go_enter Try.func62, Try.ntmps62
      go_wp2_with (first | (go_at_call 63; refine HL.out.mono ?_; rintro e w' ⟨rfl, rfl⟩) | (go_at_call 66; refine HB.out.mono ?_; rintro e w' ⟨rfl, rfl⟩))
      go_ret
      exact ⟨rfl, rfl⟩

end Go.Proofs.Ytikbdplllopjlaa
namespace Go.Proofs.Ytikbdplllopjlaa
open Go.RowKit

/-- A node that may not be. -/
def badN (op x : Int) (ks : Nat) : Bool := decide ((ks : Int) ≠ kidsI op ∨ (op > 4 ∧ x ≠ 0) ∨ (op ≠ 1 ∧ x < 0))

mutual
def cnt : T → Int → Int × Bool
  | .node op x ks, n => if n + 1 > 200 ∨ badN op x ks.length = true then (n + 1, false) else cnts ks (n + 1)
def cnts : List T → Int → Int × Bool
  | [], n => (n, true)
  | k :: ks, n => if (cnt k n).2 = false then ((cnt k n).1, false) else cnts ks (cnt k n).1
end

mutual
theorem cnt_bd : ∀ (t : T) (n : Int), 0 ≤ n → n ≤ 200 → n ≤ (cnt t n).1 ∧ (cnt t n).1 ≤ 201 ∧ ((cnt t n).2 = true → (cnt t n).1 ≤ 200)
  | .node op x ks, n, h0, h1 => by
    unfold cnt
    split
    · exact ⟨by simp only; omega, by simp only; omega, fun h => by cases h⟩
    · rename_i h
      have h2 : ¬ n + 1 > 200 := fun h' => h (Or.inl h')
      have := cnts_bd ks (n + 1) (by omega) (by omega)
      exact ⟨by omega, this.2⟩
theorem cnts_bd : ∀ (ks : List T) (n : Int), 0 ≤ n → n ≤ 200 → n ≤ (cnts ks n).1 ∧ (cnts ks n).1 ≤ 201 ∧ ((cnts ks n).2 = true → (cnts ks n).1 ≤ 200)
  | [], n, h0, h1 => by unfold cnts; exact ⟨by simp only; omega, by simp only; omega, fun _ => by simp only; omega⟩
  | k :: ks, n, h0, h1 => by
    unfold cnts
    have hk := cnt_bd k n h0 h1
    split
    · exact ⟨hk.1, hk.2.1, fun h => by cases h⟩
    · rename_i h
      have h2 : (cnt k n).2 = true := by simpa using h
      have := cnts_bd ks (cnt k n).1 (by omega) (hk.2.2 h2)
      exact ⟨by omega, this.2⟩
end

theorem drop_of {α : Type} {l : List α} {j : Nat} {x : α} (h : l[j]? = some x) : l.drop j = x :: l.drop (j + 1) := by
  have hlt : j < l.length := by
    rcases Nat.lt_or_ge j l.length with h' | h'
    · exact h'
    · rw [List.getElem?_eq_none h'] at h; cases h
  rw [List.drop_eq_getElem_cons hlt]
  rw [List.getElem?_eq_getElem hlt] at h
  injection h with h
  rw [h]
theorem TreeAt.shape0 {w : World} {C : Nat → Nat → Prop} {t : T} {v0 v1 v2 : Value} (h : TreeAt w C t v0 v1 v2) : ∃ a b A n c, v0 = .int .i64 a ∧ v1 = .int .i64 b ∧ v2 = .slice A n c := by
  obtain ⟨op, n, ks⟩ := t
  simp only [TreeAt] at h
  obtain ⟨h0, h1, _, _, _, A, cap, h5, _⟩ := h
  exact ⟨_, _, _, _, _, h0, h1, h5⟩
theorem drop_nil_of {α : Type} {l : List α} {n : Nat} (h : l.length ≤ n) : l.drop n = [] := List.drop_eq_nil_of_le h

/-- A tree that may be: how many nodes. -/
def treeC (t : T) : Int × Bool := cnt t 0

end Go.Proofs.Ytikbdplllopjlaa
