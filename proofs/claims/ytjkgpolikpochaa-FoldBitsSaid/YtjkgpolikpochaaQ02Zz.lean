/- Kids, Size, Between, Num, IsLoad: small asks. No condition. Worlds whose writes lie in a set of blocks; whole blocks. No program in sight but its name. No condition. Regions that draw their order: reads, then a tail in one forced order; the reads by the cheap step. No program in sight but its name. No condition. -/
import Derived.Test.YtjkgpolikpochaaRefNumZz
import Derived.Test.YtjkgpolikpochaaQ01Zz
import Derived.Handy
set_option linter.unusedVariables false
set_option linter.unusedSimpArgs false
namespace Go.Proofs.Ytjkgpolikpochaa
open Go.RowKit

def kidsI (op : Int) : Int := if op < 1 ∨ op > 36 then -1 else if op ≤ 4 then 0 else if 12 ≤ op ∧ op ≤ 30 then 2 else 1

set_option maxHeartbeats 1000000 in
theorem kids_any (op : Int) (w : World) :
    Calls Try.prog 34 #[.int .i64 op] w fun e w' => e = .returned (.int .i64 (kidsI op)) ∧ w = w' := by
  unfold kidsI
  by_cases h1 : op < 1
  · rw [if_pos (Or.inl h1)]
    go_enter Try.func34, Try.ntmps34
    go_wp2
    go_ret
    exact ⟨rfl, rfl⟩
  · by_cases h2 : op > 36
    · rw [if_pos (Or.inr h2)]
      go_enter Try.func34, Try.ntmps34
      go_wp2
      go_ret
      exact ⟨rfl, rfl⟩
    · rw [if_neg (by omega)]
      by_cases h3 : op ≤ 4
      · rw [if_pos h3]
        go_enter Try.func34, Try.ntmps34
        go_wp2
        go_ret
        exact ⟨rfl, rfl⟩
      · rw [if_neg h3]
        have HB := Lib.hid (isBin_any op w)
        by_cases h4 : 12 ≤ op ∧ op ≤ 30
        · rw [if_pos h4]
          have hd : decide (12 ≤ op ∧ op ≤ 30) = true := by simpa using h4
          rw [hd] at HB
          clear hd h4
          go_enter Try.func34, Try.ntmps34
          go_wp2_with (go_at_call 52; refine HB.out.mono ?_; rintro e w' ⟨rfl, rfl⟩)
          go_ret
          exact ⟨rfl, rfl⟩
        · rw [if_neg h4]
          have hd : decide (12 ≤ op ∧ op ≤ 30) = false := by simpa using h4
          rw [hd] at HB
          clear hd h4
          go_enter Try.func34, Try.ntmps34
          go_wp2_with (go_at_call 52; refine HB.out.mono ?_; rintro e w' ⟨rfl, rfl⟩)
          go_ret
          exact ⟨rfl, rfl⟩

def sizeB (n : Int) : Bool := decide (n = 1 ∨ n = 2 ∨ n = 4 ∨ n = 8)
def betwB (n a b : Int) : Bool := decide (a ≤ n ∧ n ≤ b)
def numB (n b : Int) : Bool := decide (0 ≤ n ∧ n ≤ b)
def loadB (op : Int) : Bool := decide (5 ≤ op ∧ op ≤ 11)

set_option maxHeartbeats 1000000 in
theorem size_any (n : Int) (w : World) :
    Calls Try.prog 59 #[.int .i64 n] w fun e w' => e = .returned (.bool (sizeB n)) ∧ w = w' := by
  unfold sizeB
  by_cases h1 : n = 1
  · subst h1
    go_enter Try.func59, Try.ntmps59
    go_wp2
    go_ret
    exact ⟨rfl, rfl⟩
  by_cases h2 : n = 2
  · subst h2
    go_enter Try.func59, Try.ntmps59
    go_wp2
    go_ret
    exact ⟨rfl, rfl⟩
  by_cases h3 : n = 4
  · subst h3
    go_enter Try.func59, Try.ntmps59
    go_wp2
    go_ret
    exact ⟨rfl, rfl⟩
  have e1 : (n == 1) = false := by simpa using h1
  have e2 : (n == 2) = false := by simpa using h2
  have e3 : (n == 4) = false := by simpa using h3
  have HE := Lib.hid (show decide (n = 1 ∨ n = 2 ∨ n = 4 ∨ n = 8) = (n == 8) by rw [Bool.eq_iff_iff]; simp [h1, h2, h3])
  clear h1 h2 h3
  go_enter Try.func59, Try.ntmps59
  go_wp2
  go_ret
  exact ⟨ret_b HE.out.symm, rfl⟩

set_option maxHeartbeats 1000000 in
theorem between_any (n a b : Int) (w : World) :
    Calls Try.prog 46 #[.int .i64 n, .int .i64 a, .int .i64 b] w fun e w' => e = .returned (.bool (betwB n a b)) ∧ w = w' := by
  unfold betwB
  by_cases h1 : a ≤ n
  · have HE := Lib.hid (show decide (a ≤ n ∧ n ≤ b) = decide (n ≤ b) by rw [Bool.eq_iff_iff]; simp [h1])
    go_enter Try.func46, Try.ntmps46
    go_wp2
    go_ret
    exact ⟨ret_b HE.out.symm, rfl⟩
  · have hd : decide (a ≤ n) = false := by simpa using h1
    have HE := Lib.hid (show decide (a ≤ n ∧ n ≤ b) = false by simp; omega)
    rw [HE.out]
    go_enter Try.func46, Try.ntmps46
    go_wp2
    go_ret
    exact ⟨rfl, rfl⟩

set_option maxHeartbeats 1000000 in
theorem num_any (n b : Int) (w : World) :
    Calls Try.prog 47 #[.int .i64 n, .int .i64 b] w fun e w' => e = .returned (.bool (numB n b)) ∧ w = w' := by
  unfold numB
  by_cases h1 : 0 ≤ n
  · have HE := Lib.hid (show decide (0 ≤ n ∧ n ≤ b) = decide (n ≤ b) by rw [Bool.eq_iff_iff]; simp [h1])
    go_enter Try.func47, Try.ntmps47
    go_wp2
    go_ret
    exact ⟨ret_b HE.out.symm, rfl⟩
  · have hd : decide (0 ≤ n) = false := by simpa using h1
    have HE := Lib.hid (show decide (0 ≤ n ∧ n ≤ b) = false by simp; omega)
    rw [HE.out]
    go_enter Try.func47, Try.ntmps47
    go_wp2
    go_ret
    exact ⟨rfl, rfl⟩
end Go.Proofs.Ytjkgpolikpochaa
namespace Go.Proofs.Ytjkgpolikpochaa
open Go.RowKit

/-- w' is w but for new blocks and for the blocks in F. -/
structure Wr (F : Nat → Prop) (w w' : World) : Prop where
  os : w'.os = w.os
  tape : w'.tape = w.tape
  output : w'.output = w.output
  size : w.heap.size ≤ w'.heap.size
  block : ∀ k, k < w.heap.size → ¬ F k → w'.heap[k]? = w.heap[k]?

theorem Wr.refl (F : Nat → Prop) (w : World) : Wr F w w := ⟨rfl, rfl, rfl, Nat.le_refl _, fun _ _ _ => rfl⟩
theorem Wr.trans {F G : Nat → Prop} {a b c : World} (h : Wr F a b) (k : Wr G b c) (hG : ∀ i, G i → F i ∨ a.heap.size ≤ i) : Wr F a c :=
  ⟨k.os.trans h.os, k.tape.trans h.tape, k.output.trans h.output, Nat.le_trans h.size k.size, fun i hi hf => (k.block i (Nat.lt_of_lt_of_le hi h.size) (fun hg => by rcases hG i hg with h1 | h1; exact hf h1; omega)).trans (h.block i hi hf)⟩
theorem Wr.mono {F G : Nat → Prop} {a b : World} (h : Wr F a b) (hG : ∀ i, F i → G i ∨ a.heap.size ≤ i) : Wr G a b :=
  (Wr.refl G a).trans h hG
theorem Wr.of_below {F : Nat → Prop} {w w' : World} (h : Below w.heap.size w w') : Wr F w w' := ⟨h.os, h.tape, h.output, h.size, fun k hk _ => h.block k hk⟩
theorem Wr.below {F : Nat → Prop} {w w' : World} {B : Nat} (h : Wr F w w') (hB : B ≤ w.heap.size) (hF : ∀ k, F k → B ≤ k) : Below B w w' :=
  ⟨h.os, h.tape, h.output, h.size, fun k hk => h.block k (by omega) (fun hf => by have := hF k hf; omega)⟩
theorem Wr.setCell {F : Nat → Prop} (w : World) (a : Addr) (v : Value) (hF : F a.block) : Wr F w (w.setCell a v) :=
  ⟨rfl, rfl, rfl, by simp, fun k _ hf => heap_setCell_other w a k v (fun e => hf (e ▸ hF))⟩
theorem Wr.grown {F : Nat → Prop} {w w' : World} {row : Option Nat} (hg : w.grownBy w' row) (hr : ∀ k, row = some k → F k) : Wr F w w' :=
  ⟨hg.os, hg.tape, hg.output, hg.size, fun k hk hf => hg.block k hk (fun e => hf (hr k e.symm))⟩

/-- A whole block: its cells, its element type; none frozen. -/
def Row (w : World) (g : Nat) (cs : Array Value) (t : TypeId) : Prop := w.heap[g]? = some (.cells cs t (0, 0))

theorem Row.lt {w : World} {g : Nat} {cs : Array Value} {t : TypeId} (h : Row w g cs t) : g < w.heap.size := by
  rcases Nat.lt_or_ge g w.heap.size with h' | h'
  · exact h'
  · unfold Row at h; rw [Array.getElem?_eq_none h'] at h; cases h
theorem Row.cell {w : World} {g : Nat} {cs : Array Value} {t : TypeId} {v : Value} {j : Nat} (h : Row w g cs t) (hj : cs[j]? = some v) : w.cell? ⟨g, j, none⟩ = some v := (cell_of_row w g j cs t (0, 0) h).trans hj
theorem Row.free {w : World} {g : Nat} {cs : Array Value} {t : TypeId} (h : Row w g cs t) (j : Nat) : w.frozen? ⟨g, j, none⟩ = false := frozen_of_row w g j cs t h
theorem Row.set {w : World} {g : Nat} {cs : Array Value} {t : TypeId} (h : Row w g cs t) (j : Nat) (v : Value) : Row (w.setCell ⟨g, j, none⟩ v) g (cs.setIfInBounds j v) t := heap_setCell_same w g j cs t v h
theorem Row.other {w : World} {g g' : Nat} {cs : Array Value} {t : TypeId} (h : Row w g cs t) (hne : g ≠ g') (j : Nat) (v : Value) : Row (w.setCell ⟨g', j, none⟩ v) g cs t := (heap_setCell_other w ⟨g', j, none⟩ g v hne).trans h
theorem Row.wr {F : Nat → Prop} {w w' : World} {g : Nat} {cs : Array Value} {t : TypeId} (h : Row w g cs t) (hw : Wr F w w') (hF : ¬ F g) : Row w' g cs t := (hw.block g h.lt hF).trans h
theorem Row.below {B : Nat} {w w' : World} {g : Nat} {cs : Array Value} {t : TypeId} (h : Row w g cs t) (hw : Below B w w') (hB : g < B) : Row w' g cs t := (hw.block g hB).trans h
theorem Row.new (w : World) (cs : Array Value) (t : TypeId) : Row (w.alloc (.cells cs t)) w.heap.size cs t := heap_alloc_new w _
theorem Row.new' {w : World} {g : Nat} (cs : Array Value) (t : TypeId) (hg : g = w.heap.size) : Row (w.alloc (.cells cs t)) g cs t := hg ▸ Row.new w cs t
theorem Row.alloc {w : World} {g : Nat} {cs : Array Value} {t : TypeId} (h : Row w g cs t) (o : Obj) : Row (w.alloc o) g cs t := (Below.heap_alloc w o g h.lt).trans h
theorem Row.drew {w : World} {g : Nat} {cs : Array Value} {t : TypeId} (h : Row w g cs t) : Row w.drew g cs t := h
theorem Row.ne {w : World} {g g' : Nat} {cs cs' : Array Value} {t t' : TypeId} (h : Row w g cs t) (h' : Row w g' cs' t') (ht : t ≠ t') : g ≠ g' := by
  rintro rfl
  unfold Row at h h'
  rw [h] at h'
  simp at h'
  exact ht h'.2

theorem ownsRow_wr {F : Nat → Prop} {w w' : World} {base : Nat} {e : TypeId} {size : Nat} {v : Value} {n : Nat} {xs : List Value} (h : w.ownsRow base e size v n xs) (hw : Wr F w w') (hF : ∀ g, v.ownBlock = some g → ¬ F g) : w'.ownsRow base e size v n xs := by
  obtain ⟨h1, h2⟩ := h
  refine ⟨h1, ?_⟩
  rcases h2 with h2 | ⟨g, cap, cur, hv, hg, hh, r⟩
  · exact Or.inl h2
  · subst hv
    exact Or.inr ⟨g, cap, cur, rfl, hg, Row.wr hh hw (hF g rfl), r⟩
theorem ownsRow_row {w : World} {base : Nat} {e : TypeId} {size : Nat} {v : Value} {n : Nat} {xs : List Value} {g : Nat} (h : w.ownsRow base e size v n xs) (hg : v.ownBlock = some g) : base ≤ g ∧ ∃ cs, Row w g cs e := by
  obtain ⟨_, h2⟩ := h
  rcases h2 with ⟨h2, _⟩ | ⟨g', cap, cur, hv, hb, hh, _⟩
  · subst h2; cases hg
  · subst hv
    simp only [Value.ownBlock, Option.some.injEq] at hg
    subst hg
    exact ⟨hb, cur, hh⟩
end Go.Proofs.Ytjkgpolikpochaa
namespace Go.Proofs.Ytjkgpolikpochaa
open Go.RowKit

theorem still_of_quiet {P : Program} {ops : Array Oper} {w : World} {Q : Act → Prop} : ∀ {l : List Oper} {a : Act}, wpQuiet P ops (fun w' => w' = w) Q l a → wpStill P ops w Q l a := by
  intro l
  induction l with
  | nil => intro a h; exact h
  | cons o rest ih =>
    intro a h
    unfold wpQuiet at h
    unfold wpStill
    split
    · rename_i hw
      rw [if_pos hw] at h
      obtain ⟨v, h1, h2⟩ := h
      have h3 := h1 w rfl
      unfold Oper.quietAt at h3
      unfold Oper.still
      generalize (execOp a.eval o).run P w = r at *
      cases r with
      | ok n w' =>
        cases n <;> simp only [Oper.quietUpon] at h3 <;> simp only [Oper.stillUpon]
        case value u => obtain ⟨e1, e2⟩ := h3; subst e2; exact ⟨e1, ih h2⟩
        case skip => obtain ⟨e1, e2⟩ := h3; subst e2; exact ⟨e1, ih h2⟩
        case enter f args => exact ⟨h3.1, v, h3.2, ih h2⟩
      | halt x w' => simp only [Oper.quietUpon] at h3
    · rename_i hw
      rw [if_neg hw] at h
      exact ih h
theorem still_tailq {P : Program} {id : Nat} {Q : Exit → Act → World → Prop} {a : Act} {w : World} {l : List Oper} (n : Nat) (hm : P.follows .mixedOrders = true) (hB : Region.lexTailB .any l.toArray n = true)
    (h : wpQuiet P l.toArray (fun w' => w' = w.drew) (fun a' => wpList P l.toArray Q (l.drop n) a' w.drew) (l.take n) a) : (Code.region id l.toArray true).wp P Q a w :=
  still_tail n hm hB (still_of_quiet h)
/-- What stands behind a code, as a letter: 'go_wp2' tries the return at each body's end, at great cost. -/
theorem wp_letter {P : Program} {c : Code} {a : Act} {w : World} {R : Exit → Act → World → Prop} (h : ∀ Q : Exit → Act → World → Prop, (∀ e a w, R e a w → Q e a w) → Code.wp P c Q a w) : Code.wp P c R a w :=
  h R (fun _ _ _ h => h)
theorem Wr.drewR {F : Nat → Prop} {w w1 : World} (h : Wr F w w1) : Wr F w w1.drew := h.trans (Wr.of_below (F := fun _ => False) (Below.refl _ _).drew) (fun _ h => h.elim)
theorem Wr.allocR {F : Nat → Prop} {w w1 : World} (h : Wr F w w1) (o : Obj) : Wr F w (w1.alloc o) := h.trans (Wr.of_below (F := fun _ => False) (below1 w1 o)) (fun _ h => h.elim)
theorem Wr.setR {F : Nat → Prop} {w w1 : World} (h : Wr F w w1) (r j : Nat) (v : Value) (hF : F r ∨ w.heap.size ≤ r) : Wr F w (w1.setCell ⟨r, j, none⟩ v) :=
  h.trans (Wr.setCell (F := fun b => b = r) w1 ⟨r, j, none⟩ v rfl) (fun _ h => h ▸ hF)
end Go.Proofs.Ytjkgpolikpochaa
