/- How Go's data lie in memory: rows, slices, trees. No program in sight but its name. No condition. Regions that draw their order and whose callees at most make new blocks; small words on worlds. No program in sight but its name. No condition. Worlds whose writes lie in a set of blocks; whole blocks. No program in sight but its name. No condition. The page's memory and ops (chapters 1, 6, 7), as plain functions. No program in sight. No condition. The page's memory: how it lies, and the walks of its reading functions. Conditions: as stated. The page's memory: an element's place. Conditions: as stated. The page's memory: whether two places may be compared. Conditions: as stated. The walks of num's ops of two numbers. The walks of the page's ops of one and of two numbers. No condition but those stated. The page's memory: loads. Conditions: as stated. The page's memory: an op of two values. Conditions: as stated. The page's memory: a number as it is stored; an op of values. Conditions: as stated. The page's machine: its state, how it lies in memory; stop, step. Conditions: as stated. The page's trees' values (chapters 6, 7), as plain functions. No program in sight. No condition. The page's machine (chapter 7), as plain functions: programs, objects made, stores, steps, calls, runs. No program in sight. No condition. Slices of trees. No program in sight. No condition. How a program lies in memory. No program in sight but its name. No condition. How a program of virtual code lies in memory. No program in sight but its name. No condition. -/
import Derived.Test.YtlenilbkifofjaaDoorNumLawZz
import Derived.Test.YtlenilbkifofjaaDoorRows
import Derived.WalkKit
import Derived.WalkSpells
import Derived.WalkLawsBesides
import Derived.Lib.Hide
import Derived.Deep.QuietTactic
import Derived.BigQuiet
import Derived.StillTailTactics
import Derived.Handy
import Derived.Deep.RegionWith
set_option linter.unusedVariables false
set_option linter.unusedSimpArgs false
namespace Go.Proofs.YtlenilbkifofjaaDoor
open Go.RowKit

theorem ret_i {k : IntKind} {a b : Int} (h : a = b) : Ending.returned (.int k a) = .returned (.int k b) := by rw [h]
theorem ret_b {a b : Bool} (h : a = b) : Ending.returned (.bool a) = .returned (.bool b) := by rw [h]

def In64 (n : Int) : Prop := -9223372036854775808 ≤ n ∧ n ≤ 9223372036854775807

theorem in64_of_wf {n : Int} (h : (Lit.int .i64 n).wf = true) : In64 n := by
  have h1 : IntKind.i64.min = -9223372036854775808 := rfl
  have h2 : IntKind.i64.max = 9223372036854775807 := rfl
  simp only [Lit.wf, Bool.and_eq_true, decide_eq_true_eq] at h
  unfold In64
  omega

/-- A tree of the middle language. -/
inductive T where
  | node (op n : Int) (kids : List T)

def T.op : T → Int | .node op _ _ => op
def T.n : T → Int | .node _ n _ => n
def T.kids : T → List T | .node _ _ ks => ks

mutual
def T.size : T → Nat
  | .node _ _ ks => 1 + T.sizes ks
def T.sizes : List T → Nat
  | [] => 0
  | k :: ks => k.size + T.sizes ks
end

theorem T.size_pos (t : T) : 0 < t.size := by cases t; simp [T.size]; omega
theorem T.sizes_get {ks : List T} {i : Nat} {k : T} (h : ks[i]? = some k) : k.size ≤ T.sizes ks := by
  induction ks generalizing i with
  | nil => simp at h
  | cons a r ih =>
    cases i with
    | zero => simp at h; subst h; simp [T.sizes]
    | succ i => simp at h; have := ih h; simp [T.sizes]; omega
theorem T.length_sizes (ks : List T) : ks.length ≤ T.sizes ks := by
  induction ks with
  | nil => simp
  | cons a r ih => have := a.size_pos; simp [T.sizes]; omega

mutual
/-- A tree as its three cells. 'C': what is known of the place of each row of kids. -/
def TreeAt (w : World) (C : Nat → Nat → Prop) : T → Value → Value → Value → Prop
  | .node op n ks, v0, v1, v2 => v0 = .int .i64 op ∧ v1 = .int .i64 n ∧ In64 op ∧ In64 n ∧ ks.length ≤ 9223372036854775807 ∧
      ∃ A cap, v2 = .slice A ks.length cap ∧ (0 < ks.length → ∃ b off, A = some ⟨b, off, none⟩ ∧ C b off ∧ KidsAt w C ks b off)
def KidsAt (w : World) (C : Nat → Nat → Prop) : List T → Nat → Nat → Prop
  | [], _, _ => True
  | k :: ks, b, off => (∃ v0 v1 v2, w.cell? ⟨b, off, none⟩ = some v0 ∧ w.cell? ⟨b, off + 1, none⟩ = some v1 ∧ w.cell? ⟨b, off + 2, none⟩ = some v2 ∧ TreeAt w C k v0 v1 v2) ∧ KidsAt w C ks b (off + 3)
end

theorem KidsAt.get {w : World} {C : Nat → Nat → Prop} {ks : List T} {b off i : Nat} {k : T} (h : KidsAt w C ks b off) (hk : ks[i]? = some k) :
    ∃ v0 v1 v2, w.cell? ⟨b, off + i * 3, none⟩ = some v0 ∧ w.cell? ⟨b, off + i * 3 + 1, none⟩ = some v1 ∧ w.cell? ⟨b, off + i * 3 + 2, none⟩ = some v2 ∧ TreeAt w C k v0 v1 v2 := by
  induction ks generalizing i off with
  | nil => simp at hk
  | cons a r ih =>
    simp only [KidsAt] at h
    cases i with
    | zero => simp at hk; subst hk; simpa using h.1
    | succ i =>
      simp at hk
      have := ih h.2 hk
      rw [show off + (i + 1) * 3 = off + 3 + i * 3 by omega]
      exact this

theorem KidsAt.of {w : World} {C : Nat → Nat → Prop} {ks : List T} {b off : Nat}
    (h : ∀ i k, ks[i]? = some k → ∃ v0 v1 v2, w.cell? ⟨b, off + i * 3, none⟩ = some v0 ∧ w.cell? ⟨b, off + i * 3 + 1, none⟩ = some v1 ∧ w.cell? ⟨b, off + i * 3 + 2, none⟩ = some v2 ∧ TreeAt w C k v0 v1 v2) : KidsAt w C ks b off := by
  induction ks generalizing off with
  | nil => simp [KidsAt]
  | cons a r ih =>
    simp only [KidsAt]
    refine ⟨by simpa using h 0 a rfl, ih fun i k hk => ?_⟩
    have := h (i + 1) k (by simpa using hk)
    rw [show off + (i + 1) * 3 = off + 3 + i * 3 by omega] at this
    exact this

mutual
/-- A tree stays where the cells at its places stay. -/
theorem TreeAt.keep {w w' : World} {C C' : Nat → Nat → Prop} (hC : ∀ b off, C b off → C' b off ∧ ∀ j, w'.cell? ⟨b, j, none⟩ = w.cell? ⟨b, j, none⟩) :
    ∀ (t : T) {v0 v1 v2 : Value}, TreeAt w C t v0 v1 v2 → TreeAt w' C' t v0 v1 v2
  | .node op n ks, v0, v1, v2, h => by
    simp only [TreeAt] at h ⊢
    obtain ⟨h0, h1, h2, h3, h4, A, cap, h5, h6⟩ := h
    refine ⟨h0, h1, h2, h3, h4, A, cap, h5, fun hp => ?_⟩
    obtain ⟨b, off, hA, hc, hk⟩ := h6 hp
    exact ⟨b, off, hA, (hC b off hc).1, KidsAt.keep hC ks (hC b off hc).2 hk⟩
theorem KidsAt.keep {w w' : World} {C C' : Nat → Nat → Prop} (hC : ∀ b off, C b off → C' b off ∧ ∀ j, w'.cell? ⟨b, j, none⟩ = w.cell? ⟨b, j, none⟩) :
    ∀ (ks : List T) {b off : Nat}, (∀ j, w'.cell? ⟨b, j, none⟩ = w.cell? ⟨b, j, none⟩) → KidsAt w C ks b off → KidsAt w' C' ks b off
  | [], b, off, _, _ => by simp [KidsAt]
  | k :: ks, b, off, hb, h => by
    simp only [KidsAt] at h ⊢
    obtain ⟨⟨v0, v1, v2, c0, c1, c2, ht⟩, hr⟩ := h
    exact ⟨⟨v0, v1, v2, by rw [hb]; exact c0, by rw [hb]; exact c1, by rw [hb]; exact c2, TreeAt.keep hC k ht⟩, KidsAt.keep hC ks hb hr⟩
end

/-- Below a block's number. -/
def Under (B : Nat) : Nat → Nat → Prop := fun b _ => b < B

theorem TreeAt.below {w w' : World} {B B' : Nat} {t : T} {v0 v1 v2 : Value} (h : TreeAt w (Under B) t v0 v1 v2) (hb : Below B w w') (hB : B ≤ B') : TreeAt w' (Under B') t v0 v1 v2 :=
  TreeAt.keep (fun b off (hc : b < B) => ⟨Nat.lt_of_lt_of_le hc hB, fun j => hb.cell (p := ⟨b, j, none⟩) hc⟩) t h
end Go.Proofs.YtlenilbkifofjaaDoor
namespace Go.Proofs.YtlenilbkifofjaaDoor
open Go.RowKit

theorem still_tail {P : Program} {id : Nat} {Q : Exit → Act → World → Prop} {a : Act} {w : World} {l : List Oper} (n : Nat) (hm : P.follows .mixedOrders = true) (hB : Region.lexTailB .any l.toArray n = true)
    (h : wpStill P l.toArray w.drew (fun a' => wpList P l.toArray Q (l.drop n) a' w.drew) (l.take n) a) : (Code.region id l.toArray true).wp P Q a w := wp_region_still_tail n hm hB h

theorem bcell {W w1 : World} (hb : Below W.heap.size W w1) : (∀ b o, b < W.heap.size → w1.cell? ⟨b, o, none⟩ = W.cell? ⟨b, o, none⟩) ∧ (∀ b o, b < W.heap.size → w1.frozen? ⟨b, o, none⟩ = W.frozen? ⟨b, o, none⟩) :=
  ⟨fun b o h => hb.cell (p := ⟨b, o, none⟩) h, fun b o h => hb.frozen (p := ⟨b, o, none⟩) h⟩

/-- Worlds that have at most new blocks. -/
def Grows (W : World) : Type := { u : World // Below W.heap.size W u }
instance (W : World) : Nonempty (Grows W) := ⟨⟨W, Below.refl _ _⟩⟩

/-- A region that draws its order, whose operations only read and whose callees at most make new blocks: one walk in the text's order. -/
theorem region_grow {P : Program} {id : Nat} {Q : Exit → Act → World → Prop} {a : Act} {W : World} {l : List Oper} (hm : P.follows .mixedOrders = true) (hB : Region.lexB .any l.toArray = true)
    (h : (∀ (u : Grows W) (b o : Nat), b < W.heap.size → u.1.cell? ⟨b, o, none⟩ = W.cell? ⟨b, o, none⟩) → wpQuiet P l.toArray (fun w' => ∃ u : Grows W, w' = u.1) (fun a' => ∀ u : Grows W, Q .normal a' u.1) l a) : (Code.region id l.toArray true).wp P Q a W := by
  have h' := h (fun u b o hb => u.2.cell (p := ⟨b, o, none⟩) hb)
  refine wp_region_quiet (C := fun w' => ∃ u : Grows W, w' = u.1) hm hB ⟨⟨W.drew, (Below.refl _ _).drew⟩, rfl⟩ ?_
  have e : (fun a' => ∀ w', (∃ u : Grows W, w' = u.1) → Q .normal a' w') = (fun a' => ∀ u : Grows W, Q .normal a' u.1) := by
    funext a'
    exact propext ⟨fun hh u => hh _ ⟨u, rfl⟩, fun hh w' ⟨u, hu⟩ => by rw [hu]; exact hh u⟩
  rw [e]
  simpa using h'

theorem call_grow {P : Program} {f : FuncId} {args : Array Value} {W : World} {u : Grows W} {v : Value}
    (h : Calls P f args u.1 fun e w' => e = .returned v ∧ Below u.1.heap.size u.1 w') : Calls P f args u.1 fun e w'' => e = .returned v ∧ ∃ u' : Grows W, w'' = u'.1 :=
  h.mono fun _ w' ⟨he, hb⟩ => ⟨he, ⟨w', u.2.trans (hb.mono u.2.size)⟩, rfl⟩
theorem call_grow_same {P : Program} {f : FuncId} {args : Array Value} {W : World} {u : Grows W} {v : Value}
    (h : Calls P f args u.1 fun e w' => e = .returned v ∧ u.1 = w') : Calls P f args u.1 fun e w'' => e = .returned v ∧ ∃ u' : Grows W, w'' = u'.1 :=
  h.mono fun _ _ ⟨he, hb⟩ => ⟨he, u, hb.symm⟩
theorem call_grow_drew {P : Program} {f : FuncId} {args : Array Value} {W : World} {u : Grows W} {v : Value}
    (h : Calls P f args u.1 fun e w' => e = .returned v ∧ ∃ n, w' = u.1.drewN n) : Calls P f args u.1 fun e w'' => e = .returned v ∧ ∃ u' : Grows W, w'' = u'.1 :=
  h.mono fun _ w' ⟨he, n, hb⟩ => ⟨he, ⟨w', by rw [hb]; exact below_drewN u.2 n⟩, rfl⟩

theorem below2 (w : World) (o1 o2 : Obj) : Below w.heap.size w ((w.alloc o1).alloc o2) := ((Below.refl _ _).alloc (Nat.le_refl _) o1).alloc (by simp) o2

theorem cell_below {w w' : World} {B b o : Nat} {u : Value} (h : w.cell? ⟨b, o, none⟩ = some u) (hb : Below B w w') (hlt : b < B) : w'.cell? ⟨b, o, none⟩ = some u := (hb.cell (p := ⟨b, o, none⟩) hlt).trans h

theorem below1 (w : World) (o1 : Obj) : Below w.heap.size w (w.alloc o1) := (Below.refl _ _).alloc (Nat.le_refl _) o1

theorem quiet_d2 {P : Program} {f : FuncId} {args : Array Value} {w : World} {a n : Nat} {v : Value}
    (h : Calls P f args (w.drewN (a + n)) fun e w' => e = .returned v ∧ ∃ m, w' = (w.drewN (a + n)).drewN m) : Calls P f args (w.drewN (a + n)) fun e w'' => e = .returned v ∧ ∃ m, w'' = w.drewN (a + m) :=
  h.mono fun _ _ ⟨he, m, hm⟩ => ⟨he, n + m, by rw [hm, World.drewN_drewN, Nat.add_assoc]⟩

theorem grow_below {B : Nat} {w W : World} (h : Below B w W) (hB : B ≤ W.heap.size) (u : Grows W) : Below B w u.1 := h.trans (u.2.mono hB)
theorem below3 (w : World) (o1 o2 o3 : Obj) : Below w.heap.size w (((w.alloc o1).alloc o2).alloc o3) := (below2 w o1 o2).alloc (by simp; omega) o3

end Go.Proofs.YtlenilbkifofjaaDoor
namespace Go.Proofs.YtlenilbkifofjaaDoor
open Go.RowKit

/-- w' is w but for new blocks and for the blocks in F. -/
structure Wr (F : Nat → Prop) (w w' : World) : Prop where
  os : w'.os = w.os
  tape : w'.tape = w.tape
  output : w'.output = w.output
  size : w.heap.size ≤ w'.heap.size
  block : ∀ k, k < w.heap.size → ¬ F k → w'.heap[k]? = w.heap[k]?

theorem Wr.refl (F : Nat → Prop) (w : World) : Wr F w w := ⟨rfl, rfl, rfl, Nat.le_refl _, fun _ _ _ => rfl⟩
theorem Wr.trans {F G : Nat → Prop} {a b c : World} (h : Wr F a b) (k : Wr G b c) (hG : ∀ i, G i → F i ∨ a.heap.size ≤ i) : Wr F a c :=
  ⟨k.os.trans h.os, k.tape.trans h.tape, k.output.trans h.output, Nat.le_trans h.size k.size, fun i hi hf => (k.block i (Nat.lt_of_lt_of_le hi h.size) (fun hg => by rcases hG i hg with h1 | h1; exact hf h1; omega)).trans (h.block i hi hf)⟩
theorem Wr.mono {F G : Nat → Prop} {a b : World} (h : Wr F a b) (hG : ∀ i, F i → G i ∨ a.heap.size ≤ i) : Wr G a b :=
  (Wr.refl G a).trans h hG
theorem Wr.of_below {F : Nat → Prop} {w w' : World} (h : Below w.heap.size w w') : Wr F w w' := ⟨h.os, h.tape, h.output, h.size, fun k hk _ => h.block k hk⟩
theorem Wr.below {F : Nat → Prop} {w w' : World} {B : Nat} (h : Wr F w w') (hB : B ≤ w.heap.size) (hF : ∀ k, F k → B ≤ k) : Below B w w' :=
  ⟨h.os, h.tape, h.output, h.size, fun k hk => h.block k (by omega) (fun hf => by have := hF k hf; omega)⟩
theorem Wr.setCell {F : Nat → Prop} (w : World) (a : Addr) (v : Value) (hF : F a.block) : Wr F w (w.setCell a v) :=
  ⟨rfl, rfl, rfl, by simp, fun k _ hf => heap_setCell_other w a k v (fun e => hf (e ▸ hF))⟩
theorem Wr.grown {F : Nat → Prop} {w w' : World} {row : Option Nat} (hg : w.grownBy w' row) (hr : ∀ k, row = some k → F k) : Wr F w w' :=
  ⟨hg.os, hg.tape, hg.output, hg.size, fun k hk hf => hg.block k hk (fun e => hf (hr k e.symm))⟩

/-- A whole block: its cells, its element type; none frozen. -/
def Row (w : World) (g : Nat) (cs : Array Value) (t : TypeId) : Prop := w.heap[g]? = some (.cells cs t (0, 0))

theorem Row.lt {w : World} {g : Nat} {cs : Array Value} {t : TypeId} (h : Row w g cs t) : g < w.heap.size := by
  rcases Nat.lt_or_ge g w.heap.size with h' | h'
  · exact h'
  · unfold Row at h; rw [Array.getElem?_eq_none h'] at h; cases h
theorem Row.cell {w : World} {g : Nat} {cs : Array Value} {t : TypeId} {v : Value} {j : Nat} (h : Row w g cs t) (hj : cs[j]? = some v) : w.cell? ⟨g, j, none⟩ = some v := (cell_of_row w g j cs t (0, 0) h).trans hj
theorem Row.free {w : World} {g : Nat} {cs : Array Value} {t : TypeId} (h : Row w g cs t) (j : Nat) : w.frozen? ⟨g, j, none⟩ = false := frozen_of_row w g j cs t h
theorem Row.set {w : World} {g : Nat} {cs : Array Value} {t : TypeId} (h : Row w g cs t) (j : Nat) (v : Value) : Row (w.setCell ⟨g, j, none⟩ v) g (cs.setIfInBounds j v) t := heap_setCell_same w g j cs t v h
theorem Row.other {w : World} {g g' : Nat} {cs : Array Value} {t : TypeId} (h : Row w g cs t) (hne : g ≠ g') (j : Nat) (v : Value) : Row (w.setCell ⟨g', j, none⟩ v) g cs t := (heap_setCell_other w ⟨g', j, none⟩ g v hne).trans h
theorem Row.wr {F : Nat → Prop} {w w' : World} {g : Nat} {cs : Array Value} {t : TypeId} (h : Row w g cs t) (hw : Wr F w w') (hF : ¬ F g) : Row w' g cs t := (hw.block g h.lt hF).trans h
theorem Row.below {B : Nat} {w w' : World} {g : Nat} {cs : Array Value} {t : TypeId} (h : Row w g cs t) (hw : Below B w w') (hB : g < B) : Row w' g cs t := (hw.block g hB).trans h
theorem Row.new (w : World) (cs : Array Value) (t : TypeId) : Row (w.alloc (.cells cs t)) w.heap.size cs t := heap_alloc_new w _
theorem Row.new' {w : World} {g : Nat} (cs : Array Value) (t : TypeId) (hg : g = w.heap.size) : Row (w.alloc (.cells cs t)) g cs t := hg ▸ Row.new w cs t
theorem Row.alloc {w : World} {g : Nat} {cs : Array Value} {t : TypeId} (h : Row w g cs t) (o : Obj) : Row (w.alloc o) g cs t := (Below.heap_alloc w o g h.lt).trans h
theorem Row.drew {w : World} {g : Nat} {cs : Array Value} {t : TypeId} (h : Row w g cs t) : Row w.drew g cs t := h
theorem Row.ne {w : World} {g g' : Nat} {cs cs' : Array Value} {t t' : TypeId} (h : Row w g cs t) (h' : Row w g' cs' t') (ht : t ≠ t') : g ≠ g' := by
  rintro rfl
  unfold Row at h h'
  rw [h] at h'
  simp at h'
  exact ht h'.2

theorem ownsRow_wr {F : Nat → Prop} {w w' : World} {base : Nat} {e : TypeId} {size : Nat} {v : Value} {n : Nat} {xs : List Value} (h : w.ownsRow base e size v n xs) (hw : Wr F w w') (hF : ∀ g, v.ownBlock = some g → ¬ F g) : w'.ownsRow base e size v n xs := by
  obtain ⟨h1, h2⟩ := h
  refine ⟨h1, ?_⟩
  rcases h2 with h2 | ⟨g, cap, cur, hv, hg, hh, r⟩
  · exact Or.inl h2
  · subst hv
    exact Or.inr ⟨g, cap, cur, rfl, hg, Row.wr hh hw (hF g rfl), r⟩
theorem ownsRow_row {w : World} {base : Nat} {e : TypeId} {size : Nat} {v : Value} {n : Nat} {xs : List Value} {g : Nat} (h : w.ownsRow base e size v n xs) (hg : v.ownBlock = some g) : base ≤ g ∧ ∃ cs, Row w g cs e := by
  obtain ⟨_, h2⟩ := h
  rcases h2 with ⟨h2, _⟩ | ⟨g', cap, cur, hv, hb, hh, _⟩
  · subst h2; cases hg
  · subst hv
    simp only [Value.ownBlock, Option.some.injEq] at hg
    subst hg
    exact ⟨hb, cur, hh⟩
end Go.Proofs.YtlenilbkifofjaaDoor
namespace Go.Proofs.YtlenilbkifofjaaDoor
open Go.RowKit

/-- A value: a number, or (obj above 0) a place. -/
structure V where
  obj : Nat
  n : Int
deriving DecidableEq

/-- An object: its elements' bytes, its elements, whether it is alive. -/
structure MO where
  size : Int
  l : List V
  live : Bool

def MO.bytes (o : MO) : Int := o.size * o.l.length

def mget (M : List MO) (k : Nat) : MO := M.getD k ⟨0, [], false⟩

/-- A place moved by so many bytes. -/
def movedF (M : List MO) (a : V) (n : Int) : Option V :=
  if (mget M a.obj).live = true ∧ ¬ n < -a.n ∧ ¬ n > (mget M a.obj).bytes - a.n then some ⟨a.obj, a.n + n⟩ else none

def cmpF (M : List MO) (a b : V) : Bool :=
  (mget M a.obj).live && (mget M b.obj).live && (decide (a.obj = b.obj) || (decide (a.n < (mget M a.obj).bytes) && decide (b.n < (mget M b.obj).bytes)))

/-- An op of two values. -/
def binF (two : Int → Int → Int → Int) (M : List MO) (op : Int) (a b : V) : Option V :=
  if a.obj = 0 ∧ b.obj = 0 then some ⟨0, two op a.n b.n⟩
  else if op = 12 ∧ a.obj = 0 then movedF M b a.n
  else if op = 12 ∧ b.obj = 0 then movedF M a b.n
  else if op = 13 ∧ b.obj = 0 then if b.n = -9223372036854775808 then none else movedF M a (-b.n)
  else if op = 25 ∨ op = 26 then
    if a.obj = 0 ∧ a.n ≠ 0 ∨ b.obj = 0 ∧ b.n ≠ 0 then none
    else if a.obj > 0 ∧ b.obj > 0 ∧ cmpF M a b = false then none
    else some ⟨0, two op (if a = b then 1 else 0) 1⟩
  else if a.obj ≠ b.obj ∨ (mget M a.obj).live = false ∨ (op ≠ 13 ∧ ¬ (27 ≤ op ∧ op ≤ 30)) then none
  else some ⟨0, two op a.n b.n⟩
end Go.Proofs.YtlenilbkifofjaaDoor
namespace Go.Proofs.YtlenilbkifofjaaDoor
open Go.RowKit

/-- An element's two cells. -/
def ValCells (w : World) (b off : Nat) (v : V) : Prop := w.cell? ⟨b, off, none⟩ = some (.int .i64 v.obj) ∧ w.cell? ⟨b, off + 1, none⟩ = some (.int .i64 v.n)

/-- The elements of an object: where they lie. -/
def RowV (w : World) (B : Nat) (A : Option Addr) (l : List V) : Prop :=
  ∀ j v, l[j]? = some v → ∃ b off, A = some ⟨b, off, none⟩ ∧ b < B ∧ ValCells w b (off + j * 2) v

/-- The page's memory, read: a row of objects of three cells. -/
def ObjR (w : World) (B mb mo k : Nat) (o : MO) : Prop :=
  ∃ A len cap, w.cell? ⟨mb, mo + k * 3, none⟩ = some (.int .i64 o.size) ∧ w.cell? ⟨mb, mo + k * 3 + 1, none⟩ = some (.slice A len cap) ∧ w.cell? ⟨mb, mo + k * 3 + 2, none⟩ = some (.bool o.live) ∧
    o.l.length = len ∧ len ≤ 64 ∧ 0 ≤ o.size ∧ o.size ≤ 8 ∧ RowV w B A o.l

def MemR (w : World) (B : Nat) (A : Option Addr) (n : Nat) (M : List MO) : Prop :=
  M.length = n ∧ n ≤ 4294967296 ∧ ∀ k o, M[k]? = some o → ∃ mb mo, A = some ⟨mb, mo, none⟩ ∧ mb < B ∧ ObjR w B mb mo k o

theorem mget_of {M : List MO} {k : Nat} (h : k < M.length) : M[k]? = some (mget M k) := by
  unfold mget
  rw [List.getD_eq_getElem?_getD, List.getElem?_eq_getElem h]
  rfl

theorem MemR.get {w : World} {B n : Nat} {A : Option Addr} {M : List MO} (h : MemR w B A n M) {k : Nat} (hk : k < n) :
    ∃ mb mo, A = some ⟨mb, mo, none⟩ ∧ mb < B ∧ ObjR w B mb mo k (mget M k) :=
  h.2.2 k _ (mget_of (by rw [h.1]; exact hk))

theorem MO.bytes_bd {o : MO} (h0 : 0 ≤ o.size) (h1 : o.size ≤ 8) (h2 : o.l.length ≤ 64) : 0 ≤ o.bytes ∧ o.bytes ≤ 512 := by
  unfold MO.bytes
  constructor
  · exact Int.mul_nonneg h0 (by omega)
  · have h3 : o.size * (o.l.length : Int) ≤ 8 * (o.l.length : Int) := Int.mul_le_mul_of_nonneg_right h1 (by omega)
    omega

theorem ValCells.below {w w' : World} {B b off : Nat} {v : V} (h : ValCells w b off v) (hb : Below B w w') (hlt : b < B) : ValCells w' b off v :=
  ⟨(hb.cell (p := ⟨b, off, none⟩) hlt).trans h.1, (hb.cell (p := ⟨b, off + 1, none⟩) hlt).trans h.2⟩
theorem RowV.below {w w' : World} {B B' : Nat} {A : Option Addr} {l : List V} (h : RowV w B A l) (hb : Below B w w') (hB : B ≤ B') : RowV w' B' A l := by
  intro j v hj
  obtain ⟨b, off, hA, hlt, hc⟩ := h j v hj
  exact ⟨b, off, hA, by omega, hc.below hb hlt⟩
theorem MemR.below {w w' : World} {B B' n : Nat} {A : Option Addr} {M : List MO} (h : MemR w B A n M) (hb : Below B w w') (hB : B ≤ B') : MemR w' B' A n M := by
  refine ⟨h.1, h.2.1, fun k o hk => ?_⟩
  obtain ⟨mb, mo, hA, hlt, A', len, cap, c0, c1, c2, h1, h2, h3, h4, h5⟩ := h.2.2 k o hk
  exact ⟨mb, mo, hA, by omega, A', len, cap, (hb.cell (p := ⟨mb, mo + k * 3, none⟩) hlt).trans c0, (hb.cell (p := ⟨mb, mo + k * 3 + 1, none⟩) hlt).trans c1, (hb.cell (p := ⟨mb, mo + k * 3 + 2, none⟩) hlt).trans c2, h1, h2, h3, h4, h5.below hb hB⟩

/-- What an answer of a value and a bool is. -/
def ansV : Option V → Value
  | some v => .tuple #[.agg #[.int .i64 v.obj, .int .i64 v.n], .bool true]
  | none => .tuple #[.agg #[.int .i64 0, .int .i64 0], .bool false]

end Go.Proofs.YtlenilbkifofjaaDoor
namespace Go.Proofs.YtlenilbkifofjaaDoor
open Go.RowKit

theorem div_lt_of_bytes {x s len : Nat} (h : x < s * len) : x / s < len := by
  exact Nat.div_lt_of_lt_mul h

/-- The number of the element at a place, if there is one of so many bytes. -/
def atF (M : List MO) (a : V) (s : Nat) : Option Nat :=
  if 0 < a.obj ∧ (mget M a.obj).live = true ∧ (mget M a.obj).size = s ∧ a.n % s = 0 ∧ a.n < (mget M a.obj).bytes then some (a.n.toNat / s) else none

theorem atF_pos {M : List MO} {a : V} {s j : Nat} (h : atF M a s = some j) : a.obj ≠ 0 := by
  unfold atF at h
  intro h0
  simp [h0] at h

theorem atF_lt {M : List MO} {a : V} {s j : Nat} (hF : atF M a s = some j) (hx0 : 0 ≤ a.n) : 0 < a.obj ∧ (mget M a.obj).live = true ∧ (mget M a.obj).size = s ∧ j < (mget M a.obj).l.length := by
  unfold atF at hF
  by_cases hh : 0 < a.obj ∧ (mget M a.obj).live = true ∧ (mget M a.obj).size = s ∧ a.n % s = 0 ∧ a.n < (mget M a.obj).bytes
  · rw [if_pos hh] at hF
    obtain ⟨hk0, hd, hz, ho, hf⟩ := hh
    simp only [Option.some.injEq] at hF
    subst hF
    refine ⟨hk0, hd, hz, div_lt_of_bytes ?_⟩
    unfold MO.bytes at hf
    rw [hz] at hf
    have e : ((s * (mget M a.obj).l.length : Nat) : Int) = (s : Int) * ((mget M a.obj).l.length : Int) := by simp
    have hp : 0 ≤ (s : Int) * ((mget M a.obj).l.length : Int) := by rw [← e]; exact Int.natCast_nonneg _
    omega
  · rw [if_neg hh] at hF
    cases hF
end Go.Proofs.YtlenilbkifofjaaDoor
namespace Go.Proofs.YtlenilbkifofjaaDoor
open Go.RowKit

end Go.Proofs.YtlenilbkifofjaaDoor
namespace Go.Proofs.YtlenilbkifofjaaDoor
open Go.RowKit

theorem ret_ib {k : IntKind} {a b : Int} {c d : Bool} (h : a = b) (h' : c = d) : Ending.returned (.tuple #[.int k a, .bool c]) = .returned (.tuple #[.int k b, .bool d]) := by rw [h, h']
theorem ret_ii {k k' : IntKind} {a b : Int} {c d : Int} (h : a = b) (h' : c = d) : Ending.returned (.tuple #[.int k a, .int k' c]) = .returned (.tuple #[.int k b, .int k' d]) := by rw [h, h']

def partsQ (a b : Int) : Int := if b = 0 then -1 else if a = -9223372036854775808 ∧ b = -1 then a else wrap64 (a.tdiv b)
def partsR (a b : Int) : Int := if b = 0 then a else if a = -9223372036854775808 ∧ b = -1 then 0 else a.tmod b
def wholeQ (a b : Int) : Int := if b = 0 then -1 else wrap64 (IntKind.u64.wrap (a.tdiv b))
def wholeR (a b : Int) : Int := if b = 0 then wrap64 a else wrap64 (a % b)

def divR (op a b : Int) : Int :=
  if op = 15 then partsQ a b else if op = 17 then partsR a b else if op = 16 then wholeQ (IntKind.u64.wrap a) (IntKind.u64.wrap b) else if op = 18 then wholeR (IntKind.u64.wrap a) (IntKind.u64.wrap b) else 0
def isDiv (op : Int) : Bool := decide (op = 15 ∨ op = 16 ∨ op = 17 ∨ op = 18)

theorem u64_pos (n : Int) : 0 ≤ IntKind.u64.wrap n := wrap_u64_nonneg n

/-- Whether a comparison holds (25 to 30). -/
def cmpR (op a b : Int) : Bool :=
  if op = 25 then a == b else if op = 26 then a != b else if op = 27 then decide (a < b) else if op = 28 then decide (IntKind.u64.wrap a < IntKind.u64.wrap b) else if op = 29 then decide (a ≤ b) else decide (IntKind.u64.wrap a ≤ IntKind.u64.wrap b)

theorem by_bd (b : Int) : 0 ≤ bits .and .u64 (IntKind.u64.wrap b) 63 := by
  rw [IntKind.wrap_u64, u64_and _ _ (by omega) (by omega) (by omega) (by omega)]
  omega

/-- 1, if it is so. -/
def tru (t : Bool) : Int := if t then 1 else 0
/-- The count of a shift. -/
def byR (b : Int) : Int := bits .and .u64 (IntKind.u64.wrap b) 63
/-- What an op of two comes to (12 to 30). -/
def twoR (op a b : Int) : Int :=
  if op = 12 then wrap64 (a + b) else if op = 13 then wrap64 (a - b) else if op = 14 then wrap64 (a * b)
  else if op = 19 then bits .and .i64 a b else if op = 20 then bits .or .i64 a b else if op = 21 then bits .xor .i64 a b
  else if op = 22 then wrap64 (a * 2 ^ min (byR b).toNat 64) else if op = 23 then wrap64 (IntKind.u64.wrap a / 2 ^ min (byR b).toNat 64) else if op = 24 then a / 2 ^ min (byR b).toNat 64
  else if isDiv op then divR op a b else tru (cmpR op a b)

end Go.Proofs.YtlenilbkifofjaaDoor
namespace Go.Proofs.YtlenilbkifofjaaDoor
open Go.RowKit

theorem isBin_any (op : Int) (w : World) :
    Calls Tryd.prog 83 #[.int .i64 op] w fun e w' => e = .returned (.bool (decide (12 ≤ op ∧ op ≤ 30))) ∧ w = w' := by
  go_enter Tryd.func83, Tryd.ntmps83
  go_wp2
  all_goals go_ret
  · exact ⟨ret_b (by simp [*]), rfl⟩
  · exact ⟨ret_b (by simp; omega), rfl⟩

theorem u64_zero (b : Int) (h0 : -9223372036854775808 ≤ b) (h1 : b ≤ 9223372036854775807) (h : b ≠ 0) : ¬ IntKind.u64.wrap b = 0 := by
  rw [IntKind.wrap_u64]; omega

theorem tmod_m1 (a : Int) : a.tmod (-1) = 0 := by
  rw [Int.tmod_neg]; simp

theorem wrap_u64_back (a : Int) (h0 : -9223372036854775808 ≤ a) (h1 : a ≤ 9223372036854775807) : wrap64 (IntKind.u64.wrap a) = a := by
  rw [IntKind.wrap_u64]; unfold wrap64; omega

theorem u64_of_zero : IntKind.u64.wrap 0 = 0 := by decide

theorem two15z (a : Int) : twoR 15 a 0 = -1 := by simp [twoR, isDiv, divR, partsQ]

theorem two16z (a : Int) : twoR 16 a 0 = -1 := by simp [twoR, isDiv, divR, wholeQ, u64_of_zero]

theorem two17z (a : Int) : twoR 17 a 0 = a := by simp [twoR, isDiv, divR, partsR]

theorem two18z (a : Int) (h0 : -9223372036854775808 ≤ a) (h1 : a ≤ 9223372036854775807) : twoR 18 a 0 = a := by simp [twoR, isDiv, divR, wholeR, u64_of_zero, wrap_u64_back a h0 h1]

theorem two15m (a : Int) (h : a = -9223372036854775808) : twoR 15 a (-1) = a := by simp [twoR, isDiv, divR, partsQ, h]

theorem two15n (a : Int) (h : ¬ a = -9223372036854775808) : twoR 15 a (-1) = wrap64 (-a) := by simp [twoR, isDiv, divR, partsQ, h]

theorem two17m (a : Int) : twoR 17 a (-1) = 0 := by
  have h := tmod_m1 a
  simp [twoR, isDiv, divR, partsR, h]

theorem isUn_any (op : Int) (w : World) :
    Calls Tryd.prog 84 #[.int .i64 op] w fun e w' => e = .returned (.bool (decide (31 ≤ op ∧ op ≤ 36))) ∧ w = w' := by
  go_enter Tryd.func84, Tryd.ntmps84
  go_wp2
  all_goals go_ret
  · exact ⟨ret_b (by simp [*]), rfl⟩
  · exact ⟨ret_b (by simp; omega), rfl⟩

end Go.Proofs.YtlenilbkifofjaaDoor
namespace Go.Proofs.YtlenilbkifofjaaDoor
open Go.RowKit

/-- A load's bytes. -/
def sizeL (op : Int) : Nat := if op = 5 ∨ op = 9 then 1 else if op = 6 ∨ op = 10 then 2 else if op = 7 ∨ op = 11 then 4 else 8
/-- A number that is loaded. -/
def loadedF (op n : Int) : Int := if op = 8 then n else cutN (8 * sizeL op) (decide (op ≤ 8)) n

theorem loads_seven {op : Int} (h0 : 5 ≤ op) (h1 : op ≤ 11) : op = 5 ∨ op = 6 ∨ op = 7 ∨ op = 8 ∨ op = 9 ∨ op = 10 ∨ op = 11 := by omega

theorem isLoad_any (op : Int) (w : World) :
    Calls Tryd.prog 85 #[.int .i64 op] w fun e w' => e = .returned (.bool (decide (5 ≤ op ∧ op ≤ 11))) ∧ w = w' := by
  go_enter Tryd.func85, Tryd.ntmps85
  go_wp2
  all_goals go_ret
  · exact ⟨ret_b (by simp [*]), rfl⟩
  · exact ⟨ret_b (by simp; omega), rfl⟩

theorem sizeL_bd (op : Int) : 1 ≤ sizeL op ∧ sizeL op ≤ 8 := by unfold sizeL; (repeat' split) <;> omega

/-- A load. -/
def loadF (M : List MO) (op : Int) (a : V) : Option V :=
  match atF M a (sizeL op) with
  | none => none
  | some j =>
    let v := (mget M a.obj).l.getD j ⟨0, 0⟩
    if 0 < v.obj then if op = 8 then some v else none else some ⟨0, loadedF op v.n⟩

end Go.Proofs.YtlenilbkifofjaaDoor
namespace Go.Proofs.YtlenilbkifofjaaDoor
open Go.RowKit

theorem tru_in (t : Bool) : -9223372036854775808 ≤ tru t ∧ tru t ≤ 9223372036854775807 := by cases t <;> decide

theorem V.same {a b : V} (h : a.obj = b.obj) : b = ⟨a.obj, b.n⟩ := by cases a; cases b; simp_all
end Go.Proofs.YtlenilbkifofjaaDoor
namespace Go.Proofs.YtlenilbkifofjaaDoor
open Go.RowKit

/-- A number as it is stored in so many bytes. -/
def storedF (s : Nat) (n : Int) : Int := if s = 8 then n else cutN (8 * s) true n

/-- An op of values that are ready. -/
def applyF (M : List MO) (op : Int) (l : List V) : Option V :=
  if 5 ≤ op ∧ op ≤ 11 then loadF M op (l.getD 0 ⟨0, 0⟩)
  else if 31 ≤ op ∧ op ≤ 36 then if (l.getD 0 ⟨0, 0⟩).obj = 0 then some ⟨0, unR op (l.getD 0 ⟨0, 0⟩).n⟩ else none
  else binF twoR M op (l.getD 0 ⟨0, 0⟩) (l.getD 1 ⟨0, 0⟩)

theorem below_two {B b : Nat} {w w1 : World} (h : Below B w w1) (hb : B ≤ b) (u v : Value) : Below B w ((w1.setCell ⟨b, 0, none⟩ u).setCell ⟨b, 1, none⟩ v) :=
  Below.setCell (p := ⟨b, 1, none⟩) (Below.setCell (p := ⟨b, 0, none⟩) h hb u) hb v

/-- A value that may be, in a memory of so many objects. -/
def VOk (n : Nat) (v : V) : Prop := v.obj < n ∧ (v.obj ≠ 0 → 0 ≤ v.n ∧ v.n ≤ 512) ∧ In64 v.n
/-- The same, where there may be none. -/
def VOkW (n : Nat) (v : V) : Prop := (v.obj ≠ 0 → v.obj < n) ∧ (v.obj ≠ 0 → 0 ≤ v.n ∧ v.n ≤ 512) ∧ In64 v.n
theorem VOk.weak {n : Nat} {v : V} (h : VOk n v) : VOkW n v := ⟨fun _ => h.1, h.2⟩

/-- An answer of a value and a bool, the value told only where the bool is true. -/
def AnsV (r : Option V) (e : Ending) : Prop := match r with
  | some v => e = .returned (ansV (some v))
  | none => ∃ x y : Int, e = .returned (.tuple #[.agg #[.int .i64 x, .int .i64 y], .bool false])

theorem AnsV.of {r : Option V} {e : Ending} (h : e = .returned (ansV r)) : AnsV r e := by
  cases r with
  | none => exact ⟨0, 0, h⟩
  | some v => exact h

end Go.Proofs.YtlenilbkifofjaaDoor
namespace Go.Proofs.YtlenilbkifofjaaDoor
open Go.RowKit

/-- What the machine holds. -/
structure St where
  inp : List Int
  kind : Int
  code : Int
  out : List Int
  steps : Int
  deep : Int
  calls : Int
  mem : List MO

def stopF (k : Int) (s : St) : St := if s.kind = 0 then { s with kind := k } else s
def stepF (fuel n : Int) (s : St) : Bool × St :=
  if s.kind = 0 then if n > fuel - s.steps then (false, { s with steps := fuel, kind := 2 }) else (true, { s with steps := s.steps + n }) else (false, s)

/-- A row of values. -/
def ValsIn (cs : Array Value) (l : List V) : Prop := cs.size = l.length * 2 ∧ ∀ j v, l[j]? = some v → cs[j * 2]? = some (.int .i64 v.obj) ∧ cs[j * 2 + 1]? = some (.int .i64 v.n)
/-- The numbers that come in: they lie below 'base'. -/
def InW (w : World) (base : Nat) (v : Value) (l : List Int) : Prop :=
  ∃ A cap, v = .slice A l.length cap ∧ l.length ≤ cap ∧ cap ≤ 9223372036854775807 ∧ (0 < l.length → ∃ b off, A = some ⟨b, off, none⟩ ∧ b < base ∧ ∀ j x, l[j]? = some x → w.cell? ⟨b, off + j, none⟩ = some (.int .i64 x) ∧ In64 x)

/-- An object's three cells in the row of objects. -/
def ObjIn (xs : List Value) (rb : Nat → Nat) (k : Nat) (o : MO) : Prop :=
  xs[k * 3]? = some (.int .i64 o.size) ∧ xs[k * 3 + 1]? = some (if k = 0 then .slice none 0 0 else .slice (some ⟨rb k, 0, none⟩) o.l.length o.l.length) ∧ xs[k * 3 + 2]? = some (.bool o.live)

/-- What is always true of the memory. -/
structure MemOk (M : List MO) : Prop where
  many : M.length ≤ 4294967296
  zero : ∀ o, M[0]? = some o → o = ⟨0, [], false⟩
  size : ∀ k o, 1 ≤ k → M[k]? = some o → (o.size = 1 ∨ o.size = 2 ∨ o.size = 4 ∨ o.size = 8) ∧ o.l.length ≤ 64
  vals : ∀ o, o ∈ M → ∀ v, v ∈ o.l → VOk M.length v

def mcells (P : Value × Value × Value) (fuel : Int) (s : St) (inv outv memv : Value) : Array Value :=
  #[P.1, P.2.1, P.2.2, inv, .int .i64 fuel, .int .i64 s.kind, .int .i64 s.code, outv, .int .i64 s.steps, .int .i64 s.deep, memv, .int .i64 s.calls]

theorem InW.below {w w' : World} {base : Nat} {v : Value} {l : List Int} (h : InW w base v l) (hw : ∀ b o, b < base → w'.cell? ⟨b, o, none⟩ = w.cell? ⟨b, o, none⟩) : InW w' base v l := by
  obtain ⟨A, cap, hv, h1, h2, h3⟩ := h
  refine ⟨A, cap, hv, h1, h2, fun hp => ?_⟩
  obtain ⟨b, off, hA, hb, hc⟩ := h3 hp
  exact ⟨b, off, hA, hb, fun j x hj => ⟨(hw b _ hb).trans (hc j x hj).1, (hc j x hj).2⟩⟩

end Go.Proofs.YtlenilbkifofjaaDoor
namespace Go.Proofs.YtlenilbkifofjaaDoor
open Go.RowKit

def opF (M : List MO) (tp : List V) (lo : List Nat) (op n : Int) (l : List V) : Option V :=
  if op = 1 then some ⟨0, n⟩ else if op = 2 then some (tp.getD n.toNat ⟨0, 0⟩) else if op = 3 then some ⟨lo.getD n.toNat 0, 0⟩ else if op = 4 then some ⟨n.toNat + 1, 0⟩ else applyF M op l

mutual
def evalT (M : List MO) (tp : List V) (lo : List Nat) : T → Option V
  | .node op n ks => (evalTs M tp lo ks).bind (opF M tp lo op n)
def evalTs (M : List MO) (tp : List V) (lo : List Nat) : List T → Option (List V)
  | [] => some []
  | k :: ks => (evalT M tp lo k).bind fun v => (evalTs M tp lo ks).map (v :: ·)
end

/-- How many kids an op has. -/
def kidsN (op : Int) : Nat := if op ≤ 4 then 0 else if 12 ≤ op ∧ op ≤ 30 then 2 else 1

mutual
/-- A tree that may be, of so many temporaries, locals and globals. -/
def TOk (nt nl ng : Nat) : T → Prop
  | .node op n ks => 1 ≤ op ∧ op ≤ 36 ∧ ks.length = kidsN op ∧ (op = 2 → 0 ≤ n ∧ n < nt) ∧ (op = 3 → 0 ≤ n ∧ n < nl) ∧ (op = 4 → 0 ≤ n ∧ n < ng) ∧ TsOk nt nl ng ks
def TsOk (nt nl ng : Nat) : List T → Prop
  | [] => True
  | k :: ks => TOk nt nl ng k ∧ TsOk nt nl ng ks
end

mutual
/-- A tree whose numbers are numbers. -/
def TIn : T → Prop
  | .node _ n ks => In64 n ∧ TsIn ks
def TsIn : List T → Prop
  | [] => True
  | k :: ks => TIn k ∧ TsIn ks
end

theorem TsIn.get {ks : List T} {k : Nat} {t : T} (h : TsIn ks) (hk : ks[k]? = some t) : TIn t := by
  induction ks generalizing k with
  | nil => simp at hk
  | cons a r ih =>
    simp only [TsIn] at h
    cases k with
    | zero => simp at hk; subst hk; exact h.1
    | succ k => simp at hk; exact ih h.2 hk

theorem TsOk.get {nt nl ng : Nat} {ks : List T} {k : Nat} {t : T} (h : TsOk nt nl ng ks) (hk : ks[k]? = some t) : TOk nt nl ng t := by
  induction ks generalizing k with
  | nil => simp at hk
  | cons a r ih =>
    simp only [TsOk] at h
    cases k with
    | zero => simp at hk; subst hk; exact h.1
    | succ k => simp at hk; exact ih h.2 hk

section
variable {M : List MO} {tp : List V} {lo : List Nat}

theorem evalTs_append (a b : List T) : evalTs M tp lo (a ++ b) = (evalTs M tp lo a).bind fun x => (evalTs M tp lo b).map (x ++ ·) := by
  induction a with
  | nil => simp [evalTs]
  | cons t r ih =>
    simp only [List.cons_append, evalTs, ih]
    cases evalT M tp lo t <;> cases evalTs M tp lo r <;> cases evalTs M tp lo b <;> simp

theorem take_succ_of {α : Type} {l : List α} {k : Nat} {t : α} (h : l[k]? = some t) : l.take (k + 1) = l.take k ++ [t] := by
  rw [List.take_add_one, h]; rfl

theorem evalTs_next {ks : List T} {k : Nat} {l : List V} {t : T} {v : V} (h : evalTs M tp lo (ks.take k) = some l) (ht : ks[k]? = some t) (hv : evalT M tp lo t = some v) : evalTs M tp lo (ks.take (k + 1)) = some (l ++ [v]) := by
  rw [take_succ_of ht, evalTs_append, h]
  simp [evalTs, hv]

theorem evalTs_fail {ks : List T} {k : Nat} {t : T} (ht : ks[k]? = some t) (hv : evalT M tp lo t = none) : evalTs M tp lo ks = none := by
  have hlt : k < ks.length := by
    rcases Nat.lt_or_ge k ks.length with h | h
    · exact h
    · rw [List.getElem?_eq_none h] at ht; cases ht
  have e : ks = ks.take (k + 1) ++ ks.drop (k + 1) := (List.take_append_drop _ _).symm
  rw [e, evalTs_append, take_succ_of ht, evalTs_append]
  cases evalTs M tp lo (ks.take k) <;> simp [evalTs, hv]

theorem evalTs_length {ks : List T} {l : List V} (h : evalTs M tp lo ks = some l) : l.length = ks.length := by
  induction ks generalizing l with
  | nil => simp [evalTs] at h; subst h; rfl
  | cons t r ih =>
    simp only [evalTs] at h
    cases hv : evalT M tp lo t with
    | none => rw [hv] at h; simp at h
    | some v =>
      rw [hv] at h
      cases hr : evalTs M tp lo r with
      | none => rw [hr] at h; simp at h
      | some x => rw [hr] at h; simp at h; subst h; simp [ih hr]
end

/-- Values as cells. -/
def flatV : List V → List Value
  | [] => []
  | v :: l => .int .i64 v.obj :: .int .i64 v.n :: flatV l

theorem flatV_length (l : List V) : (flatV l).length = l.length * 2 := by
  induction l with
  | nil => rfl
  | cons v l ih => simp [flatV, ih]; omega
theorem flatV_append (a b : List V) : flatV (a ++ b) = flatV a ++ flatV b := by
  induction a with
  | nil => rfl
  | cons v l ih => simp [flatV, ih]
theorem flatV_get {l : List V} {j : Nat} {v : V} (h : l[j]? = some v) : (flatV l)[j * 2]? = some (.int .i64 v.obj) ∧ (flatV l)[j * 2 + 1]? = some (.int .i64 v.n) := by
  induction l generalizing j with
  | nil => simp at h
  | cons a l ih =>
    cases j with
    | zero => simp at h; subst h; simp [flatV]
    | succ j =>
      simp at h
      have := ih h
      rw [show (j + 1) * 2 = j * 2 + 1 + 1 by omega]
      simpa [flatV] using this

/-- What the call has gathered: values in a row of its own. -/
theorem ownsRow_vals {w : World} {base : Nat} {v : Value} {l : List V} {e : TypeId} (h : w.ownsRow base e 2 v l.length (flatV l)) (hp : 0 < l.length) : ∃ g cap, v = .slice (some ⟨g, 0, none⟩) l.length cap ∧ base ≤ g ∧ g < w.heap.size ∧ ∀ j x, l[j]? = some x → ValCells w g (0 + j * 2) x := by
  have hlt := h.lt
  obtain ⟨h1, h2⟩ := h
  rcases h2 with ⟨_, h2⟩ | ⟨g, cap, cur, hv, hb, hh, h3, h4, h5, h6⟩
  · omega
  · subst hv
    refine ⟨g, cap, rfl, hb, Row.lt hh, fun j x hj => ?_⟩
    have hg := flatV_get hj
    have hjl : j < l.length := by
      rcases Nat.lt_or_ge j l.length with h | h
      · exact h
      · rw [List.getElem?_eq_none h] at hj; cases hj
    rw [← h6] at hg
    have e0 := hg.1
    have e1 := hg.2
    rw [List.getElem?_take, if_pos (by omega), Array.getElem?_toList] at e0 e1
    exact ⟨Row.cell hh (by simpa using e0), Row.cell hh (by simpa using e1)⟩
end Go.Proofs.YtlenilbkifofjaaDoor
namespace Go.Proofs.YtlenilbkifofjaaDoor
open Go.RowKit

/-- An object of a program. -/
structure ObS where
  size : Int
  count : Int
  init : List Int
/-- A step. -/
structure StepS where
  op : Int
  to : Int
  size : Int
  fn : Int
  args : List T
/-- A block. -/
structure BlockS where
  steps : List StepS
  fin : Int
  cond : T
  next : Int
  els : Int
/-- A function. -/
structure GraphS where
  params : Int
  temps : Int
  locs : List ObS
  blocks : List BlockS
/-- A program. -/
structure ProgS where
  globs : List ObS
  funcs : List GraphS
  main : Int

/-- An object's elements, as it is made. -/
def fillF (o : ObS) : List V := (List.range o.count.toNat).map fun i => ⟨0, match o.init[i]? with | some n => storedF o.size.toNat n | none => 0⟩
/-- An object is made. -/
def makeF (M : List MO) (o : ObS) : List MO := (if M = [] then [⟨0, [], false⟩] else M) ++ [⟨o.size, fillF o, true⟩]

def makesF (M : List MO) : List ObS → List MO
  | [] => M
  | o :: l => makesF (makeF M o) l

/-- A value is stored. -/
def storeF (M : List MO) (size : Int) (a x : V) : Option (List MO) :=
  match atF M a size.toNat with
  | none => none
  | some j => if x.obj > 0 ∧ size ≠ 8 then none else
      some (M.modify a.obj fun o => { o with l := o.l.set j (if x.obj = 0 then ⟨0, storedF size.toNat x.n⟩ else x) })

def setT (tp : List V) (to : Int) (v : V) : List V := if 0 ≤ to then tp.set to.toNat v else tp

def killF (M : List MO) : List Nat → List MO
  | [] => M
  | k :: l => killF (M.modify k fun o => { o with live := false }) l

/-- What a call does. -/
abbrev CallR := Int → List V → St → Option V × St

/-- A step is done. -/
def actF (R : CallR) (s : St) (tp : List V) (x : StepS) (l : List V) : Bool × St × List V :=
  if x.op = 1 then (true, s, setT tp x.to (l.getD 0 ⟨0, 0⟩))
  else if x.op = 2 then match storeF s.mem x.size (l.getD 0 ⟨0, 0⟩) (l.getD 1 ⟨0, 0⟩) with
    | some M => (true, { s with mem := M }, tp)
    | none => (false, { s with kind := 3 }, tp)
  else if x.op = 3 then match R x.fn l s with
    | (some v, s') => (true, s', setT tp x.to v)
    | (none, s') => (false, s', tp)
  else if x.op = 5 then match s.inp with
    | [] => (true, s, setT tp x.to ⟨0, 0⟩)
    | n :: r => (true, { s with inp := r }, setT tp x.to ⟨0, n⟩)
  else if (l.getD 0 ⟨0, 0⟩).obj > 0 then (false, { s with kind := 3 }, tp)
  else if x.op = 6 then (false, { s with code := (l.getD 0 ⟨0, 0⟩).n, kind := 1 }, tp)
  else (true, { s with out := s.out ++ [(l.getD 0 ⟨0, 0⟩).n] }, tp)

def doesF (R : CallR) (fuel : Int) (lo : List Nat) (s : St) (tp : List V) (x : StepS) : Bool × St × List V :=
  if (stepF fuel 1 s).1 = false then (false, (stepF fuel 1 s).2, tp)
  else match evalTs (stepF fuel 1 s).2.mem tp lo x.args with
    | none => (false, { (stepF fuel 1 s).2 with kind := 3 }, tp)
    | some l => actF R (stepF fuel 1 s).2 tp x l

/-- A block's steps. -/
def stepsF (R : CallR) (fuel : Int) (lo : List Nat) (s : St) (tp : List V) : List StepS → Bool × St × List V
  | [] => (true, s, tp)
  | x :: r => match doesF R fuel lo s tp x with
    | (true, s', tp') => stepsF R fuel lo s' tp' r
    | (false, s', tp') => (false, s', tp')

/-- How a block ends: it has ended, it goes on, it returns. -/
inductive Goes where
  | over
  | next (k : Int)
  | ret (v : V)

def blockF (R : CallR) (fuel : Int) (lo : List Nat) (s : St) (tp : List V) (b : BlockS) : Goes × St × List V :=
  match stepsF R fuel lo s tp b.steps with
  | (false, s', tp') => (.over, s', tp')
  | (true, s1, tp1) =>
    if (stepF fuel 1 s1).1 = false then (.over, (stepF fuel 1 s1).2, tp1)
    else if b.fin = 1 then (.next b.next, (stepF fuel 1 s1).2, tp1)
    else match evalT (stepF fuel 1 s1).2.mem tp1 lo b.cond with
      | none => (.over, { (stepF fuel 1 s1).2 with kind := 3 }, tp1)
      | some v => if b.fin = 3 then (.ret v, (stepF fuel 1 s1).2, tp1)
        else (.next (if v = ⟨0, 0⟩ then b.els else b.next), (stepF fuel 1 s1).2, tp1)

def noBlock : BlockS := ⟨[], 0, .node 0 0 [], 0, 0⟩
def noGraph : GraphS := ⟨0, 0, [], []⟩

/-- A function's blocks, so many rounds at most. -/
def blocksF (R : CallR) (fuel : Int) (lo : List Nat) (bs : List BlockS) : Nat → Int → St → List V → Option V × St
  | 0, _, s, _ => (none, s)
  | g + 1, k, s, tp => match blockF R fuel lo s tp (bs.getD k.toNat noBlock) with
    | (.over, s', _) => (none, s')
    | (.next k', s', tp') => blocksF R fuel lo bs g k' s' tp'
    | (.ret v, s', _) => (some v, { s' with mem := killF s'.mem lo, calls := s'.calls - 1 })

def countsF : List ObS → Int
  | [] => 0
  | o :: l => o.count + countsF l

/-- The numbers of objects that are made one by one. -/
def numsF (M : List MO) (n : Nat) : List Nat := (List.range n).map fun i => (if M = [] then 1 else M.length) + i

/-- The temporaries at the start. -/
def startF (n : Nat) (args : List V) : List V := args ++ List.replicate (n - args.length) ⟨0, 0⟩

/-- A call, so many deep at most. -/
def callF (p : ProgS) (fuel : Int) : Nat → CallR
  | 0, _, _, s => (none, stopF 4 s)
  | d + 1, fn, args, s =>
    let g := p.funcs.getD fn.toNat noGraph
    let s1 := { s with calls := s.calls + 1, deep := max s.deep (s.calls + 1) }
    if (stepF fuel (countsF g.locs) s1).1 = false then (none, (stepF fuel (countsF g.locs) s1).2)
    else
      let s2 := (stepF fuel (countsF g.locs) s1).2
      blocksF (callF p fuel d) fuel (numsF s2.mem g.locs.length) g.blocks (fuel - s2.steps + 1).toNat 0 { s2 with mem := makesF s2.mem g.locs } (startF g.temps.toNat args)

/-- What a run comes to. -/
structure OutS where
  kind : Int
  code : Int
  out : List Int
  steps : Int
  deep : Int

def endF (r : Option V × St) : OutS :=
  let s := match r.1 with
    | some v => { r.2 with kind := if v.obj > 0 then 3 else 1, code := v.n }
    | none => r.2
  if s.kind = 3 then ⟨3, 0, [], 0, 0⟩ else ⟨s.kind, s.code, s.out, s.steps, s.deep⟩

def runF (p : ProgS) (inp : List Int) (fuel : Int) : OutS :=
  endF (callF p fuel 64 p.main [] ⟨inp, 0, 0, [], 0, 0, 0, makesF [] p.globs⟩)
end Go.Proofs.YtlenilbkifofjaaDoor
namespace Go.Proofs.YtlenilbkifofjaaDoor
open Go.RowKit

/-- What 'EqTrees' is asked: a slice of trees. -/
def KidsV (w : World) (B : Nat) (ks : List T) (A : Option Addr) (n : Nat) : Prop :=
  ks.length = n ∧ n ≤ 9223372036854775807 ∧ (0 < n → ∃ b off, A = some ⟨b, off, none⟩ ∧ b < B ∧ KidsAt w (Under B) ks b off)

theorem KidsV.get {w : World} {B n : Nat} {ks : List T} {A : Option Addr} (h : KidsV w B ks A n) {k : Nat} (hk : k < n) :
    ∃ b off t v0 v1 v2, A = some ⟨b, off, none⟩ ∧ b < B ∧ ks[k]? = some t ∧ w.cell? ⟨b, off + k * 3, none⟩ = some v0 ∧ w.cell? ⟨b, off + k * 3 + 1, none⟩ = some v1 ∧ w.cell? ⟨b, off + k * 3 + 2, none⟩ = some v2 ∧ TreeAt w (Under B) t v0 v1 v2 := by
  obtain ⟨hl, _, hA⟩ := h
  obtain ⟨b, off, hA, hb, hK⟩ := hA (by omega)
  have hget : ks[k]? = some (ks[k]'(by omega)) := List.getElem?_eq_getElem (by omega)
  obtain ⟨v0, v1, v2, h0, h1, h2, ht⟩ := hK.get hget
  exact ⟨b, off, _, v0, v1, v2, hA, hb, hget, h0, h1, h2, ht⟩

theorem KidsV.below {w w' : World} {B B' n : Nat} {ks : List T} {A : Option Addr} (h : KidsV w B ks A n) (hb : Below B w w') (hB : B ≤ B') : KidsV w' B' ks A n := by
  obtain ⟨h0, h1, h2⟩ := h
  refine ⟨h0, h1, fun hp => ?_⟩
  obtain ⟨b, off, hA, hlt, hk⟩ := h2 hp
  exact ⟨b, off, hA, by omega, KidsAt.keep (fun b off (hc : b < B) => ⟨Nat.lt_of_lt_of_le hc hB, fun j => hb.cell (p := ⟨b, j, none⟩) hc⟩) ks (fun j => hb.cell (p := ⟨b, j, none⟩) hlt) hk⟩

theorem list_ext_upto {α : Type} {xs ys : List α} (hl : xs.length = ys.length) (h : ∀ j, j < xs.length → xs[j]? = ys[j]?) : xs = ys := by
  apply List.ext_getElem?
  intro i
  by_cases hi : i < xs.length
  · exact h i hi
  · rw [List.getElem?_eq_none (by omega), List.getElem?_eq_none (by omega)]

theorem KidsV.of_tree {w : World} {B : Nat} {op n : Int} {ks : List T} {v0 v1 v2 : Value} (h : TreeAt w (Under B) (.node op n ks) v0 v1 v2) :
    ∃ A cap len, v0 = .int .i64 op ∧ v1 = .int .i64 n ∧ In64 op ∧ In64 n ∧ v2 = .slice A len cap ∧ KidsV w B ks A len := by
  simp only [TreeAt] at h
  obtain ⟨h0, h1, h2, h3, h4, A, cap, h5, h6⟩ := h
  exact ⟨A, cap, ks.length, h0, h1, h2, h3, h5, rfl, h4, h6⟩

end Go.Proofs.YtlenilbkifofjaaDoor
namespace Go.Proofs.YtlenilbkifofjaaDoor
open Go.RowKit

/-- A slice of elements of so many cells; 'E': what an element's cells are. -/
def SliceAt {α : Type} (w : World) (B sz : Nat) (E : (Nat → Option Value) → α → Prop) (l : List α) (v : Value) : Prop :=
  ∃ A cap, v = .slice A l.length cap ∧ l.length ≤ 9223372036854775807 ∧ (0 < l.length → ∃ b off, A = some ⟨b, off, none⟩ ∧ b < B ∧ ∀ i x, l[i]? = some x → E (fun j => w.cell? ⟨b, off + i * sz + j, none⟩) x)

theorem SliceAt.below {α : Type} {w w' : World} {B B' sz : Nat} {E E' : (Nat → Option Value) → α → Prop} {l : List α} {v : Value} (h : SliceAt w B sz E l v) (hb : Below B w w') (hB : B ≤ B') (hE : ∀ c x, E c x → E' c x) : SliceAt w' B' sz E' l v := by
  obtain ⟨A, cap, h0, h1, h2⟩ := h
  refine ⟨A, cap, h0, h1, fun hp => ?_⟩
  obtain ⟨b, off, hA, hlt, hx⟩ := h2 hp
  refine ⟨b, off, hA, by omega, fun i x hi => ?_⟩
  have e : (fun j => w'.cell? ⟨b, off + i * sz + j, none⟩) = fun j => w.cell? ⟨b, off + i * sz + j, none⟩ := by funext j; exact hb.cell (p := ⟨b, _, none⟩) hlt
  rw [e]
  exact hE _ _ (hx i x hi)

theorem SliceAt.get {α : Type} {w : World} {B sz : Nat} {E : (Nat → Option Value) → α → Prop} {l : List α} {A : Option Addr} {n cap k : Nat} (h : SliceAt w B sz E l (.slice A n cap)) (hk : k < n) :
    ∃ b off x, A = some ⟨b, off, none⟩ ∧ b < B ∧ l[k]? = some x ∧ E (fun j => w.cell? ⟨b, off + k * sz + j, none⟩) x := by
  obtain ⟨A', cap', h0, h1, h2⟩ := h
  injection h0 with e1 e2 e3
  subst e1 e2
  obtain ⟨b, off, hA, hlt, hx⟩ := h2 (by omega)
  exact ⟨b, off, _, hA, hlt, List.getElem?_eq_getElem hk, hx k _ (List.getElem?_eq_getElem hk)⟩

theorem SliceAt.len {α : Type} {w : World} {B sz : Nat} {E : (Nat → Option Value) → α → Prop} {l : List α} {A : Option Addr} {n cap : Nat} (h : SliceAt w B sz E l (.slice A n cap)) : l.length = n ∧ n ≤ 9223372036854775807 := by
  obtain ⟨A', cap', h0, h1, _⟩ := h
  injection h0 with e1 e2 e3
  subst e2
  exact ⟨rfl, h1⟩

def LongsAt (w : World) (B : Nat) (l : List Int) (v : Value) : Prop := SliceAt w B 1 (fun c x => c 0 = some (.int .i64 x) ∧ In64 x) l v

def ObE (w : World) (B : Nat) (c : Nat → Option Value) (o : ObS) : Prop :=
  c 0 = some (.int .i64 o.size) ∧ c 1 = some (.int .i64 o.count) ∧ (∃ v, c 2 = some v ∧ LongsAt w B o.init v) ∧ In64 o.size ∧ In64 o.count

def TreeE (w : World) (B : Nat) (c : Nat → Option Value) (t : T) : Prop := ∃ v0 v1 v2, c 0 = some v0 ∧ c 1 = some v1 ∧ c 2 = some v2 ∧ TreeAt w (Under B) t v0 v1 v2

def TreesAt (w : World) (B : Nat) (l : List T) (v : Value) : Prop := ∃ A n cap, v = .slice A n cap ∧ KidsV w B l A n

def StepE (w : World) (B : Nat) (c : Nat → Option Value) (x : StepS) : Prop :=
  c 0 = some (.int .i64 x.op) ∧ c 1 = some (.int .i64 x.to) ∧ c 2 = some (.int .i64 x.size) ∧ c 3 = some (.int .i64 x.fn) ∧ (∃ v, c 4 = some v ∧ TreesAt w B x.args v) ∧ In64 x.op ∧ In64 x.to ∧ In64 x.size ∧ In64 x.fn

def BlockE (w : World) (B : Nat) (c : Nat → Option Value) (b : BlockS) : Prop :=
  (∃ v, c 0 = some v ∧ SliceAt w B 5 (StepE w B) b.steps v) ∧ c 1 = some (.int .i64 b.fin) ∧ (∃ v0 v1 v2, c 2 = some v0 ∧ c 3 = some v1 ∧ c 4 = some v2 ∧ TreeAt w (Under B) b.cond v0 v1 v2) ∧ c 5 = some (.int .i64 b.next) ∧ c 6 = some (.int .i64 b.els) ∧ In64 b.fin ∧ In64 b.next ∧ In64 b.els

def GraphE (w : World) (B : Nat) (c : Nat → Option Value) (g : GraphS) : Prop :=
  c 0 = some (.int .i64 g.params) ∧ c 1 = some (.int .i64 g.temps) ∧ (∃ v, c 2 = some v ∧ SliceAt w B 3 (ObE w B) g.locs v) ∧ (∃ v, c 3 = some v ∧ SliceAt w B 7 (BlockE w B) g.blocks v) ∧ In64 g.params ∧ In64 g.temps

def ProgE (w : World) (B : Nat) (c : Nat → Option Value) (p : ProgS) : Prop :=
  (∃ v, c 0 = some v ∧ SliceAt w B 3 (ObE w B) p.globs v) ∧ (∃ v, c 1 = some v ∧ SliceAt w B 4 (GraphE w B) p.funcs v) ∧ c 2 = some (.int .i64 p.main) ∧ In64 p.main

section
variable {w w' : World} {B B' : Nat}
theorem LongsAt.below {l : List Int} {v : Value} (h : LongsAt w B l v) (hb : Below B w w') (hB : B ≤ B') : LongsAt w' B' l v := SliceAt.below h hb hB fun _ _ h => h
theorem TreesAt.below {l : List T} {v : Value} (h : TreesAt w B l v) (hb : Below B w w') (hB : B ≤ B') : TreesAt w' B' l v := by
  obtain ⟨A, n, cap, h0, h1⟩ := h
  exact ⟨A, n, cap, h0, h1.below hb hB⟩
theorem ObE.below {c : Nat → Option Value} {o : ObS} (h : ObE w B c o) (hb : Below B w w') (hB : B ≤ B') : ObE w' B' c o := by
  obtain ⟨h0, h1, ⟨v, h2, h3⟩, h4⟩ := h
  exact ⟨h0, h1, ⟨v, h2, h3.below hb hB⟩, h4⟩
theorem StepE.below {c : Nat → Option Value} {x : StepS} (h : StepE w B c x) (hb : Below B w w') (hB : B ≤ B') : StepE w' B' c x := by
  obtain ⟨h0, h1, h2, h3, ⟨v, h4, h5⟩, h6⟩ := h
  exact ⟨h0, h1, h2, h3, ⟨v, h4, h5.below hb hB⟩, h6⟩
theorem BlockE.below {c : Nat → Option Value} {b : BlockS} (h : BlockE w B c b) (hb : Below B w w') (hB : B ≤ B') : BlockE w' B' c b := by
  obtain ⟨⟨v, h0, h1⟩, h2, ⟨v0, v1, v2, h3, h4, h5, h6⟩, h7⟩ := h
  exact ⟨⟨v, h0, h1.below hb hB fun _ _ h => h.below hb hB⟩, h2, ⟨v0, v1, v2, h3, h4, h5, h6.below hb hB⟩, h7⟩
theorem GraphE.below {c : Nat → Option Value} {g : GraphS} (h : GraphE w B c g) (hb : Below B w w') (hB : B ≤ B') : GraphE w' B' c g := by
  obtain ⟨h0, h1, ⟨v, h2, h3⟩, ⟨u, h4, h5⟩, h6⟩ := h
  exact ⟨h0, h1, ⟨v, h2, h3.below hb hB fun _ _ h => h.below hb hB⟩, ⟨u, h4, h5.below hb hB fun _ _ h => h.below hb hB⟩, h6⟩
theorem ProgE.below {c : Nat → Option Value} {p : ProgS} (h : ProgE w B c p) (hb : Below B w w') (hB : B ≤ B') : ProgE w' B' c p := by
  obtain ⟨⟨v, h0, h1⟩, ⟨u, h2, h3⟩, h4⟩ := h
  exact ⟨⟨v, h0, h1.below hb hB fun _ _ h => h.below hb hB⟩, ⟨u, h2, h3.below hb hB fun _ _ h => h.below hb hB⟩, h4⟩
end
end Go.Proofs.YtlenilbkifofjaaDoor
namespace Go.Proofs.YtlenilbkifofjaaDoor
open Go.RowKit

/-- An instruction. -/
structure InsS where
  op : Int
  dst : Int
  a : Int
  b : Int
  n : Int
  arg : List Int
/-- A function of virtual code. -/
structure CodeS where
  params : Int
  regs : Int
  locs : List ObS
  ins : List InsS
/-- A program of virtual code. -/
structure VirtS where
  globs : List ObS
  funcs : List CodeS
  main : Int

def InsE (w : World) (B : Nat) (c : Nat → Option Value) (x : InsS) : Prop :=
  c 0 = some (.int .i64 x.op) ∧ c 1 = some (.int .i64 x.dst) ∧ c 2 = some (.int .i64 x.a) ∧ c 3 = some (.int .i64 x.b) ∧ c 4 = some (.int .i64 x.n) ∧ (∃ v, c 5 = some v ∧ LongsAt w B x.arg v) ∧ In64 x.op ∧ In64 x.dst ∧ In64 x.a ∧ In64 x.b ∧ In64 x.n
def CodeE (w : World) (B : Nat) (c : Nat → Option Value) (g : CodeS) : Prop :=
  c 0 = some (.int .i64 g.params) ∧ c 1 = some (.int .i64 g.regs) ∧ (∃ v, c 2 = some v ∧ SliceAt w B 3 (ObE w B) g.locs v) ∧ (∃ v, c 3 = some v ∧ SliceAt w B 6 (InsE w B) g.ins v) ∧ In64 g.params ∧ In64 g.regs
def VirtE (w : World) (B : Nat) (c : Nat → Option Value) (p : VirtS) : Prop :=
  (∃ v, c 0 = some v ∧ SliceAt w B 3 (ObE w B) p.globs v) ∧ (∃ v, c 1 = some v ∧ SliceAt w B 4 (CodeE w B) p.funcs v) ∧ c 2 = some (.int .i64 p.main) ∧ In64 p.main
section
variable {w w' : World} {B B' : Nat}
theorem InsE.below {c : Nat → Option Value} {x : InsS} (h : InsE w B c x) (hb : Below B w w') (hB : B ≤ B') : InsE w' B' c x := by
  obtain ⟨h0, h1, h2, h3, h4, ⟨v, h5, h6⟩, h7⟩ := h
  exact ⟨h0, h1, h2, h3, h4, ⟨v, h5, h6.below hb hB⟩, h7⟩
theorem CodeE.below {c : Nat → Option Value} {g : CodeS} (h : CodeE w B c g) (hb : Below B w w') (hB : B ≤ B') : CodeE w' B' c g := by
  obtain ⟨h0, h1, ⟨v, h2, h3⟩, ⟨u, h4, h5⟩, h6⟩ := h
  exact ⟨h0, h1, ⟨v, h2, h3.below hb hB fun _ _ h => h.below hb hB⟩, ⟨u, h4, h5.below hb hB fun _ _ h => h.below hb hB⟩, h6⟩
theorem VirtE.below {c : Nat → Option Value} {p : VirtS} (h : VirtE w B c p) (hb : Below B w w') (hB : B ≤ B') : VirtE w' B' c p := by
  obtain ⟨⟨v, h0, h1⟩, ⟨u, h2, h3⟩, h4⟩ := h
  exact ⟨⟨v, h0, h1.below hb hB fun _ _ h => h.below hb hB⟩, ⟨u, h2, h3.below hb hB fun _ _ h => h.below hb hB⟩, h4⟩
end
/-- A program of virtual code as the machine holds it. -/
def VirtAt (w : World) (B : Nat) (P : Value × Value × Value) (p : VirtS) : Prop :=
  SliceAt w B 3 (ObE w B) p.globs P.1 ∧ SliceAt w B 4 (CodeE w B) p.funcs P.2.1 ∧ P.2.2 = .int .i64 p.main ∧ In64 p.main
theorem VirtAt.below {w w' : World} {B : Nat} {P : Value × Value × Value} {p : VirtS} (h : VirtAt w B P p) (hb : Below B w w') : VirtAt w' B P p :=
  ⟨h.1.below hb (Nat.le_refl _) fun _ _ h => h.below hb (Nat.le_refl _), h.2.1.below hb (Nat.le_refl _) fun _ _ h => h.below hb (Nat.le_refl _), h.2.2⟩
theorem VirtAt.shape {w : World} {B : Nat} {P : Value × Value × Value} {p : VirtS} (h : VirtAt w B P p) : ∃ GA gc FA fc, P = (.slice GA p.globs.length gc, .slice FA p.funcs.length fc, .int .i64 p.main) := by
  obtain ⟨P0, P1, P2⟩ := P
  obtain ⟨⟨A, c, h0, _⟩, ⟨A', c', h1, _⟩, h2, _⟩ := h
  simp only at h0 h1 h2
  exact ⟨_, _, _, _, by rw [h0, h1, h2]⟩
theorem VirtE.at {w : World} {B : Nat} {c : Nat → Option Value} {p : VirtS} (h : VirtE w B c p) : ∃ P : Value × Value × Value, c 0 = some P.1 ∧ c 1 = some P.2.1 ∧ c 2 = some P.2.2 ∧ VirtAt w B P p := by
  obtain ⟨⟨v, h0, h1⟩, ⟨u, h2, h3⟩, h4, h5⟩ := h
  exact ⟨(v, u, .int .i64 p.main), h0, h2, h4, h1, h3, rfl, h5⟩
end Go.Proofs.YtlenilbkifofjaaDoor
