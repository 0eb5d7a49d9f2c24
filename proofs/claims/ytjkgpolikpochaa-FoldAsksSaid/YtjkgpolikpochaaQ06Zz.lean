/- The page's machine: an object is made. Conditions: as stated. The page's machine: what a call's walk is asked; its plain parts. No condition. The page's machine: a call's locals, made one by one. No condition. CopyTree, CopyTrees: a tree in memory of its own. Conditions: as stated. Leaf, Load, Is, Arity, Binary, Unary, con, is, neutral, again: small asks of the program. No condition but those stated. -/
import Derived.Test.YtjkgpolikpochaaMakeZZz
import Derived.Test.YtjkgpolikpochaaQ05Zz
import Derived.Test.YtjkgpolikpochaaQ03Zz
import Derived.Test.YtjkgpolikpochaaQ04Zz
import Derived.Test.YtjkgpolikpochaaCntZz
import Derived.Test.YtjkgpolikpochaaQ02Zz
set_option linter.unusedVariables false
set_option linter.unusedSimpArgs false
namespace Go.Proofs.Ytjkgpolikpochaa
open Go.RowKit

/-- An object of a program that may be. -/
def ObOk (o : ObS) : Prop := (o.size = 1 ∨ o.size = 2 ∨ o.size = 4 ∨ o.size = 8) ∧ 1 ≤ o.count ∧ o.count ≤ 64 ∧ (o.init.length : Int) ≤ o.count

theorem LongsAt.in64 {w : World} {B : Nat} {l : List Int} {v : Value} (h : LongsAt w B l v) : ∀ x, x ∈ l → In64 x := by
  intro x hx
  obtain ⟨i, hi⟩ := List.mem_iff_getElem?.1 hx
  obtain ⟨A, cap, _, _, h2⟩ := h
  obtain ⟨b, off, _, _, h3⟩ := h2 (by rcases Nat.eq_zero_or_pos l.length with h | h; rw [List.eq_nil_of_length_eq_zero h] at hx; cases hx; exact h)
  exact (h3 i x hi).2

theorem make_any (pb po base : Nat) (own : Nat → Prop) (memv : Value) (rb : Nat → Nat) (M : List MO) (cs : Array Value) (t : TypeId) (o : ObS) (v : Value) (w : World)
    (hR : Row w pb cs t) (hp : cs[po]? = some memv) (ht : t ≠ 90 ∧ t ≠ 99) (hM : MemW w base own memv rb M) (hmo : ∀ g, memv.ownBlock = some g → own g) (hown : ∀ k, own k → base ≤ k ∧ k < w.heap.size) (hbs : base ≤ w.heap.size) (hpb : base ≤ pb)
    (ho : ObOk o) (hl : LongsAt w base o.init v) (hmany : (memBase M).length + 1 ≤ 1000000000) :
    Calls Try.prog 49 #[.pointer (some ⟨pb, po, none⟩), .agg #[.int .i64 o.size, .int .i64 o.count, v]] w fun e w' => MakeSays base own pb po cs t M o w e w' := by
  obtain ⟨h1, h2, h3, h4⟩ := ho
  obtain ⟨ct, hct⟩ := Int.eq_ofNat_of_zero_le (show 0 ≤ o.count by omega)
  have hin := hl.in64
  obtain ⟨A, cap, rfl, _, _⟩ := id hl
  rw [hct]
  by_cases hMe : M = []
  · exact make_first pb po base own memv rb M cs t o ct A _ cap w hR hp ht hM hmo hown hbs hpb hct (by omega) (by omega) (by omega) hl h1 hin hmany hMe
  · exact make_more pb po base own memv rb M cs t o ct A _ cap w hR hp ht hM hmo hown hbs hpb hct (by omega) (by omega) (by omega) hl h1 hin hmany hMe

/-- The machine with an object more. -/
def MadeM (base mc : Nat) (own : Nat → Prop) (P : Value × Value × Value) (fuel : Int) (s : St) (o : ObS) (w : World) (e : Ending) (w' : World) : Prop :=
  e = .returned (.int .i64 (memBase s.mem).length) ∧ ∃ own' : Nat → Prop, (∀ k, own k → own' k) ∧ (∀ k, own' k → own k ∨ w.heap.size ≤ k) ∧ Mach w' base mc own' P fuel { s with mem := makeF s.mem o } ∧ Wr own w w'

theorem make_mach (base mc : Nat) (own : Nat → Prop) (P : Value × Value × Value) (fuel : Int) (s : St) (o : ObS) (v : Value) (w : World)
    (hm : Mach w base mc own P fuel s) (ho : ObOk o) (hl : LongsAt w base o.init v) (hmany : (memBase s.mem).length + 1 ≤ 1000000000) :
    Calls Try.prog 49 #[.pointer (some ⟨mc, 10, none⟩), .agg #[.int .i64 o.size, .int .i64 o.count, v]] w fun e w' => MadeM base mc own P fuel s o w e w' := by
  obtain ⟨inv, outv, memv, rb, hr, hmine, hs⟩ := hm
  have hb := hs.own mc hmine
  have hbs : base ≤ w.heap.size := by omega
  have hMM : MemW w base (fun k => own k ∧ ∃ cs t, Row w k cs t ∧ (t = 90 ∨ t = 99)) memv rb s.mem := by
    obtain ⟨h1, h2, h3, h4⟩ := hs.mem
    exact ⟨h1, fun k x hk hx => ⟨⟨(h2 k x hk hx).1, by obtain ⟨_, cs, hr, _⟩ := h2 k x hk hx; exact ⟨cs, _, hr, Or.inl rfl⟩⟩, (h2 k x hk hx).2⟩, h3, h4⟩
  refine (make_any mc 10 base (fun k => own k ∧ ∃ cs t, Row w k cs t ∧ (t = 90 ∨ t = 99)) memv rb s.mem _ 87 o v w hr rfl (by decide) hMM (fun g hg => ⟨hs.memo g hg, ?_⟩) (fun k hk => hs.own k hk.1) hbs hb.1 ho hl hmany).mono ?_
  · obtain ⟨⟨xs, hx, _⟩, _⟩ := hs.mem
    obtain ⟨_, cs, hr'⟩ := ownsRow_row hx hg
    exact ⟨cs, _, hr', Or.inr rfl⟩
  rintro e w' ⟨rfl, own', memv', rb', h1, h2, h3, h4, h5, h6, h7⟩
  have hnot : ∀ k cs t, Row w k cs t → t ≠ 90 → t ≠ 99 → ¬ (own k ∧ ∃ cs t, Row w k cs t ∧ (t = 90 ∨ t = 99)) := by
    rintro k cs t hr h1 h2 ⟨_, cs', t', hr', h⟩
    rcases h with rfl | rfl
    · exact hr.ne hr' h1 rfl
    · exact hr.ne hr' h2 rfl
  refine ⟨rfl, fun k => own k ∨ own' k, fun k hk => Or.inl hk, fun k hk => ?_, ⟨inv, outv, memv', rb', h6, Or.inl hmine, ⟨?_, ?_, fun g hg => Or.inl (hs.outo g hg), ?_, fun g hg => Or.inr (h5 g hg), fun k hk => ?_⟩⟩, h7.mono (fun k hk => Or.inl ?_)⟩
  · rcases hk with hk | hk
    · exact Or.inl hk
    · rcases h2 k hk with h | h
      · exact Or.inl h.1
      · exact Or.inr h
  · exact hs.inp.below (fun b o hb' => World.cell?_of_block (a := ⟨b, o, none⟩) (h7.block b (by omega) (fun hf => by rcases hf with hf | hf; have := hs.own b hf.1; omega; omega)))
  · refine ownsRow_wr hs.out h7 (fun g hg hf => ?_)
    obtain ⟨_, cs, hr'⟩ := ownsRow_row hs.out hg
    rcases hf with hf | hf
    · exact hnot g cs _ hr' (by decide) (by decide) hf
    · subst hf; exact hr'.ne hr (by decide) rfl
  · obtain ⟨a, b, c, d⟩ := h4
    exact ⟨a, fun k x hk hx => ⟨Or.inr (b k x hk hx).1, (b k x hk hx).2⟩, c, d⟩
  · rcases hk with hk | hk
    · have := hs.own k hk; have := h7.size; exact ⟨by omega, by omega⟩
    · refine ⟨?_, h3 k hk⟩
      rcases h2 k hk with h | h
      · exact (hs.own k h.1).1
      · omega
  · rcases hk with hk | rfl
    · exact hk.1
    · exact hmine
end Go.Proofs.Ytjkgpolikpochaa
namespace Go.Proofs.Ytjkgpolikpochaa
open Go.RowKit

/-- A program as the machine holds it. -/
def ProgAt (w : World) (B : Nat) (P : Value × Value × Value) (p : ProgS) : Prop :=
  SliceAt w B 3 (ObE w B) p.globs P.1 ∧ SliceAt w B 4 (GraphE w B) p.funcs P.2.1 ∧ P.2.2 = .int .i64 p.main ∧ In64 p.main

theorem ProgAt.below {w w' : World} {B : Nat} {P : Value × Value × Value} {p : ProgS} (h : ProgAt w B P p) (hb : Below B w w') : ProgAt w' B P p :=
  ⟨h.1.below hb (Nat.le_refl _) fun _ _ h => h.below hb (Nat.le_refl _), h.2.1.below hb (Nat.le_refl _) fun _ _ h => h.below hb (Nat.le_refl _), h.2.2⟩

/-- What a call answers. -/
def CallSays (base mc : Nat) (own : Nat → Prop) (P : Value × Value × Value) (fuel : Int) (r : Option V × St) (w : World) (e : Ending) (w' : World) : Prop :=
  e = .returned (ansV r.1) ∧ ∃ own' : Nat → Prop, (∀ k, own k → own' k) ∧ (∀ k, own' k → own k ∨ w.heap.size ≤ k) ∧ Mach w' base mc own' P fuel r.2 ∧ Wr own w w'

/-- What is always true of the machine while it runs. -/
structure Inv (fuel : Int) (s : St) : Prop where
  kind : s.kind = 0
  lo : 0 ≤ s.steps
  hi : s.steps ≤ fuel
  many : s.mem.length ≤ 20 + s.steps.toNat
  mem : MemOk s.mem

/-- What a step keeps. -/
structure Kept (fuel : Int) (s : St) (tp : List V) (lo : List Nat) (ng : Nat) (s' : St) (tp' : List V) : Prop where
  inv : Inv fuel s'
  fr : FrOk s'.mem tp' lo ng
  calls : s'.calls = s.calls
  grow : s.mem.length ≤ s'.mem.length
  steps : s.steps ≤ s'.steps
  len : tp'.length = tp.length

/-- A step of a function of so many locals, in a program of so many globals, is walked right. -/
def DoesOk (R : CallR) (fuel : Int) (p : ProgS) (d : Int) (ng : Nat) (nt nl : Nat) (x : StepS) : Prop :=
  ∀ (base mc : Nat) (own : Nat → Prop) (P : Value × Value × Value) (s : St) (fb tb : Nat) (G : Value × Value × Value × Value) (tp : List V) (lv : Value) (lo : List Nat) (A : Option Addr) (n cap : Nat) (w : World),
    Mach w base mc own P fuel s → ProgAt w base P p → Inv fuel s → s.calls = d → FrameAt w fb G tb tp lv lo → OffAt base own fb tb lv → FrOk s.mem tp lo ng → tp.length = nt → lo.length = nl → KidsV w base x.args A n →
    Calls Try.prog 65 #[.pointer (some ⟨mc, 0, none⟩), .pointer (some ⟨fb, 0, none⟩), .agg #[.int .i64 x.op, .int .i64 x.to, .int .i64 x.size, .int .i64 x.fn, .slice A n cap]] w fun e w' =>
      DoesSays base mc own P fuel fb tb G lv lo (doesF R fuel lo s tp x) w e w' ∧ ((doesF R fuel lo s tp x).1 = true → Kept fuel s tp lo ng (doesF R fuel lo s tp x).2.1 (doesF R fuel lo s tp x).2.2)

theorem countsF_append (a b : List ObS) : countsF (a ++ b) = countsF a + countsF b := by
  induction a with
  | nil => simp [countsF]
  | cons o l ih => simp [countsF, ih]; omega
theorem countsF_bd {l : List ObS} (h : ∀ o, o ∈ l → ObOk o) : (l.length : Int) ≤ countsF l ∧ countsF l ≤ 64 * l.length := by
  induction l with
  | nil => simp [countsF]
  | cons o l ih =>
    have h1 := ih fun x hx => h x (List.mem_cons_of_mem _ hx)
    obtain ⟨_, h2, h3, _⟩ := h o (by simp)
    simp only [countsF, List.length_cons]
    omega
theorem makesF_append (M : List MO) (a b : List ObS) : makesF M (a ++ b) = makesF (makesF M a) b := by
  induction a generalizing M with
  | nil => rfl
  | cons o l ih => exact ih _
theorem makeF_length (M : List MO) (o : ObS) : (makeF M o).length = (memBase M).length + 1 := by simp [makeF_eq]
theorem memBase_length (M : List MO) : (memBase M).length = if M = [] then 1 else M.length := by
  unfold memBase; split <;> rfl
theorem makesF_length (M : List MO) (l : List ObS) : (makesF M l).length = if l = [] then M.length else (memBase M).length + l.length := by
  induction l generalizing M with
  | nil => rfl
  | cons o l ih =>
    simp only [makesF, ih]
    have h1 := makeF_length M o
    have h2 : memBase (makeF M o) = makeF M o := by unfold memBase; rw [if_neg (by intro h; rw [h] at h1; simp at h1)]
    rw [h2, h1]
    by_cases h : l = []
    · simp [h]
    · simp [h]; omega
end Go.Proofs.Ytjkgpolikpochaa
namespace Go.Proofs.Ytjkgpolikpochaa
open Go.RowKit

theorem int_info : (Try.prog.info? 3).map (fun i => (i.zero, i.size, i.bytes)) = some (some (.int .i64 0), 1, 8) := by kernel_rfl

/-- The state when so many locals are made. -/
structure LocsAt (base mc : Nat) (own : Nat → Prop) (P : Value × Value × Value) (fuel : Int) (s : St) (fb tb nt : Nat) (g : GraphS) (LA : Option Addr) (lcap : Nat) (BA : Option Addr) (bcap : Nat) (M : List MO) (w : World) (gr : Nat) (w1 wr : World) (k : Nat) (own1 : Nat → Prop) (lvk : Value) : Prop where
  mach : Mach wr base mc own1 P fuel { s with mem := makesF M (g.locs.take k) }
  frow : Row wr fb #[.int .i64 g.params, .int .i64 nt, .slice LA g.locs.length lcap, .slice BA g.blocks.length bcap, .slice (some ⟨tb, 0, none⟩) nt nt, lvk] 103
  trow : VRow wr tb (List.replicate nt ⟨0, 0⟩)
  grow : Row wr gr #[.int .i64 g.params, .int .i64 nt, .slice LA g.locs.length lcap, .slice BA g.blocks.length bcap] 77
  rrow : Row wr w.heap.size #[.int .i64 0, .int .i64 0] 90
  locs : wr.ownsRow w1.heap.size 3 1 lvk k ((numsF M k).map fun x => .int .i64 (x : Nat))
  up : ∀ i, own i → own1 i
  down : ∀ i, own1 i → own i ∨ w1.heap.size ≤ i
  noloc : ∀ i, lvk.ownBlock = some i → ¬ own1 i
  wr : Wr (fun b => own b ∨ b = fb) w1 wr

theorem memBase_makes (M : List MO) (l : List ObS) : (memBase (makesF M l)).length = (memBase M).length + l.length := by
  have h := makesF_length M l
  by_cases hl : l = []
  · subst hl; rfl
  · rw [if_neg hl] at h
    have hp := memBase_pos M
    rw [memBase_length, if_neg (by intro e; rw [e] at h; simp at h; omega), h]
theorem memBase_makes_take (M : List MO) (l : List ObS) (k : Nat) (hk : k ≤ l.length) : (memBase (makesF M (l.take k))).length = (memBase M).length + k := by rw [memBase_makes, List.length_take, Nat.min_eq_left hk]
theorem numsF_succ (M : List MO) (k : Nat) : numsF M (k + 1) = numsF M k ++ [(memBase M).length + k] := by
  unfold numsF
  rw [List.range_succ, List.map_append, memBase_length]
  rfl
theorem numsF_length (M : List MO) (k : Nat) : (numsF M k).length = k := by simp [numsF]
theorem own_drew0 {w : World} {base : Nat} {e : TypeId} {size : Nat} {v : Value} {n : Nat} {xs : List Value} (h : w.ownsRow base e size v n xs) : w.drew.ownsRow base e size v n xs :=
  ownsRow_wr h (Wr.of_below (F := fun _ => False) (Below.refl _ _).drew) (fun _ _ h => h)
theorem own_one {w : World} {base : Nat} {e : TypeId} {size : Nat} {v : Value} {n : Nat} {xs : List Value} (h : w.ownsRow base e size v n xs) (o : Obj) : (w.alloc o).ownsRow base e size v n xs :=
  ownsRow_wr h (Wr.of_below (F := fun _ => False) (below1 w o)) (fun _ _ h => h)
theorem ValCells.wr1 {F : Nat → Prop} {w w' : World} {b off : Nat} {v : V} (h : ValCells w b off v) (hw : Wr F w w') (hF : ¬ F b) (hlt : b < w.heap.size) : ValCells w' b off v :=
  ⟨(World.cell?_of_block (a := ⟨b, off, none⟩) (hw.block b hlt hF)).trans h.1, (World.cell?_of_block (a := ⟨b, off + 1, none⟩) (hw.block b hlt hF)).trans h.2⟩
theorem ValCells.wr2 {F G : Nat → Prop} {w w1 w2 : World} {b off : Nat} {v : V} (h : ValCells w b off v) (hw : Wr F w w1) (hF : ¬ F b) (hlt : b < w.heap.size) (hw2 : Wr G w1 w2) (hG : ¬ G b) (hlt2 : b < w1.heap.size) : ValCells w2 b off v :=
  (h.wr1 hw hF hlt).wr1 hw2 hG hlt2
theorem start_next {args : List V} {k nt : Nat} {v : V} (hk : k < nt) (hv : args[k]? = some v) (hn : k < args.length) : (args.take k ++ List.replicate (nt - k) (⟨0, 0⟩ : V)).set k v = args.take (k + 1) ++ List.replicate (nt - (k + 1)) (⟨0, 0⟩ : V) := by
  have h1 : (args.take k).length = k := by rw [List.length_take]; omega
  rw [List.take_add_one, hv, List.set_append_right _ _ (by omega), h1, Nat.sub_self]
  rw [show nt - k = (nt - (k + 1)) + 1 by omega, List.replicate_succ]
  simp
theorem cells_new (w : World) (cs : List Value) (t : TypeId) : ∀ (j : Nat) (u : Value), cs[j]? = some u → (w.alloc (.cells cs.toArray t)).cell? ((⟨w.heap.size, 0, none⟩ : Addr).add j) = some u := by
  intro j u hj
  rw [addr0]
  exact (Row.new w cs.toArray t).cell (by simpa using hj)

/-- One local more. -/
theorem locs_next {base mc fb tb nt lcap bcap gr k gg cap3 : Nat} {own own1 own2 : Nat → Prop} {P : Value × Value × Value} {fuel : Int} {s : St} {g : GraphS} {LA BA : Option Addr} {M : List MO} {w w1 wr w2 w3 : World} {lvk : Value} {o : ObS}
    (hL : LocsAt base mc own P fuel s fb tb nt g LA lcap BA bcap M w gr w1 wr k own1 lvk) (ho : g.locs[k]? = some o)
    (hu2 : ∀ i, own1 i → own2 i) (hd2 : ∀ i, own2 i → own1 i ∨ wr.drew.heap.size ≤ i) (hM2 : Mach w2 base mc own2 P fuel { s with mem := makeF (makesF M (g.locs.take k)) o }) (hw2 : Wr own1 wr.drew w2)
    (hbw : base ≤ w1.heap.size) (hbf : base ≤ fb) (hfb : ¬ own fb ∧ fb < w1.heap.size) (htb : ¬ own tb ∧ tb < w1.heap.size) (hgr : ¬ own gr ∧ gr < w1.heap.size) (hrr : ¬ own w.heap.size ∧ w.heap.size < w1.heap.size)
    (hown3 : w3.ownsRow w1.heap.size 3 1 (.slice (some ⟨gg, 0, none⟩) (k + 1) cap3) (k + 1) ((numsF M k).map (fun x => Value.int .i64 (x : Nat)) ++ [.int .i64 ((memBase (makesF M (g.locs.take k))).length : Nat)]))
    (hgrow : (w2.alloc (.cells #[.int .i64 ((memBase (makesF M (g.locs.take k))).length : Nat)] 3)).grownBy w3 lvk.ownBlock) (hat : lvk.ownBlock = some gg ∨ gg = w2.heap.size + 1) :
    LocsAt base mc own P fuel s fb tb nt g LA lcap BA bcap M w gr w1 (w3.setCell ⟨fb, 5, none⟩ (.slice (some ⟨gg, 0, none⟩) (k + 1) cap3)) (k + 1) own2 (.slice (some ⟨gg, 0, none⟩) (k + 1) cap3) := by
  obtain ⟨l1, l2, l3, l4, l5, l6, l7, l8, l9, l10⟩ := hL
  have hz := l10.size
  have hz2 := hw2.size
  simp only [World.size_drew] at hz2 hd2
  have hkl : k < g.locs.length := by
    rcases Nat.lt_or_ge k g.locs.length with h | h
    · exact h
    · rw [List.getElem?_eq_none h] at ho; cases ho
  have htk : g.locs.take (k + 1) = g.locs.take k ++ [o] := by rw [List.take_add_one, ho]; rfl
  have hn1 : ∀ i, ¬ own i → i < w1.heap.size → ¬ own1 i := fun i h1 h2 h => by rcases l8 i h with h | h; exact h1 h; omega
  have hn2 : ∀ i, ¬ own1 i → i < wr.heap.size → ¬ own2 i := fun i h1 h2 h => by rcases hd2 i h with h | h; exact h1 h; omega
  have hwg : Wr (fun i => lvk.ownBlock = some i) w2 w3 := (Wr.of_below (F := fun i => lvk.ownBlock = some i) (below1 w2 (.cells #[.int .i64 ((memBase (makesF M (g.locs.take k))).length : Nat)] 3))).trans (Wr.grown (F := fun i => lvk.ownBlock = some i) hgrow (fun i hi => hi)) (fun i hi => Or.inl hi)
  have hlr : ∀ i, lvk.ownBlock = some i → w1.heap.size ≤ i ∧ ∃ cs, Row wr i cs 3 := fun i hi => ownsRow_row l6 hi
  have hws := Wr.cell1 w3 fb 5 (.slice (some ⟨gg, 0, none⟩) (k + 1) cap3)
  have hall : ∀ i, ¬ own i → i < w1.heap.size → ∀ cs t, Row wr i cs t → Row w3 i cs t := fun i h1 h2 cs t hr =>
    (hr.drew.wr hw2 (hn1 i h1 h2)).wr hwg (fun h => by have := (hlr i h).1; omega)
  have hggb : ∀ i, (Value.slice (some ⟨gg, 0, none⟩) (k + 1) cap3).ownBlock = some i → i = gg := fun i hi => by simp only [Value.ownBlock, Option.some.injEq] at hi; exact hi.symm
  have hnf : ¬ gg = fb := by
    intro e
    obtain ⟨_, cs', hr⟩ := ownsRow_row hown3 (g := gg) rfl
    subst e
    exact hr.ne (hall _ hfb.1 hfb.2 _ _ l2) (by decide) rfl
  have hb2 : base ≤ w2.heap.size := by obtain ⟨_, _, _, _, h⟩ := hM2; have := h.rest.own mc h.mine; omega
  have hbo : ∀ i, own2 i → base ≤ i := by obtain ⟨_, _, _, _, h⟩ := hM2; exact fun i hi => (h.rest.own i hi).1
  have hrw : ∀ i, lvk.ownBlock = some i → i < wr.heap.size := fun i hi => by obtain ⟨cs, hr⟩ := (hlr i hi).2; exact hr.lt
  have hne : ∀ i, ¬ own i → i < w1.heap.size → ∀ cs t, Row wr i cs t → t ≠ 103 → Row (w3.setCell ⟨fb, 5, none⟩ (.slice (some ⟨gg, 0, none⟩) (k + 1) cap3)) i cs t := fun i h1 h2 cs t hr ht =>
    (hall i h1 h2 cs t hr).wr hws (fun h => (hall i h1 h2 cs t hr).ne (hall _ hfb.1 hfb.2 _ _ l2) ht h)
  refine ⟨?_, (hall _ hfb.1 hfb.2 _ _ l2).set 5 _, ?_, hne _ hgr.1 hgr.2 _ _ l4 (by decide), hne _ hrr.1 hrr.2 _ _ l5 (by decide), ?_, fun i hi => hu2 i (l7 i hi), fun i hi => ?_, fun i hi => ?_, ?_⟩
  · have e : makesF M (g.locs.take (k + 1)) = makeF (makesF M (g.locs.take k)) o := by rw [htk, makesF_append]; rfl
    rw [e]
    refine hM2.wr (F := fun i => lvk.ownBlock = some i ∨ i = fb) ((hwg.mono (fun i hi => Or.inl (Or.inl hi))).trans hws (fun i hi => Or.inl (Or.inr hi))) (fun i hi => ?_)
    rcases hi with hi | rfl
    · exact ⟨by have := (hlr i hi).1; omega, hn2 i (l9 i hi) (hrw i hi)⟩
    · exact ⟨hbf, hn2 i (hn1 i hfb.1 hfb.2) (by omega)⟩
  · obtain ⟨cv, h1, h2⟩ := l3
    exact ⟨cv, hne _ htb.1 htb.2 _ _ h1 (by decide), h2⟩
  · rw [numsF_succ, List.map_append, ← memBase_makes_take M g.locs k (by omega)]
    exact ownsRow_wr hown3 hws (fun i hi h => hnf ((hggb i hi).symm.trans h))
  · rcases hd2 i hi with h | h
    · exact l8 i h
    · exact Or.inr (by omega)
  · rw [hggb i hi]
    rcases hat with h | h
    · exact hn2 gg (l9 gg h) (hrw gg h)
    · intro h'
      obtain ⟨_, _, _, _, hq⟩ := hM2
      have := (hq.rest.own gg h').2
      omega
  · refine (((l10.trans (Wr.of_below (F := fun _ => False) (Below.refl _ _).drew) (fun i hi => hi.elim)).trans hw2 (fun i hi => ?_)).trans hwg (fun i hi => Or.inr (hlr i hi).1)).trans hws (fun i hi => Or.inl (Or.inr hi))
    rcases l8 i hi with h | h
    · exact Or.inl (Or.inl h)
    · exact Or.inr h
end Go.Proofs.Ytjkgpolikpochaa
namespace Go.Proofs.Ytjkgpolikpochaa
open Go.RowKit

/-- A call that answers a tree of its own. -/
def TreeEnd (t : T) (w : World) (e : Ending) (w' : World) : Prop :=
  ∃ u0 u1 u2, e = .returned (.agg #[u0, u1, u2]) ∧ OwnT w' (fun i => w.heap.size ≤ i ∧ i < w'.heap.size) t u0 u1 u2 ∧ Below w.heap.size w w'
def CopySaid (m : Nat) : Prop := ∀ (t : T) (B : Nat) (w : World) (v0 v1 v2 : Value), t.size ≤ m → t.size ≤ 1000000000 → B ≤ w.heap.size → TreeAt w (Under B) t v0 v1 v2 →
    Calls Try.prog 10 #[.agg #[v0, v1, v2]] w (TreeEnd t w)
theorem treeEnd_mk {w w1 W : World} {X S : Nat → Prop} {base k : Nat} {lv : Value} {ts : List T} {xs : List Value} {op x : Int} (h1 : Below w.heap.size w w1) (hR : RowAt base w1 lv k ts xs S) (hk : ts.length = k) (ho : In64 op) (hx : In64 x) (hw : Wr X w1 W) (hX : ∀ i, X i → w.heap.size ≤ i ∧ i < base) (hb : w.heap.size ≤ base) :
    TreeEnd (.node op x ts) w (.returned (.agg #[.int .i64 op, .int .i64 x, lv])) W := by
  have hz := h1.size
  have hR2 := hR.wr hw (fun i hi => ⟨fun hs => by have := (hR.sb i hs).1; have := (hX i hi).2; omega, fun hl => by have := (hR.lt hl).1; have := (hX i hi).2; omega⟩)
  refine ⟨_, _, _, rfl, OwnT.mono _ (hR2.node hk ho hx) (fun i hi => ?_), h1.trans (hw.below hz (fun i hi => (hX i hi).1))⟩
  rcases hi with hi | hi
  · have := hR2.sb i hi; exact ⟨by omega, this.2.1⟩
  · have := hR2.lt hi; exact ⟨by omega, this.2⟩
def RowEnd (ks : List T) (w : World) (e : Ending) (w' : World) : Prop :=
  ∃ lv xs S, e = .returned lv ∧ RowAt w.heap.size w' lv ks.length ks xs S ∧ Below w.heap.size w w'

set_option maxRecDepth 100000 in
set_option maxHeartbeats 4000000 in
theorem copyTrees_of (m : Nat) (ih : CopySaid m) (ks : List T) (A : Option Addr) (n cap B : Nat) (w : World) (hm : T.sizes ks ≤ m) (hm2 : T.sizes ks ≤ 1000000000) (hB : B ≤ w.heap.size) (hv : KidsV w B ks A n) :
    Calls Try.prog 22 #[.slice A n cap] w (RowEnd ks w) := by
  obtain ⟨hkn, hn, _⟩ := id hv
  subst hkn
  have hns := T.length_sizes ks
  have HV := Lib.hid hv
  have IH := Lib.hid ih
  clear hv ih
  obtain ⟨i0, hi, hz0, hz1, hz2⟩ := info_parts tree_info
  go_enter Try.func22, Try.ntmps22
  refine wp_letter (fun Q hQ => ?_)
  have HQ := Lib.hid hQ
  clear hQ
  go_wp2_with fail
  go_loopw [3, 4] (fun l i wr => ∃ (k : Nat) (LA : Option Addr) (ln lc : Nat) (xs : List Value) (S : Nat → Prop), k ≤ ks.length ∧ i = .int .i64 k ∧ l = .slice LA ln lc ∧ RowAt w.heap.size wr (.slice LA ln lc) k (ks.take k) xs S ∧ Below w.heap.size w wr) (fun _ i _ => ks.length - (intOf i).toNat)
  case atStart => exact ⟨0, none, 0, 0, [], fun _ => False, by omega, rfl, rfl, RowAt.nil _ _, Below.refl _ _⟩
  case round =>
    obtain ⟨k, LA, ln, lc, xs, S, hk, rfl, rfl, hR, hbw⟩ := hrel
    have HR := Lib.hid hR
    have HBW := Lib.hid hbw
    have hzw := hbw.size
    by_cases hlt : k < ks.length
    · obtain ⟨b, off, t, v0, v1, v2, rfl, hb, hk1, c0, c1, c2, ht⟩ := (HV.out.below (hbw.mono hB) (Nat.le_refl _)).get hlt
      have hts := T.sizes_get hk1
      have HC := Lib.hid (IH.out t B wr v0 v1 v2 (by omega) (by omega) (by omega) ht)
      have HK1 := Lib.hid hk1
      have hklt : (k : Int) < (ks.length : Int) := by omega
      have hbl : b < wr.heap.size := by omega
      obtain ⟨a0, b0, A0, n0, cc0, rfl, rfl, rfl⟩ := ht.shape0
      clear hR hbw hk1 ht hts
      go_wp2_with fail
      refine HC.out.mono ?_
      rintro e w1 ⟨u0, u1, u2, rfl, hO, hb1⟩
      obtain ⟨A1, n1, cc1, rfl, rfl, rfl, _, _⟩ := hO.shape
      have hz1' := hb1.size
      have HO := Lib.hid hO
      have HB1 := Lib.hid hb1
      clear hO hb1
      go_wp2_with (at_builtin; refine wpList_append_lies _ rfl (.tmp 11) (.tmp 17) 22 rfl w.heap.size 28 i0 (.agg #[.int .i64 0, .int .i64 0, .slice none 0 0]) 3 40 Try.underlying22 hi hz0 hz1 hz2 rfl (by decide) _ k xs rfl (by exact (ownsRow_wr HR.out.own ((Wr.of_below (F := fun _ => False) HB1.out).allocR _) (fun _ _ h => h))) ⟨w1.heap.size, 0, none⟩ 1 1 [.int .i64 t.op, .int .i64 t.n, .slice A1 n1 cc1] rfl rfl ?c1 ?c2 (by decide) ?c3 ?c4 ?c5 _ rfl ?_)
      case c1 => exact cells_new _ _ _
      case c2 => intro u hu; simp at hu; rcases hu with rfl | rfl | rfl <;> rfl
      case c3 => unfold maxLen; omega
      case c4 => omega
      case c5 => simp; omega
      · intro g cap' w3 hown3 hgrow hat hglt
        have HN := Lib.hid (RowAt.next (X := fun _ => False) HR.out (by omega) (Wr.of_below HB1.out) HO.out (fun i hi => hi) (Wr.of_below (below1 w1 _)) hown3 hgrow (by simpa using hat) (Wr.refl _ _) (fun i hi => hi.elim))
        have HBN := Lib.hid (show Below w.heap.size w w3 from (HBW.out.trans (HB1.out.mono hzw)).trans (((Below.refl _ _).alloc (by omega) _).grown hgrow (by simp; omega) (fun g hg => by have := (HR.out.lt hg); omega)))
        clear hown3 hgrow hat
        go_wp2_with fail
        go_roundw
        case rel => exact ⟨k + 1, _, _, _, _, _, by omega, by go_num, rfl, by rw [take_succ_of HK1.out]; exact HN.out, HBN.out⟩
        case measure => simp [intOf]; omega
    · obtain rfl : k = ks.length := by omega
      rw [List.take_length] at hR
      have HR2 := Lib.hid hR
      clear hR hbw
      go_wp2_with fail
      refine HQ.out _ _ _ ?_
      exact bodyPost_ret (v := .slice LA ln lc) (by simp [results, Try.results22, go_sem]) rfl ⟨_, xs, S, rfl, HR2.out, HBW.out⟩

set_option maxRecDepth 100000 in
set_option maxHeartbeats 4000000 in
theorem copy_all (m : Nat) : CopySaid m := by
  induction m with
  | zero => intro t _ _ _ _ _ hm; have := t.size_pos; omega
  | succ m ih =>
    rintro ⟨op, x, ks⟩ B w v0 v1 v2 hm hm2 hB hv
    obtain ⟨A, cap, len, rfl, rfl, ho64, hx64, rfl, hk⟩ := KidsV.of_tree hv
    simp only [T.size] at hm hm2
    have HO64 := Lib.hid ho64
    have HX64 := Lib.hid hx64
    have HC := Lib.hid (fun W (hb : Below w.heap.size w W) => copyTrees_of m ih ks A len cap B W (by omega) (by omega) (by have := hb.size; omega) (hk.below (hb.mono hB) (Nat.le_refl _)))
    have HB3 := Lib.hid (below3 w (.cells #[.int .i64 op, .int .i64 x, .slice A len cap] 28) (.cells #[.int .i64 0, .int .i64 0, .slice none 0 0] 28) (.cells #[.int .i64 op, .int .i64 x, .slice A len cap] 28))
    clear hv hk ih hm ho64 hx64
    go_enter Try.func10, Try.ntmps10
    refine wp_letter (fun Q hQ => ?_)
    have HQ := Lib.hid hQ
    clear hQ
    go_wp2_with fail
    refine (HC.out _ (by exact HB3.out)).mono ?_
    rintro e w1 ⟨lv, xs, S, rfl, hR, hb1⟩
    obtain ⟨LA, ln, lc, rfl⟩ : ∃ A n c, lv = .slice A n c := (by obtain ⟨_, h | ⟨g, c, cur, h, _⟩⟩ := hR.own; exact ⟨_, _, _, h.1⟩; exact ⟨_, _, _, h⟩)
    have hz1 : w.heap.size + 1 + 1 + 1 ≤ w1.heap.size := by have := hb1.size; simpa using this
    have q0 : w1.cell? ⟨w.heap.size + 1, 0, none⟩ = some (.int .i64 0) := cell_below (by simp [go_sem]) hb1 (by simp)
    have q1 : w1.cell? ⟨w.heap.size + 1, 1, none⟩ = some (.int .i64 0) := cell_below (by simp [go_sem]) hb1 (by simp)
    have q2 : w1.cell? ⟨w.heap.size + 1, 2, none⟩ = some (.slice none 0 0) := cell_below (by simp [go_sem]) hb1 (by simp)
    have x0 : w1.cell? ⟨w.heap.size + 1 + 1, 0, none⟩ = some (.int .i64 op) := cell_below (by simp [go_sem]) hb1 (by simp)
    have x1 : w1.cell? ⟨w.heap.size + 1 + 1, 1, none⟩ = some (.int .i64 x) := cell_below (by simp [go_sem]) hb1 (by simp)
    have x2 : w1.cell? ⟨w.heap.size + 1 + 1, 2, none⟩ = some (.slice A len cap) := cell_below (by simp [go_sem]) hb1 (by simp)
    have f0 : w1.frozen? ⟨w.heap.size + 1, 0, none⟩ = false := ((bcell hb1).2 _ _ (by simp)).trans (by simp [go_sem])
    have f1 : w1.frozen? ⟨w.heap.size + 1, 1, none⟩ = false := ((bcell hb1).2 _ _ (by simp)).trans (by simp [go_sem])
    have f2 : w1.frozen? ⟨w.heap.size + 1, 2, none⟩ = false := ((bcell hb1).2 _ _ (by simp)).trans (by simp [go_sem])
    have g2 : w1.frozen? ⟨w.heap.size + 1 + 1, 2, none⟩ = false := ((bcell hb1).2 _ _ (by simp)).trans (by simp [go_sem])
    have HR := Lib.hid hR
    have HB1 := Lib.hid (HB3.out.trans (hb1.mono (by simp; omega)))
    clear hR hb1
    go_wp2_with fail
    refine HQ.out _ _ _ ?_
    refine bodyPost_ret (v := .agg #[.int .i64 op, .int .i64 x, .slice LA ln lc]) (by simp [results, Try.results10, go_sem, q0, q1, q2]) rfl ?_
    refine treeEnd_mk (X := fun i => i = w.heap.size + 1 ∨ i = w.heap.size + 1 + 1) HB1.out HR.out rfl HO64.out HX64.out ?_ (fun i hi => by simp; omega) (by simp; omega)
    repeat (first | (with_reducible exact Wr.refl _ _) | (with_reducible refine Wr.drewR ?_) | (with_reducible refine Wr.allocR ?_ _) | (with_reducible refine Wr.setR ?_ _ _ _ (Or.inl ?_)) | exact Or.inl rfl | exact Or.inr rfl)
end Go.Proofs.Ytjkgpolikpochaa
namespace Go.Proofs.Ytjkgpolikpochaa
open Go.RowKit

def leafB (op : Int) : Bool := decide (1 ≤ op ∧ op ≤ 4)
def arityI (op : Int) : Int := if 1 ≤ op ∧ op ≤ 4 then 0 else if 12 ≤ op ∧ op ≤ 30 then 2 else 1

theorem leaf_any (op : Int) (w : World) :
    Calls Try.prog 36 #[.int .i64 op] w fun e w' => e = .returned (.bool (leafB op)) ∧ w = w' := by
  unfold leafB
  go_enter Try.func36, Try.ntmps36
  go_wp2
  all_goals go_ret
  · exact ⟨ret_b (by simp [*]), rfl⟩
  · exact ⟨ret_b (by simp; omega), rfl⟩
theorem load_any' (op : Int) (w : World) :
    Calls Try.prog 37 #[.int .i64 op] w fun e w' => e = .returned (.bool (loadB op)) ∧ w = w' := by
  unfold loadB
  go_enter Try.func37, Try.ntmps37
  go_wp2
  all_goals go_ret
  · exact ⟨ret_b (by simp [*]), rfl⟩
  · exact ⟨ret_b (by simp; omega), rfl⟩
theorem is_any (op : Int) (w : World) :
    Calls Try.prog 53 #[.int .i64 op] w fun e w' => e = .returned (.bool (decide (1 ≤ op ∧ op ≤ 36))) ∧ w = w' := by
  go_enter Try.func53, Try.ntmps53
  go_wp2
  all_goals go_ret
  · exact ⟨ret_b (by simp [*]), rfl⟩
  · exact ⟨ret_b (by simp; omega), rfl⟩
theorem unary_any (op : Int) (w : World) :
    Calls Try.prog 58 #[.int .i64 op] w fun e w' => e = .returned (.bool (decide (31 ≤ op ∧ op ≤ 36))) ∧ w = w' := by
  go_enter Try.func58, Try.ntmps58
  go_wp2
  all_goals go_ret
  · exact ⟨ret_b (by simp [*]), rfl⟩
  · exact ⟨ret_b (by simp; omega), rfl⟩
theorem binary_any (op : Int) (w : World) :
    Calls Try.prog 55 #[.int .i64 op] w fun e w' => e = .returned (.bool (decide (12 ≤ op ∧ op ≤ 30))) ∧ w = w' := by
  go_enter Try.func55, Try.ntmps55
  go_wp2
  all_goals go_ret
  · exact ⟨ret_b (by simp [*]), rfl⟩
  · exact ⟨ret_b (by simp; omega), rfl⟩

set_option maxHeartbeats 1000000 in
theorem arity_any (op : Int) (w : World) :
    Calls Try.prog 54 #[.int .i64 op] w fun e w' => e = .returned (.int .i64 (arityI op)) ∧ w = w' := by
  have HL := Lib.hid (leaf_any op w)
  have HB := Lib.hid (binary_any op w)
  unfold arityI
  unfold leafB at HL
  by_cases h1 : 1 ≤ op ∧ op ≤ 4
  · rw [if_pos h1]
    rw [decide_eq_true h1] at HL
    clear h1
    go_enter Try.func54, Try.ntmps54
    go_wp2_with (go_at_call 36; refine HL.out.mono ?_; rintro e w' ⟨rfl, rfl⟩)
    go_ret
    exact ⟨rfl, rfl⟩
  · rw [if_neg h1]
    rw [decide_eq_false h1] at HL
    by_cases h2 : 12 ≤ op ∧ op ≤ 30
    · rw [if_pos h2]
      rw [decide_eq_true h2] at HB
      clear h1 h2
      go_enter Try.func54, Try.ntmps54
      go_wp2_with (first | (go_at_call 36; refine HL.out.mono ?_; rintro e w' ⟨rfl, rfl⟩) | (go_at_call 55; refine HB.out.mono ?_; rintro e w' ⟨rfl, rfl⟩))
      go_ret
      exact ⟨rfl, rfl⟩
    · rw [if_neg h2]
      rw [decide_eq_false h2] at HB
      clear h1 h2
      go_enter Try.func54, Try.ntmps54
      go_wp2_with (first | (go_at_call 36; refine HL.out.mono ?_; rintro e w' ⟨rfl, rfl⟩) | (go_at_call 55; refine HB.out.mono ?_; rintro e w' ⟨rfl, rfl⟩))
      go_ret
      exact ⟨rfl, rfl⟩

theorem con_any (n : Int) (w : World) :
    Calls Try.prog 38 #[.int .i64 n] w fun e w' => e = .returned (.agg #[.int .i64 1, .int .i64 n, .slice none 0 0]) ∧ Below w.heap.size w w' := by
  go_enter Try.func38, Try.ntmps38
  go_wp2
  exact bodyPost_ret (v := .agg #[.int .i64 1, .int .i64 n, .slice none 0 0]) (by simp [results, Try.results38, go_sem]) rfl ⟨rfl, below1 _ _⟩

def isT (op x n : Int) : Bool := decide (op = 1 ∧ x = n)
set_option maxHeartbeats 1000000 in
theorem isn_any (op x n : Int) (A : Option Addr) (len cap : Nat) (w : World) :
    Calls Try.prog 42 #[.agg #[.int .i64 op, .int .i64 x, .slice A len cap], .int .i64 n] w fun e w' => e = .returned (.bool (isT op x n)) ∧ Below w.heap.size w w' := by
  unfold isT
  by_cases h1 : op = 1
  · subst h1
    have HE := Lib.hid (show decide ((1 : Int) = 1 ∧ x = n) = (x == n) by rw [Bool.eq_iff_iff]; simp)
    rw [HE.out]
    clear HE
    go_enter Try.func42, Try.ntmps42
    go_wp2
    go_ret
    exact ⟨rfl, below1 _ _⟩
  · have d1 : (op == 1) = false := by simpa using h1
    rw [decide_eq_false (fun h => h1 h.1)]
    clear h1
    go_enter Try.func42, Try.ntmps42
    go_wp2
    go_ret
    exact ⟨rfl, below1 _ _⟩

def neutralB (o op x : Int) : Bool := decide (o = 12 ∨ o = 13) && isT op x 0
set_option maxHeartbeats 1000000 in
theorem neutral_any (o op x : Int) (A : Option Addr) (len cap : Nat) (w : World) :
    Calls Try.prog 40 #[.int .i64 o, .agg #[.int .i64 op, .int .i64 x, .slice A len cap]] w fun e w' => e = .returned (.bool (neutralB o op x)) ∧ Below w.heap.size w w' := by
  unfold neutralB
  have HI := Lib.hid (isn_any op x 0 A len cap (w.alloc (.cells #[.int .i64 op, .int .i64 x, .slice A len cap] 28)))
  obtain ⟨q, hq⟩ : ∃ q, q = isT op x 0 := ⟨_, rfl⟩
  rw [← hq] at HI ⊢
  clear hq
  by_cases h1 : o = 12
  · subst h1
    rw [decide_eq_true (Or.inl rfl), Bool.true_and]
    go_enter Try.func40, Try.ntmps40
    go_wp2_with (go_at_call 42; refine HI.out.mono ?_; rintro e w1 ⟨rfl, hb1⟩)
    go_ret
    exact ⟨rfl, (below1 _ _).trans (hb1.mono (by simp))⟩
  · by_cases h2 : o = 13
    · subst h2
      rw [decide_eq_true (Or.inr rfl), Bool.true_and]
      go_enter Try.func40, Try.ntmps40
      go_wp2_with (go_at_call 42; refine HI.out.mono ?_; rintro e w1 ⟨rfl, hb1⟩)
      go_ret
      exact ⟨rfl, (below1 _ _).trans (hb1.mono (by simp))⟩
    · rw [decide_eq_false (by omega), Bool.false_and]
      have d1 : (o == 12) = false := by simpa using h1
      have d2 : (o == 13) = false := by simpa using h2
      clear h1 h2
      go_enter Try.func40, Try.ntmps40
      go_wp2
      go_ret
      exact ⟨rfl, below1 _ _⟩

def againB (o op : Int) : Bool := decide (31 ≤ o ∧ o ≤ 36) && decide (op = o)
set_option maxHeartbeats 1000000 in
theorem again_any (o op x : Int) (A : Option Addr) (len cap : Nat) (w : World) :
    Calls Try.prog 41 #[.int .i64 o, .agg #[.int .i64 op, .int .i64 x, .slice A len cap]] w fun e w' => e = .returned (.bool (againB o op)) ∧ Below w.heap.size w w' := by
  unfold againB
  have HU := Lib.hid (fun W => unary_any o W)
  obtain ⟨q, hq⟩ : ∃ q, q = decide (31 ≤ o ∧ o ≤ 36) := ⟨_, rfl⟩
  rw [← hq] at HU ⊢
  clear hq
  have HE := Lib.hid (show decide (op = o) = (op == o) by rw [Bool.eq_iff_iff]; simp)
  rw [HE.out]
  clear HE
  cases q with
  | false =>
    go_enter Try.func41, Try.ntmps41
    go_wp2_with (go_at_call 58; refine (HU.out _).mono ?_; rintro e w1 ⟨rfl, rfl⟩)
    go_ret
    exact ⟨rfl, below1 _ _⟩
  | true =>
    go_enter Try.func41, Try.ntmps41
    go_wp2_with (go_at_call 58; refine (HU.out _).mono ?_; rintro e w1 ⟨rfl, rfl⟩)
    go_ret
    exact ⟨by simp, below1 _ _⟩
end Go.Proofs.Ytjkgpolikpochaa
