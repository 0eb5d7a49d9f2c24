/- The page's machine: an object is made. Conditions: as stated. What is always true of the page's machine while it runs. No program in sight. No condition. The page's machine: what a call's walk is asked; its plain parts. No condition. The page's machine: a call's locals, made one by one. No condition. The page's machine: a call's blocks. No condition. The page's machine: an object is no more. No program in sight but its name. No condition. The graph's machine over the page's memory: plain laws. No program in sight. Conditions: as stated. An empty memory and one of the object that is none are one to the page's machine: plain laws. No program in sight. No condition. The page's machine, in whole: what a run keeps. Plain laws; no program in sight. No condition. Virtual code as a program of the middle language: each place in a function begins a block. Plain laws; no program in sight. No condition. Kids, Size, Between, Num, IsLoad: small asks. No condition. Whether objects may be (plain). No condition. Which functions of virtual code may be (plain), and that they may be run. No program in sight. No condition. A function's labels, as the program keeps them: a map from numbers to places. No condition. Regions that draw their order: reads, then a tail in one forced order; the reads by the cheap step. No program in sight but its name. No condition. A function's labels: look-ups that say whether, stores. No condition. A region that draws its order: a head whose operations only read and whose callees at most make new memory, then a tail in one forced order. No program in sight. No condition. A region that draws its order, by what holds after each set of its operations. No program in sight. No condition. A region that draws its order and whose operations at most make new memory, by what each operation's result is. No program in sight. No condition. A region that draws its order: a head by what each operation's result is, then a tail in one forced order. No program in sight. No condition. A region that draws its order, makes one box and writes it whole; its other operations at most make new memory. No program in sight. No condition. The graph's heap: how it lies; the walks of its reading functions. Conditions: as stated. -/
import Derived.Test.YtinmgbodgecoeaaMakeZZz
import Derived.Test.YtinmgbodgecoeaaQ02Zz
import Derived.Test.YtinmgbodgecoeaaRefNumZz
import Derived.Test.YtinmgbodgecoeaaQ01Zz
import Derived.Test.YtinmgbodgecoeaaMemAtZz
import Derived.Laws.OwnMore
import Derived.Maps.OwnSet
import Derived.Maps.Views
import Derived.StillTail
import Derived.Deep.Quiet
set_option linter.unusedVariables false
set_option linter.unusedSimpArgs false
namespace Go.Proofs.Ytinmgbodgecoeaa
open Go.RowKit

/-- An object of a program that may be. -/
def ObOk (o : ObS) : Prop := (o.size = 1 ∨ o.size = 2 ∨ o.size = 4 ∨ o.size = 8) ∧ 1 ≤ o.count ∧ o.count ≤ 64 ∧ (o.init.length : Int) ≤ o.count

theorem LongsAt.in64 {w : World} {B : Nat} {l : List Int} {v : Value} (h : LongsAt w B l v) : ∀ x, x ∈ l → In64 x := by
  intro x hx
  obtain ⟨i, hi⟩ := List.mem_iff_getElem?.1 hx
  obtain ⟨A, cap, _, _, h2⟩ := h
  obtain ⟨b, off, _, _, h3⟩ := h2 (by rcases Nat.eq_zero_or_pos l.length with h | h; rw [List.eq_nil_of_length_eq_zero h] at hx; cases hx; exact h)
  exact (h3 i x hi).2

end Go.Proofs.Ytinmgbodgecoeaa
namespace Go.Proofs.Ytinmgbodgecoeaa
open Go.RowKit

/-- An object of small elements holds numbers alone. -/
def NumOk (M : List MO) : Prop := ∀ o, o ∈ M → o.size ≠ 8 → ∀ v, v ∈ o.l → v.obj = 0
/-- What is always true of the machine while it runs. -/
structure GInv (fuel : Int) (s : St) : Prop where
  kind : s.kind = 0
  lo : 0 ≤ s.steps
  hi : s.steps ≤ fuel
  many : (memBase s.mem).length ≤ 20 + s.steps.toNat
  outs : s.out.length ≤ s.steps.toNat
  calls : 0 ≤ s.calls
  deep : 0 ≤ s.deep
  inp : ∀ x, x ∈ s.inp → In64 x
  mem : MemOk (memBase s.mem)
  num : NumOk (memBase s.mem)
structure GKept (fuel : Int) (s s' : St) : Prop where
  inv : GInv fuel s'
  calls : s'.calls = s.calls
  grow : (memBase s.mem).length ≤ (memBase s'.mem).length
  steps : s.steps ≤ s'.steps
theorem GKept.refl {fuel : Int} {s : St} (h : GInv fuel s) : GKept fuel s s := ⟨h, rfl, Nat.le_refl _, Int.le_refl _⟩
theorem GKept.trans {fuel : Int} {a b c : St} (h : GKept fuel a b) (k : GKept fuel b c) : GKept fuel a c := ⟨k.inv, k.calls.trans h.calls, Nat.le_trans h.grow k.grow, Int.le_trans h.steps k.steps⟩
theorem GInv.tick {fuel n : Int} {s : St} (h : GInv fuel s) (hn : 0 ≤ n) (hy : (stepF fuel n s).1 = true) : (stepF fuel n s).2 = { s with steps := s.steps + n } ∧ GInv fuel { s with steps := s.steps + n } := by
  obtain ⟨_, h1, h2⟩ := stepF_yes hy
  have := h.lo
  have := h.many
  have := h.outs
  exact ⟨h2, h.kind, by show 0 ≤ s.steps + n; omega, by show s.steps + n ≤ fuel; omega, by show (memBase s.mem).length ≤ 20 + (s.steps + n).toNat; omega, by show s.out.length ≤ (s.steps + n).toNat; omega, h.calls, h.deep, h.inp, h.mem, h.num⟩
theorem GInv.step1 {fuel : Int} {s : St} (h : GInv fuel s) (hle : s.steps + 1 ≤ fuel) : GInv fuel { s with steps := s.steps + 1 } := by
  have := h.lo
  have := h.many
  have := h.outs
  exact ⟨h.kind, by show 0 ≤ s.steps + 1; omega, hle, by show (memBase s.mem).length ≤ 20 + (s.steps + 1).toNat; omega, by show s.out.length ≤ (s.steps + 1).toNat; omega, h.calls, h.deep, h.inp, h.mem, h.num⟩
end Go.Proofs.Ytinmgbodgecoeaa
namespace Go.Proofs.Ytinmgbodgecoeaa
open Go.RowKit

/-- A program as the machine holds it. -/
def ProgAt (w : World) (B : Nat) (P : Value × Value × Value) (p : ProgS) : Prop :=
  SliceAt w B 3 (ObE w B) p.globs P.1 ∧ SliceAt w B 4 (GraphE w B) p.funcs P.2.1 ∧ P.2.2 = .int .i64 p.main ∧ In64 p.main

theorem ProgAt.below {w w' : World} {B : Nat} {P : Value × Value × Value} {p : ProgS} (h : ProgAt w B P p) (hb : Below B w w') : ProgAt w' B P p :=
  ⟨h.1.below hb (Nat.le_refl _) fun _ _ h => h.below hb (Nat.le_refl _), h.2.1.below hb (Nat.le_refl _) fun _ _ h => h.below hb (Nat.le_refl _), h.2.2⟩

/-- What a step keeps. -/
structure Kept (fuel : Int) (s : St) (tp : List V) (lo : List Nat) (ng : Nat) (s' : St) (tp' : List V) : Prop where
  inv : GInv fuel s'
  fr : FrOk (memBase s'.mem) tp' lo ng
  calls : s'.calls = s.calls
  grow : (memBase s.mem).length ≤ (memBase s'.mem).length
  steps : s.steps ≤ s'.steps
  len : tp'.length = tp.length

theorem countsF_append (a b : List ObS) : countsF (a ++ b) = countsF a + countsF b := by
  induction a with
  | nil => simp [countsF]
  | cons o l ih => simp [countsF, ih]; omega
theorem countsF_bd {l : List ObS} (h : ∀ o, o ∈ l → ObOk o) : (l.length : Int) ≤ countsF l ∧ countsF l ≤ 64 * l.length := by
  induction l with
  | nil => simp [countsF]
  | cons o l ih =>
    have h1 := ih fun x hx => h x (List.mem_cons_of_mem _ hx)
    obtain ⟨_, h2, h3, _⟩ := h o (by simp)
    simp only [countsF, List.length_cons]
    omega
theorem makesF_append (M : List MO) (a b : List ObS) : makesF M (a ++ b) = makesF (makesF M a) b := by
  induction a generalizing M with
  | nil => rfl
  | cons o l ih => exact ih _
theorem makeF_length (M : List MO) (o : ObS) : (makeF M o).length = (memBase M).length + 1 := by simp [makeF_eq]
theorem memBase_length (M : List MO) : (memBase M).length = if M = [] then 1 else M.length := by
  unfold memBase; split <;> rfl
theorem makesF_length (M : List MO) (l : List ObS) : (makesF M l).length = if l = [] then M.length else (memBase M).length + l.length := by
  induction l generalizing M with
  | nil => rfl
  | cons o l ih =>
    simp only [makesF, ih]
    have h1 := makeF_length M o
    have h2 : memBase (makeF M o) = makeF M o := by unfold memBase; rw [if_neg (by intro h; rw [h] at h1; simp at h1)]
    rw [h2, h1]
    by_cases h : l = []
    · simp [h]
    · simp [h]; omega
end Go.Proofs.Ytinmgbodgecoeaa
namespace Go.Proofs.Ytinmgbodgecoeaa
open Go.RowKit

theorem int_info : (Try.prog.info? 3).map (fun i => (i.zero, i.size, i.bytes)) = some (some (.int .i64 0), 1, 8) := by kernel_rfl

theorem memBase_makes (M : List MO) (l : List ObS) : (memBase (makesF M l)).length = (memBase M).length + l.length := by
  have h := makesF_length M l
  by_cases hl : l = []
  · subst hl; rfl
  · rw [if_neg hl] at h
    have hp := memBase_pos M
    rw [memBase_length, if_neg (by intro e; rw [e] at h; simp at h; omega), h]
theorem memBase_makes_take (M : List MO) (l : List ObS) (k : Nat) (hk : k ≤ l.length) : (memBase (makesF M (l.take k))).length = (memBase M).length + k := by rw [memBase_makes, List.length_take, Nat.min_eq_left hk]
theorem numsF_succ (M : List MO) (k : Nat) : numsF M (k + 1) = numsF M k ++ [(memBase M).length + k] := by
  unfold numsF
  rw [List.range_succ, List.map_append, memBase_length]
  rfl
theorem numsF_length (M : List MO) (k : Nat) : (numsF M k).length = k := by simp [numsF]
theorem own_drew0 {w : World} {base : Nat} {e : TypeId} {size : Nat} {v : Value} {n : Nat} {xs : List Value} (h : w.ownsRow base e size v n xs) : w.drew.ownsRow base e size v n xs :=
  ownsRow_wr h (Wr.of_below (F := fun _ => False) (Below.refl _ _).drew) (fun _ _ h => h)
theorem own_one {w : World} {base : Nat} {e : TypeId} {size : Nat} {v : Value} {n : Nat} {xs : List Value} (h : w.ownsRow base e size v n xs) (o : Obj) : (w.alloc o).ownsRow base e size v n xs :=
  ownsRow_wr h (Wr.of_below (F := fun _ => False) (below1 w o)) (fun _ _ h => h)
theorem ValCells.wr1 {F : Nat → Prop} {w w' : World} {b off : Nat} {v : V} (h : ValCells w b off v) (hw : Wr F w w') (hF : ¬ F b) (hlt : b < w.heap.size) : ValCells w' b off v :=
  ⟨(World.cell?_of_block (a := ⟨b, off, none⟩) (hw.block b hlt hF)).trans h.1, (World.cell?_of_block (a := ⟨b, off + 1, none⟩) (hw.block b hlt hF)).trans h.2⟩
theorem ValCells.wr2 {F G : Nat → Prop} {w w1 w2 : World} {b off : Nat} {v : V} (h : ValCells w b off v) (hw : Wr F w w1) (hF : ¬ F b) (hlt : b < w.heap.size) (hw2 : Wr G w1 w2) (hG : ¬ G b) (hlt2 : b < w1.heap.size) : ValCells w2 b off v :=
  (h.wr1 hw hF hlt).wr1 hw2 hG hlt2
theorem start_next {args : List V} {k nt : Nat} {v : V} (hk : k < nt) (hv : args[k]? = some v) (hn : k < args.length) : (args.take k ++ List.replicate (nt - k) (⟨0, 0⟩ : V)).set k v = args.take (k + 1) ++ List.replicate (nt - (k + 1)) (⟨0, 0⟩ : V) := by
  have h1 : (args.take k).length = k := by rw [List.length_take]; omega
  rw [List.take_add_one, hv, List.set_append_right _ _ (by omega), h1, Nat.sub_self]
  rw [show nt - k = (nt - (k + 1)) + 1 by omega, List.replicate_succ]
  simp
theorem cells_new (w : World) (cs : List Value) (t : TypeId) : ∀ (j : Nat) (u : Value), cs[j]? = some u → (w.alloc (.cells cs.toArray t)).cell? ((⟨w.heap.size, 0, none⟩ : Addr).add j) = some u := by
  intro j u hj
  rw [addr0]
  exact (Row.new w cs.toArray t).cell (by simpa using hj)

end Go.Proofs.Ytinmgbodgecoeaa
namespace Go.Proofs.Ytinmgbodgecoeaa
open Go.RowKit

theorem TreeAt.shape {w : World} {C : Nat → Nat → Prop} {t : T} {v0 v1 v2 : Value} (h : TreeAt w C t v0 v1 v2) : ∃ a b A n c, v0 = .int .i64 a ∧ v1 = .int .i64 b ∧ v2 = .slice A n c := by
  obtain ⟨op, n, ks⟩ := t
  simp only [TreeAt] at h
  obtain ⟨h0, h1, _, _, _, A, cap, h5, _⟩ := h
  exact ⟨_, _, _, _, _, h0, h1, h5⟩
theorem stepsF_cons_true {R : CallR} {fuel : Int} {lo : List Nat} {s : St} {tp : List V} {x : StepS} {l : List StepS} (h : (doesF R fuel lo s tp x).1 = true) : stepsF R fuel lo s tp (x :: l) = stepsF R fuel lo (doesF R fuel lo s tp x).2.1 (doesF R fuel lo s tp x).2.2 l := by
  simp only [stepsF]
  rcases hd : doesF R fuel lo s tp x with ⟨b, s', tp'⟩
  rw [hd] at h
  simp only at h
  subst h
  rfl
theorem stepsF_cons_false {R : CallR} {fuel : Int} {lo : List Nat} {s : St} {tp : List V} {x : StepS} {l : List StepS} (h : (doesF R fuel lo s tp x).1 = false) : stepsF R fuel lo s tp (x :: l) = (false, (doesF R fuel lo s tp x).2.1, (doesF R fuel lo s tp x).2.2) := by
  simp only [stepsF]
  rcases hd : doesF R fuel lo s tp x with ⟨b, s', tp'⟩
  rw [hd] at h
  simp only at h
  subst h
  rfl
theorem drop_get {α : Type} {l : List α} {j : Nat} {x : α} (h : l[j]? = some x) : l.drop j = x :: l.drop (j + 1) := by
  have hlt : j < l.length := by
    rcases Nat.lt_or_ge j l.length with h' | h'
    · exact h'
    · rw [List.getElem?_eq_none h'] at h; cases h
  rw [List.drop_eq_getElem_cons hlt]
  rw [List.getElem?_eq_getElem hlt] at h
  injection h with h
  rw [h]
theorem blocksF_over {R : CallR} {fuel : Int} {lo : List Nat} {bs : List BlockS} {g k : Nat} {s s' : St} {tp tp' : List V} {b : BlockS} (hb : bs[k]? = some b) (h : blockF R fuel lo s tp b = (.over, s', tp')) : blocksF R fuel lo bs (g + 1) k s tp = (none, s') := by
  simp only [blocksF, Int.toNat_natCast, List.getD_eq_getElem?_getD, hb, Option.getD_some, h]
theorem blocksF_next {R : CallR} {fuel : Int} {lo : List Nat} {bs : List BlockS} {g k : Nat} {k' : Int} {s s' : St} {tp tp' : List V} {b : BlockS} (hb : bs[k]? = some b) (h : blockF R fuel lo s tp b = (.next k', s', tp')) : blocksF R fuel lo bs (g + 1) k s tp = blocksF R fuel lo bs g k' s' tp' := by
  simp only [blocksF, Int.toNat_natCast, List.getD_eq_getElem?_getD, hb, Option.getD_some, h]
theorem blocksF_ret {R : CallR} {fuel : Int} {lo : List Nat} {bs : List BlockS} {g k : Nat} {v : V} {s s' : St} {tp tp' : List V} {b : BlockS} (hb : bs[k]? = some b) (h : blockF R fuel lo s tp b = (.ret v, s', tp')) : blocksF R fuel lo bs (g + 1) k s tp = (some v, { s' with mem := killF s'.mem lo, calls := s'.calls - 1 }) := by
  simp only [blocksF, Int.toNat_natCast, List.getD_eq_getElem?_getD, hb, Option.getD_some, h]
theorem blockF_steps {R : CallR} {fuel : Int} {lo : List Nat} {s s' : St} {tp tp' : List V} {b : BlockS} (h : stepsF R fuel lo s tp b.steps = (false, s', tp')) : blockF R fuel lo s tp b = (.over, s', tp') := by
  simp only [blockF, h]

section
variable {base mc : Nat} {own : Nat → Prop} {P : Value × Value × Value} {fuel d : Int} {ng fb tb nt : Nat} {G : Value × Value × Value × Value} {lv : Value} {lo : List Nat} {gr : Nat} {gc : Array Value} {w wr : World} {own' : Nat → Prop} {st : St} {tp : List V}

end

theorem FrOk.same {M M' : List MO} {tp : List V} {lo : List Nat} {ng : Nat} (h : FrOk M tp lo ng) (e : M' = M) : FrOk M' tp lo ng := e ▸ h
theorem vzero {v : V} (h1 : v.obj = 0) (h2 : v.n = 0) : v = ⟨0, 0⟩ := by
  obtain ⟨a, b⟩ := v
  simp only at h1 h2
  rw [h1, h2]
theorem ownsRow_base {w : World} {base base' : Nat} {e : TypeId} {size : Nat} {v : Value} {n : Nat} {xs : List Value} (h : w.ownsRow base e size v n xs) (hb : base' ≤ base) : w.ownsRow base' e size v n xs := by
  obtain ⟨h1, h2⟩ := h
  refine ⟨h1, ?_⟩
  rcases h2 with h2 | ⟨g, cap, cur, hv, hg, r⟩
  · exact Or.inl h2
  · exact Or.inr ⟨g, cap, cur, hv, Nat.le_trans hb hg, r⟩
end Go.Proofs.Ytinmgbodgecoeaa
namespace Go.Proofs.Ytinmgbodgecoeaa
open Go.RowKit

def dead (o : MO) : MO := { o with live := false }

theorem killF_snoc (M : List MO) (l : List Nat) (x : Nat) : killF M (l ++ [x]) = (killF M l).modify x dead := by
  induction l generalizing M with
  | nil => rfl
  | cons a l ih => exact ih _
theorem killF_length (M : List MO) (l : List Nat) : (killF M l).length = M.length := by
  induction l generalizing M with
  | nil => rfl
  | cons a l ih => simp [killF, ih]

theorem modify_get {M : List MO} {j k : Nat} {o : MO} {f : MO → MO} (h : (M.modify j f)[k]? = some o) : ∃ o0, M[k]? = some o0 ∧ o = if j = k then f o0 else o0 := by
  rw [List.getElem?_modify] at h
  cases h0 : M[k]? with
  | none => rw [h0] at h; simp at h
  | some o0 =>
    rw [h0] at h
    refine ⟨o0, rfl, ?_⟩
    simp at h
    split at h <;> simp_all

theorem MemOk.kill {M : List MO} (h : MemOk M) (j : Nat) : MemOk (M.modify j dead) := by
  refine ⟨by simpa using h.many, fun o ho => ?_, fun k o hk ho => ?_, fun o ho v hv => ?_⟩
  · obtain ⟨o0, h0, rfl⟩ := modify_get ho
    have := h.zero o0 h0
    subst this
    split <;> rfl
  · obtain ⟨o0, h0, rfl⟩ := modify_get ho
    have := h.size k o0 hk h0
    split
    · exact this
    · exact this
  · obtain ⟨k, hk⟩ := List.mem_iff_getElem?.1 ho
    obtain ⟨o0, h0, rfl⟩ := modify_get hk
    rw [List.length_modify]
    refine h.vals o0 (List.mem_of_getElem? h0) v ?_
    split at hv
    · exact hv
    · exact hv

theorem ObjIn.kill {xs : List Value} {rb : Nat → Nat} {j k : Nat} {o : MO} (h : ObjIn xs rb k o) (hl : k * 3 + 2 < xs.length) : ObjIn (xs.set (j * 3 + 2) (.bool false)) rb k (if j = k then dead o else o) := by
  obtain ⟨h0, h1, h2⟩ := h
  unfold ObjIn
  rw [List.getElem?_set_ne (by omega), List.getElem?_set_ne (by omega)]
  by_cases e : j = k
  · subst e
    rw [if_pos rfl, List.getElem?_set_self hl]
    exact ⟨h0, h1, rfl⟩
  · rw [if_neg e, List.getElem?_set_ne (by omega)]
    exact ⟨h0, h1, h2⟩

end Go.Proofs.Ytinmgbodgecoeaa
namespace Go.Proofs.Ytinmgbodgecoeaa
open Go.RowKit

theorem NumOk.nil : NumOk [] := fun o h => by simp at h
theorem NumOk.make {M : List MO} (h : NumOk M) (o : ObS) : NumOk (makeF M o) := by
  intro x hx hs v hv
  unfold makeF at hx
  rw [List.mem_append] at hx
  rcases hx with hx | hx
  · split at hx
    · simp at hx; subst hx; simp at hv
    · exact h x hx hs v hv
  · simp at hx
    subst hx
    unfold fillF at hv
    simp only [List.mem_map] at hv
    obtain ⟨i, _, rfl⟩ := hv
    rfl
theorem NumOk.makes {M : List MO} (h : NumOk M) : ∀ (l : List ObS), NumOk (makesF M l)
  | [] => h
  | o :: l => (h.make o).makes l
theorem mem_modify {M : List MO} {k : Nat} {f : MO → MO} {x : MO} (h : x ∈ M.modify k f) : x ∈ M ∨ ∃ o, M[k]? = some o ∧ x = f o := by
  obtain ⟨i, hi⟩ := List.getElem?_of_mem h
  obtain ⟨o0, h1, h2⟩ := modify_get hi
  by_cases hki : k = i
  · rw [if_pos hki] at h2
    exact Or.inr ⟨o0, hki ▸ h1, h2⟩
  · rw [if_neg hki] at h2
    exact Or.inl (h2 ▸ List.mem_of_getElem? h1)
theorem NumOk.kill1 {M : List MO} (h : NumOk M) (k : Nat) : NumOk (M.modify k dead) := by
  intro x hx hs v hv
  rcases mem_modify hx with hx | ⟨o, ho, rfl⟩
  · exact h x hx hs v hv
  · exact h o (List.mem_of_getElem? ho) hs v hv
theorem NumOk.kills {M : List MO} (h : NumOk M) : ∀ (l : List Nat), NumOk (killF M l)
  | [] => h
  | k :: l => (h.kill1 k).kills l
theorem NumOk.store {M M' : List MO} (h : NumOk M) {size : Int} {a x : V} (hs : storeF M size a x = some M') (h0 : 0 ≤ size) : NumOk M' := by
  unfold storeF at hs
  cases ha : atF M a size.toNat with
  | none => rw [ha] at hs; simp at hs
  | some j =>
    rw [ha] at hs
    simp only at hs
    split at hs
    · cases hs
    · rename_i hn
      simp only [Option.some.injEq] at hs
      subst hs
      have hsz : (mget M a.obj).size = size := by
        unfold atF at ha
        split at ha
        · rename_i h1; have := h1.2.2.1; omega
        · cases ha
      intro o ho hso v hv
      rcases mem_modify ho with ho | ⟨o0, ho0, rfl⟩
      · exact h o ho hso v hv
      · have hmg : mget M a.obj = o0 := by unfold mget; rw [List.getD_eq_getElem?_getD, ho0]; rfl
        simp only at hso hv
        rw [hmg] at hsz
        rcases List.mem_or_eq_of_mem_set hv with hv | hv
        · exact h o0 (List.mem_of_getElem? ho0) hso v hv
        · have hx : x.obj = 0 := by
            rcases Nat.eq_zero_or_pos x.obj with h1 | h1
            · exact h1
            · exact absurd ⟨h1, by omega⟩ hn
          rw [if_pos hx] at hv
          rw [hv]
theorem loadF_num {M : List MO} (h : NumOk M) {op : Int} {a : V} (h5 : 5 ≤ op) (h11 : op ≤ 11) {j : Nat} (ha : atF M a (sizeL op) = some j) (hl : j < (mget M a.obj).l.length) (hm : a.obj < M.length) :
    loadF M op a = some (if op = 8 then (mget M a.obj).l.getD j ⟨0, 0⟩ else ⟨0, loadedF op ((mget M a.obj).l.getD j ⟨0, 0⟩).n⟩) := by
  unfold loadF
  rw [ha]
  have hmem : (mget M a.obj) ∈ M := List.mem_of_getElem? (mget_of hm)
  have hv : (mget M a.obj).l.getD j ⟨0, 0⟩ ∈ (mget M a.obj).l := by rw [List.getD_eq_getElem?_getD, List.getElem?_eq_getElem hl]; exact List.getElem_mem _
  by_cases h8 : op = 8
  · subst h8
    simp only [if_true]
    split
    · rfl
    · rename_i h0
      have h0' : ((mget M a.obj).l.getD j ⟨0, 0⟩).obj = 0 := by omega
      have e : loadedF 8 ((mget M a.obj).l.getD j ⟨0, 0⟩).n = ((mget M a.obj).l.getD j ⟨0, 0⟩).n := by unfold loadedF; rw [if_pos rfl]
      rw [e]
      congr 1
      generalize (mget M a.obj).l.getD j ⟨0, 0⟩ = v at h0'
      cases v
      simp_all
  · have hsz : (mget M a.obj).size ≠ 8 := by
      unfold atF at ha
      split at ha
      · rename_i h1
        have h2 := h1.2.2.1
        unfold sizeL at h2
        intro h3
        rw [h3] at h2
        split at h2
        · omega
        · split at h2
          · omega
          · split at h2 <;> omega
      · cases ha
    have h0 := h _ hmem hsz _ hv
    simp only
    rw [if_neg (by omega), if_neg h8]
end Go.Proofs.Ytinmgbodgecoeaa
namespace Go.Proofs.Ytinmgbodgecoeaa
open Go.RowKit

theorem storeF_base (M : List MO) (size : Int) (a x : V) : storeF (memBase M) size a x = (storeF M size a x).map memBase := by
  by_cases hM : M = []
  · subst hM
    have e : ∀ s, atF [] a s = none := by
      intro s
      unfold atF
      rw [if_neg]
      rintro ⟨_, h, _⟩
      simp [mget] at h
    unfold storeF
    rw [atF_base, e]
    rfl
  · have hb : memBase M = M := by unfold memBase; rw [if_neg hM]
    have hp : 0 < M.length := by cases M with | nil => exact absurd rfl hM | cons a l => simp
    rw [hb]
    unfold storeF
    split
    · rfl
    · split
      · rfl
      · simp only [Option.map_some, Option.some.injEq]
        exact (memBase_of (by simpa using hp)).symm
theorem makeF_base (M : List MO) (o : ObS) : makeF (memBase M) o = makeF M o := by rw [makeF_eq, makeF_eq, memBase_twice]
theorem makeF_based (M : List MO) (o : ObS) : memBase (makeF M o) = makeF M o := memBase_of (by simp [makeF_eq])
theorem makesF_base (M : List MO) (l : List ObS) : makesF (memBase M) l = memBase (makesF M l) := by
  cases l with
  | nil => rfl
  | cons o l =>
    have key : ∀ (l : List ObS) (N : List MO), 0 < N.length → 0 < (makesF N l).length := by
      intro l
      induction l with
      | nil => intro N h; exact h
      | cons o l ih => intro N h; exact ih _ (by simp [makeF_eq])
    show makesF (makeF (memBase M) o) l = memBase (makesF (makeF M o) l)
    rw [makeF_base, memBase_of (key l _ (by simp [makeF_eq]))]
theorem killF_base (M : List MO) (lo : List Nat) : killF (memBase M) lo = memBase (killF M lo) := by
  by_cases hM : M = []
  · subst hM
    have h1 : ∀ lo, killF ([] : List MO) lo = [] := by
      intro lo
      induction lo with
      | nil => rfl
      | cons a l ih =>
        rw [killF]
        have : ([] : List MO).modify a (fun o => { o with live := false }) = [] := by cases a <;> rfl
        rw [this]
        exact ih
    have h2 : ∀ lo, killF [⟨0, [], false⟩] lo = [⟨0, [], false⟩] := by
      intro lo
      induction lo with
      | nil => rfl
      | cons a l ih =>
        rw [killF]
        have : ([⟨0, [], false⟩] : List MO).modify a (fun o => { o with live := false }) = [⟨0, [], false⟩] := by
          cases a with
          | zero => rfl
          | succ n => simp [List.modify_succ_cons]
        rw [this]
        exact ih
    rw [h1]
    exact h2 lo
  · have hb : memBase M = M := by unfold memBase; rw [if_neg hM]
    have hp : 0 < M.length := by cases M with | nil => exact absurd rfl hM | cons a l => simp
    rw [hb, memBase_of (by rw [killF_length]; exact hp)]
theorem numsF_base (M : List MO) (n : Nat) : numsF (memBase M) n = numsF M n := by
  unfold numsF
  have h := memBase_pos M
  rw [if_neg (by intro h'; rw [h'] at h; simp at h), memBase_length]
theorem NumOk.base {M : List MO} (h : NumOk M) : NumOk (memBase M) := by
  unfold memBase
  split
  · intro o ho hs v hv
    simp at ho
    subst ho
    simp at hv
  · exact h
end Go.Proofs.Ytinmgbodgecoeaa
namespace Go.Proofs.Ytinmgbodgecoeaa
open Go.RowKit

/-- A step that may be. -/
def StepOkG (p : ProgS) (nt nl : Nat) (x : StepS) : Prop :=
  TsOk nt nl p.globs.length x.args ∧ TsIn x.args ∧ x.args.length ≤ 1000 ∧
  ((x.op = 1 ∧ x.args.length = 1 ∧ (x.to = -1 ∨ 0 ≤ x.to ∧ x.to < nt)) ∨ (x.op = 2 ∧ x.args.length = 2 ∧ x.to = -1 ∧ (x.size = 1 ∨ x.size = 2 ∨ x.size = 4 ∨ x.size = 8)) ∨
   (x.op = 3 ∧ (∃ f g, x.fn = ((f : Nat) : Int) ∧ p.funcs[f]? = some g ∧ (x.args.length : Int) = g.params) ∧ (x.to = -1 ∨ 0 ≤ x.to ∧ x.to < nt)) ∨ (x.op = 4 ∧ x.args.length = 1 ∧ x.to = -1) ∨
   (x.op = 5 ∧ x.args.length = 0 ∧ 0 ≤ x.to ∧ x.to < nt) ∨ (x.op = 6 ∧ x.args.length = 1 ∧ x.to = -1))
structure BlockOkG (p : ProgS) (g : GraphS) (nt : Nat) (b : BlockS) : Prop where
  steps : ∀ x, x ∈ b.steps → StepOkG p nt g.locs.length x
  few : b.steps.length ≤ 1000000
  fin : b.fin = 1 ∨ b.fin = 2 ∨ b.fin = 3
  next : 0 ≤ b.next ∧ b.next < g.blocks.length
  els : 0 ≤ b.els ∧ b.els < g.blocks.length
  cond : b.fin ≠ 1 → TOk nt g.locs.length p.globs.length b.cond ∧ TIn b.cond
structure FnOkG (p : ProgS) (g : GraphS) : Prop where
  nt : ∃ nt : Nat, g.temps = nt ∧ nt ≤ 8000 ∧ ∀ b, b ∈ g.blocks → BlockOkG p g nt b
  params : 0 ≤ g.params ∧ g.params ≤ g.temps
  obs : ∀ o, o ∈ g.locs → ObOk o ∧ ∀ x, x ∈ o.init → In64 x
  locs : g.locs.length ≤ 400
  one : 0 < g.blocks.length
  few : g.blocks.length ≤ 1000000
structure ProgOkG (p : ProgS) : Prop where
  globs : ∀ o, o ∈ p.globs → ObOk o ∧ ∀ x, x ∈ o.init → In64 x
  gfew : p.globs.length ≤ 16
  fns : ∀ g, g ∈ p.funcs → FnOkG p g
  main : ∃ f g, p.main = ((f : Nat) : Int) ∧ p.funcs[f]? = some g ∧ g.params = 0

theorem FrOk.grow {M M' : List MO} {tp : List V} {lo : List Nat} {ng : Nat} (h : FrOk M tp lo ng) (hl : M.length ≤ M'.length) : FrOk M' tp lo ng :=
  ⟨fun v hv => (h.temps v hv).mono hl, fun x hx => Nat.lt_of_lt_of_le (h.locs x hx) hl, Nat.lt_of_lt_of_le h.globs hl⟩
theorem FrOk.put {M : List MO} {tp : List V} {lo : List Nat} {ng : Nat} (h : FrOk M tp lo ng) (dst : Int) {v : V} (hv : VOk M.length v) : FrOk M (setT tp dst v) lo ng := by
  unfold setT
  split
  · exact ⟨fun u hu => by rcases List.mem_or_eq_of_mem_set hu with h1 | h1; exact h.temps u h1; exact h1 ▸ hv, h.locs, h.globs⟩
  · exact h
theorem setT_length (tp : List V) (dst : Int) (v : V) : (setT tp dst v).length = tp.length := by unfold setT; split <;> simp
theorem MemOk.put {M : List MO} (h : MemOk M) (k j : Nat) {v : V} (hk : 1 ≤ k) (hv : VOk M.length v) : MemOk (M.modify k fun o => { o with l := o.l.set j v }) := by
  refine ⟨by simpa using h.many, fun o ho => ?_, fun i o h1 ho => ?_, fun o ho u hu => ?_⟩
  · obtain ⟨o0, h0, he⟩ := modify_get ho
    rw [if_neg (by omega)] at he
    subst he
    exact h.zero _ h0
  · obtain ⟨o0, h0, rfl⟩ := modify_get ho
    have := h.size i o0 h1 h0
    split
    · simpa using this
    · exact this
  · rw [List.length_modify]
    rcases mem_modify ho with ho | ⟨o0, h0, rfl⟩
    · exact h.vals o ho u hu
    · rcases List.mem_or_eq_of_mem_set hu with hu | hu
      · exact h.vals o0 (List.mem_of_getElem? h0) u hu
      · exact hu ▸ hv
theorem storeF_kept {M M' : List MO} {size : Int} {a x : V} (hs : storeF M size a x = some M') (h0 : 0 ≤ size) (hm : MemOk M) (hn : NumOk M) (hx : VOk M.length x) : MemOk M' ∧ NumOk M' ∧ M'.length = M.length := by
  refine ⟨?_, hn.store hs h0, ?_⟩
  · unfold storeF at hs
    cases ha : atF M a size.toNat with
    | none => rw [ha] at hs; simp at hs
    | some j =>
      rw [ha] at hs
      simp only at hs
      split at hs
      · cases hs
      · simp only [Option.some.injEq] at hs
        subst hs
        have hp : 0 < a.obj := by
          unfold atF at ha
          split at ha
          · rename_i h1; exact h1.1
          · cases ha
        refine hm.put a.obj j hp ?_
        split
        · exact ⟨Nat.lt_of_le_of_lt (Nat.zero_le _) hx.1, fun h => absurd rfl h, stored_in64 hx.2.2⟩
        · exact hx
  · unfold storeF at hs
    split at hs
    · cases hs
    · split at hs
      · cases hs
      · simp only [Option.some.injEq] at hs
        subst hs
        simp

/-- What is kept by a call at so many calls. -/
def RKept (p : ProgS) (fuel : Int) (c : Int) (R : CallR) : Prop :=
  ∀ (f : Nat) g args s v s', p.funcs[f]? = some g → (args.length : Int) = g.params → GInv fuel s → s.calls = c → (∀ v, v ∈ args → VOk (memBase s.mem).length v) → p.globs.length < (memBase s.mem).length → R f args s = (some v, s') → GKept fuel s s' ∧ VOk (memBase s'.mem).length v

section
variable {p : ProgS} {fuel : Int} {R : CallR} {lo : List Nat} {nt nl : Nat}
theorem does_kept (hR : ∀ c, RKept p fuel c R) {s s' : St} {tp tp' : List V} {x : StepS} (hI : GInv fuel s) (hF : FrOk (memBase s.mem) tp lo p.globs.length) (ht : tp.length = nt) (hl : lo.length = nl) (hx : StepOkG p nt nl x) (h : doesF R fuel lo s tp x = (true, s', tp')) :
    GKept fuel s s' ∧ FrOk (memBase s'.mem) tp' lo p.globs.length ∧ tp'.length = tp.length := by
  subst ht hl
  obtain ⟨hts, hti, _, hop⟩ := hx
  by_cases hy : (stepF fuel 1 s).1 = true
  · obtain ⟨h1, hI1⟩ := hI.tick (by omega) hy
    cases he : evalTs s.mem tp lo x.args with
    | none =>
      unfold doesF at h
      rw [if_neg (by rw [hy]; simp), stepF_mem, he] at h
      cases h
    | some l =>
      have hok := evals_ok hI.mem hF x.args hti hts (by rw [evalTs_base]; exact he)
      have hlen := evalTs_length he
      rw [doesF_yes hy h1 he] at h
      have hK1 : GKept fuel s { s with steps := s.steps + 1 } := ⟨hI1, rfl, Nat.le_refl _, by show s.steps ≤ s.steps + 1; omega⟩
      have hpos := memBase_pos s.mem
      have hg := fun j => getD_ok hpos hok j
      unfold actF at h
      rcases hop with ⟨h1, h2, h3⟩ | ⟨h1, h2, h3, h4⟩ | ⟨h1, ⟨f, g, h2, h3, h4⟩, h5⟩ | ⟨h1, h2, h3⟩ | ⟨h1, h2, h3, h4⟩ | ⟨h1, h2, h3⟩
      · rw [if_pos h1] at h
        simp only [Prod.mk.injEq, true_and] at h
        obtain ⟨rfl, rfl⟩ := h
        exact ⟨hK1, hF.put _ (hg 0), setT_length _ _ _⟩
      · rw [if_neg (by omega), if_pos h1] at h
        split at h
        · rename_i M hst
          simp only [Prod.mk.injEq, true_and] at h
          obtain ⟨rfl, rfl⟩ := h
          have hb := storeF_base s.mem x.size (l.getD 0 ⟨0, 0⟩) (l.getD 1 ⟨0, 0⟩)
          simp only at hst
          rw [hst] at hb
          obtain ⟨k1, k2, k3⟩ := storeF_kept hb (by omega) hI.mem hI.num (hg 1)
          refine ⟨⟨⟨hI1.kind, hI1.lo, hI1.hi, by show (memBase M).length ≤ _; rw [k3]; exact hI1.many, hI1.outs, hI1.calls, hI1.deep, hI1.inp, k1, k2⟩, rfl, by show _ ≤ (memBase M).length; rw [k3]; exact Nat.le_refl _, by show s.steps ≤ s.steps + 1; omega⟩, ?_, rfl⟩
          exact hF.grow (by show _ ≤ (memBase M).length; rw [k3]; exact Nat.le_refl _)
        · cases h
      · rw [if_neg (by omega), if_neg (by omega), if_pos h1] at h
        split at h
        · rename_i v s2 hr
          simp only [Prod.mk.injEq, true_and] at h
          obtain ⟨rfl, rfl⟩ := h
          rw [h2] at hr
          obtain ⟨k1, k2⟩ := hR _ f g l _ v s2 h3 (by rw [hlen]; exact h4) hI1 rfl hok hF.globs hr
          exact ⟨hK1.trans k1, (hF.grow k1.grow).put _ k2, setT_length _ _ _⟩
        · cases h
      · rw [if_neg (by omega), if_neg (by omega), if_neg (by omega), if_neg (by omega)] at h
        split at h
        · cases h
        · rw [if_neg (by omega)] at h
          simp only [Prod.mk.injEq, true_and] at h
          obtain ⟨rfl, rfl⟩ := h
          have h0 := hI.lo
          have h5 := hI.outs
          refine ⟨⟨⟨hI1.kind, hI1.lo, hI1.hi, hI1.many, ?_, hI1.calls, hI1.deep, hI1.inp, hI1.mem, hI1.num⟩, rfl, Nat.le_refl _, by show s.steps ≤ s.steps + 1; omega⟩, hF, rfl⟩
          show (s.out ++ _).length ≤ (s.steps + 1).toNat
          rw [List.length_append, List.length_singleton]
          omega
      · rw [if_neg (by omega), if_neg (by omega), if_neg (by omega), if_pos h1] at h
        split at h
        · rename_i hin
          simp only [Prod.mk.injEq, true_and] at h
          obtain ⟨rfl, rfl⟩ := h
          exact ⟨hK1, hF.put _ (VOk.num hpos (by unfold In64; omega)), setT_length _ _ _⟩
        · rename_i n r hin
          simp only [Prod.mk.injEq, true_and] at h
          obtain ⟨rfl, rfl⟩ := h
          simp only at hin
          have hi64 := hI.inp
          rw [hin] at hi64
          refine ⟨⟨⟨hI1.kind, hI1.lo, hI1.hi, hI1.many, hI1.outs, hI1.calls, hI1.deep, fun x hx => hi64 x (List.mem_cons_of_mem _ hx), hI1.mem, hI1.num⟩, rfl, Nat.le_refl _, by show s.steps ≤ s.steps + 1; omega⟩, hF.put _ (VOk.num hpos (hi64 n (by simp))), setT_length _ _ _⟩
      · rw [if_neg (by omega), if_neg (by omega), if_neg (by omega), if_neg (by omega)] at h
        split at h
        · cases h
        · cases h
  · unfold doesF at h
    rw [if_pos (by simpa using hy)] at h
    cases h
theorem steps_kept (hR : ∀ c, RKept p fuel c R) : ∀ (xs : List StepS) {s s' : St} {tp tp' : List V}, GInv fuel s → FrOk (memBase s.mem) tp lo p.globs.length → tp.length = nt → lo.length = nl → (∀ x, x ∈ xs → StepOkG p nt nl x) → stepsF R fuel lo s tp xs = (true, s', tp') →
    GKept fuel s s' ∧ FrOk (memBase s'.mem) tp' lo p.globs.length ∧ tp'.length = tp.length
  | [], s, s', tp, tp', hI, hF, _, _, _, h => by
    rw [stepsF] at h
    simp only [Prod.mk.injEq, true_and] at h
    obtain ⟨rfl, rfl⟩ := h
    exact ⟨GKept.refl hI, hF, rfl⟩
  | x :: r, s, s', tp, tp', hI, hF, ht, hl, hx, h => by
    rw [stepsF] at h
    split at h
    · rename_i s1 tp1 h1
      obtain ⟨k1, k2, k3⟩ := does_kept hR hI hF ht hl (hx x (by simp)) h1
      obtain ⟨m1, m2, m3⟩ := steps_kept hR r k1.inv k2 (k3.trans ht) hl (fun y hy => hx y (List.mem_cons_of_mem _ hy)) h
      exact ⟨k1.trans m1, m2, m3.trans k3⟩
    · cases h
theorem block_kept (hR : ∀ c, RKept p fuel c R) {g : GraphS} {b : BlockS} {s s' : St} {tp tp' : List V} {go : Goes} (hI : GInv fuel s) (hF : FrOk (memBase s.mem) tp lo p.globs.length) (ht : tp.length = nt) (hl : lo.length = g.locs.length) (hb : BlockOkG p g nt b) (h : blockF R fuel lo s tp b = (go, s', tp')) (hgo : go ≠ .over) :
    GKept fuel s s' ∧ FrOk (memBase s'.mem) tp' lo p.globs.length ∧ tp'.length = tp.length ∧ s.steps + 1 ≤ s'.steps ∧ (∀ k, go = .next k → 0 ≤ k ∧ k < g.blocks.length) ∧ (∀ v, go = .ret v → VOk (memBase s'.mem).length v) := by
  unfold blockF at h
  split at h
  · simp only [Prod.mk.injEq] at h; exact absurd h.1.symm hgo
  · rename_i s1 tp1 h1
    obtain ⟨k1, k2, k3⟩ := steps_kept hR b.steps hI hF ht hl hb.steps h1
    have hmono := k1.steps
    split at h
    · simp only [Prod.mk.injEq] at h; exact absurd h.1.symm hgo
    · rename_i hy
      have hy' : (stepF fuel 1 s1).1 = true := by simpa using hy
      obtain ⟨e1, hI1⟩ := k1.inv.tick (by omega) hy'
      rw [e1] at h
      have hK : GKept fuel s { s1 with steps := s1.steps + 1 } := k1.trans ⟨hI1, rfl, Nat.le_refl _, by show s1.steps ≤ s1.steps + 1; omega⟩
      split at h
      · simp only [Prod.mk.injEq] at h
        obtain ⟨rfl, rfl, rfl⟩ := h
        exact ⟨hK, k2, k3, by show s.steps + 1 ≤ s1.steps + 1; omega, fun k hk => (by injection hk with hk; exact hk ▸ hb.next), fun v hv => (by cases hv)⟩
      · rename_i hfin
        obtain ⟨hc1, hc2⟩ := hb.cond hfin
        split at h
        · simp only [Prod.mk.injEq] at h; exact absurd h.1.symm hgo
        · rename_i v hv
          have hvok := eval_ok k1.inv.mem k2 b.cond hc2 (by rw [k3, ht, hl]; exact hc1) (by rw [evalT_base]; exact hv)
          split at h
          · simp only [Prod.mk.injEq] at h
            obtain ⟨rfl, rfl, rfl⟩ := h
            exact ⟨hK, k2, k3, by show s.steps + 1 ≤ s1.steps + 1; omega, fun k hk => (by cases hk), fun u hu => (by injection hu with hu; exact hu ▸ hvok)⟩
          · simp only [Prod.mk.injEq] at h
            obtain ⟨rfl, rfl, rfl⟩ := h
            exact ⟨hK, k2, k3, by show s.steps + 1 ≤ s1.steps + 1; omega, fun k hk => (by injection hk with hk; subst hk; split; exact hb.els; exact hb.next), fun u hu => (by cases hu)⟩
theorem MemOk.kills {M : List MO} (h : MemOk M) : ∀ (l : List Nat), MemOk (killF M l)
  | [] => h
  | k :: l => (h.kill k).kills l
theorem blocks_kept (hR : ∀ c, RKept p fuel c R) {g : GraphS} (hl : lo.length = g.locs.length) (hb : ∀ b, b ∈ g.blocks → BlockOkG p g nt b) : ∀ (m : Nat) (k : Int) {s s' : St} {tp : List V} {v : V}, GInv fuel s → 1 ≤ s.calls → FrOk (memBase s.mem) tp lo p.globs.length → tp.length = nt → 0 ≤ k → k < g.blocks.length →
    blocksF R fuel lo g.blocks m k s tp = (some v, s') → GInv fuel s' ∧ s'.calls = s.calls - 1 ∧ (memBase s.mem).length ≤ (memBase s'.mem).length ∧ s.steps ≤ s'.steps ∧ VOk (memBase s'.mem).length v
  | 0, k, s, s', tp, v, _, _, _, _, _, _, h => by rw [blocksF] at h; cases h
  | m + 1, k, s, s', tp, v, hI, hc, hF, ht, hk0, hk1, h => by
    rw [blocksF] at h
    obtain ⟨kn, rfl⟩ := Int.eq_ofNat_of_zero_le hk0
    have hkl : kn < g.blocks.length := by omega
    have hbk : g.blocks.getD ((kn : Int)).toNat noBlock ∈ g.blocks := by
      rw [Int.toNat_natCast, List.getD_eq_getElem?_getD, List.getElem?_eq_getElem hkl]
      exact List.getElem_mem _
    split at h
    · cases h
    · rename_i k' s1 tp1 h1
      obtain ⟨a1, a2, a3, a4, a5, _⟩ := block_kept hR hI hF ht hl (hb _ hbk) h1 (by simp)
      obtain ⟨k0, k1⟩ := a5 k' rfl
      obtain ⟨b1, b2, b3, b4, b5⟩ := blocks_kept hR hl hb m k' a1.inv (by rw [a1.calls]; exact hc) a2 (a3.trans ht) k0 k1 h
      exact ⟨b1, by rw [b2, a1.calls], Nat.le_trans a1.grow b3, by omega, b5⟩
    · rename_i u s1 tp1 h1
      obtain ⟨a1, a2, a3, a4, _, a6⟩ := block_kept hR hI hF ht hl (hb _ hbk) h1 (by simp)
      simp only [Prod.mk.injEq, Option.some.injEq] at h
      obtain ⟨rfl, rfl⟩ := h
      have e : memBase (killF s1.mem lo) = killF (memBase s1.mem) lo := (killF_base _ _).symm
      have el : (memBase (killF s1.mem lo)).length = (memBase s1.mem).length := by rw [e, killF_length]
      have hcs := a1.calls
      refine ⟨⟨a1.inv.kind, a1.inv.lo, a1.inv.hi, by show (memBase (killF s1.mem lo)).length ≤ _; rw [el]; exact a1.inv.many, a1.inv.outs, by show 0 ≤ s1.calls - 1; omega, a1.inv.deep, a1.inv.inp, by show MemOk (memBase (killF s1.mem lo)); rw [e]; exact a1.inv.mem.kills lo, by show NumOk (memBase (killF s1.mem lo)); rw [e]; exact a1.inv.num.kills lo⟩, by show s1.calls - 1 = s.calls - 1; omega, by show _ ≤ (memBase (killF s1.mem lo)).length; rw [el]; exact a1.grow, by show s.steps ≤ s1.steps; omega, by show VOk (memBase (killF s1.mem lo)).length u; rw [el]; exact a6 u rfl⟩
theorem makes_ok : ∀ (l : List ObS) {M : List MO}, MemOk (memBase M) → (∀ o, o ∈ l → ObOk o ∧ ∀ x, x ∈ o.init → In64 x) → (memBase M).length + l.length ≤ 4294967296 → MemOk (memBase (makesF M l))
  | [], M, h, _, _ => h
  | o :: l, M, h, ho, hm => by
    have h1 := ho o (by simp)
    simp only [List.length_cons] at hm
    have h2 := makeF_ok h o h1.1.1 (by have := h1.1.2.2.1; omega) h1.2 (by rw [memBase_twice]; omega)
    rw [makeF_base] at h2
    refine makes_ok l (M := makeF M o) (by rw [makeF_based]; exact h2) (fun x hx => ho x (List.mem_cons_of_mem _ hx)) ?_
    rw [makeF_based, makeF_length]
    omega
theorem call_start_ok {g : GraphS} {s : St} {args : List V} (hg : FnOkG p g) (hnt : g.temps = nt) (hI : GInv fuel s) (ha : ∀ v, v ∈ args → VOk (memBase s.mem).length v) (hal : args.length ≤ nt) (hgl : p.globs.length < (memBase s.mem).length) (hf : fuel ≤ 100000000) (hst : s.steps + countsF g.locs ≤ fuel) :
    GInv fuel { s with calls := s.calls + 1, deep := max s.deep (s.calls + 1), steps := s.steps + countsF g.locs, mem := makesF s.mem g.locs } ∧ FrOk (memBase (makesF s.mem g.locs)) (startF nt args) (numsF s.mem g.locs.length) p.globs.length ∧ (startF nt args).length = nt ∧ (numsF s.mem g.locs.length).length = g.locs.length ∧ (memBase (makesF s.mem g.locs)).length = (memBase s.mem).length + g.locs.length := by
  have hcb := countsF_bd (fun o ho => (hg.obs o ho).1)
  have hml := memBase_makes s.mem g.locs
  have h1 := hI.lo
  have h2 := hI.many
  have h3 := hI.outs
  have h4 := hI.calls
  have h5 := hI.deep
  have hpos := memBase_pos s.mem
  refine ⟨⟨hI.kind, by show 0 ≤ s.steps + _; omega, hst, ?_, ?_, by show 0 ≤ s.calls + 1; omega, by show 0 ≤ max s.deep (s.calls + 1); omega, hI.inp, ?_, ?_⟩, ⟨?_, ?_, by omega⟩, ?_, numsF_length _ _, hml⟩
  · show (memBase (makesF s.mem g.locs)).length ≤ 20 + (s.steps + countsF g.locs).toNat
    omega
  · show s.out.length ≤ (s.steps + countsF g.locs).toNat
    omega
  · exact makes_ok g.locs hI.mem hg.obs (by omega)
  · show NumOk (memBase (makesF s.mem g.locs))
    rw [← makesF_base]
    exact hI.num.makes g.locs
  · intro v hv
    unfold startF at hv
    rw [List.mem_append] at hv
    rcases hv with hv | hv
    · exact (ha v hv).mono (by omega)
    · rw [List.mem_replicate] at hv
      rw [hv.2]
      exact VOk.num (by omega) (by unfold In64; omega)
  · intro x hx
    unfold numsF at hx
    simp only [List.mem_map, List.mem_range] at hx
    obtain ⟨i, hi, rfl⟩ := hx
    rw [← memBase_length]
    omega
  · unfold startF
    rw [List.length_append, List.length_replicate]
    omega
end
theorem callF_dryG {p : ProgS} {fuel : Int} {d f : Nat} {g : GraphS} {args : List V} {s : St} (hg : p.funcs[f]? = some g) (hy : (stepF fuel (countsF g.locs) { s with calls := s.calls + 1, deep := max s.deep (s.calls + 1) }).1 = false) :
    callF p fuel (d + 1) f args s = (none, (stepF fuel (countsF g.locs) { s with calls := s.calls + 1, deep := max s.deep (s.calls + 1) }).2) := by
  simp only [callF, Int.toNat_natCast, List.getD_eq_getElem?_getD, hg, Option.getD_some, hy, if_true]
theorem callF_goG {p : ProgS} {fuel : Int} {d f nt : Nat} {g : GraphS} {args : List V} {s : St} (hg : p.funcs[f]? = some g) (hnt : g.temps = nt) (hy : (stepF fuel (countsF g.locs) { s with calls := s.calls + 1, deep := max s.deep (s.calls + 1) }).1 = true) :
    callF p fuel (d + 1) f args s = blocksF (callF p fuel d) fuel (numsF s.mem g.locs.length) g.blocks (fuel - (s.steps + countsF g.locs) + 1).toNat 0 { s with calls := s.calls + 1, deep := max s.deep (s.calls + 1), steps := s.steps + countsF g.locs, mem := makesF s.mem g.locs } (startF nt args) := by
  obtain ⟨hy0, hy1, hy2⟩ := stepF_yes hy
  simp only [callF, Int.toNat_natCast, List.getD_eq_getElem?_getD, hg, Option.getD_some, hy, Bool.true_eq_false, if_false, hy2, hnt]

theorem call_kept {p : ProgS} (hp : ProgOkG p) {fuel : Int} (hf : fuel ≤ 100000000) : ∀ (d : Nat) (c : Int), RKept p fuel c (callF p fuel d)
  | 0, c, f, g, args, s, v, s', _, _, _, _, _, _, h => by
    rw [callF] at h
    cases h
  | d + 1, c, f, g, args, s, v, s', hg, hal, hI, hc, ha, hgl, h => by
    have hfn := hp.fns g (List.mem_of_getElem? hg)
    obtain ⟨nt, hnt, hnt2, hbk⟩ := hfn.nt
    have hpa := hfn.params
    by_cases hy : (stepF fuel (countsF g.locs) { s with calls := s.calls + 1, deep := max s.deep (s.calls + 1) }).1 = true
    · rw [callF_goG hg hnt hy] at h
      obtain ⟨_, hy1, _⟩ := stepF_yes hy
      simp only at hy1
      obtain ⟨k1, k2, k3, k4, k5⟩ := call_start_ok hfn hnt hI ha (by omega) hgl hf (by omega)
      obtain ⟨b1, b2, b3, b4, b5⟩ := blocks_kept (fun c => call_kept hp hf d c) k4 hbk _ 0 k1 (by show 1 ≤ s.calls + 1; have := hI.calls; omega) k2 k3 (by omega) (by have := hfn.one; omega) h
      have hcb := countsF_bd (fun o ho => (hfn.obs o ho).1)
      refine ⟨⟨b1, by rw [b2]; show s.calls + 1 - 1 = s.calls; omega, ?_, ?_⟩, b5⟩
      · have b3' : (memBase (makesF s.mem g.locs)).length ≤ (memBase s'.mem).length := b3
        omega
      · have b4' : s.steps + countsF g.locs ≤ s'.steps := b4
        omega
    · rw [callF_dryG hg (by simpa using hy)] at h
      cases h
end Go.Proofs.Ytinmgbodgecoeaa
namespace Go.Proofs.Ytinmgbodgecoeaa
open Go.RowKit

def conT (n : Int) : T := .node 1 n []
def tmpT (r : Int) : T := .node 2 r []
/-- Where a label stands. -/
def labN (l : List InsS) (n : Int) : Nat := l.findIdx fun i => decide (i.op = 14 ∧ i.n = n)
/-- An instruction that does not go elsewhere, as a step. -/
def stepI (x : InsS) : StepS :=
  if x.op = 1 then ⟨1, x.dst, 0, 0, [conT x.n]⟩
  else if x.op = 2 then ⟨1, x.dst, 0, 0, [tmpT x.a]⟩
  else if x.op = 3 then ⟨1, x.dst, 0, 0, [.node 3 x.n []]⟩
  else if x.op = 4 then ⟨1, x.dst, 0, 0, [.node 4 x.n []]⟩
  else if x.op = 5 then ⟨1, x.dst, 0, 0, [.node x.n 0 [tmpT x.a, tmpT x.b]]⟩
  else if x.op = 6 then ⟨1, x.dst, 0, 0, [.node x.n 0 [tmpT x.a, conT (x.arg.getD 0 0)]]⟩
  else if x.op = 7 then ⟨1, x.dst, 0, 0, [.node x.n 0 [tmpT x.a]]⟩
  else if x.op = 8 then ⟨1, x.dst, 0, 0, [.node x.n 0 [.node 12 0 [tmpT x.a, conT x.b]]]⟩
  else if x.op = 9 then ⟨2, -1, x.n, 0, [.node 12 0 [tmpT x.a, conT x.b], tmpT x.dst]⟩
  else if x.op = 10 then ⟨3, x.dst, 0, x.n, x.arg.map tmpT⟩
  else if x.op = 11 then ⟨4, -1, 0, 0, [tmpT x.a]⟩
  else if x.op = 12 then ⟨5, x.dst, 0, 0, []⟩
  else if x.op = 13 then ⟨6, -1, 0, 0, [tmpT x.a]⟩
  else ⟨1, -1, 0, 0, [conT 0]⟩
/-- The block that begins at a place: what stands there and behind it. -/
def blockI (all : List InsS) : List InsS → Nat → BlockS
  | [], _ => ⟨[], 3, conT 0, 0, 0⟩
  | x :: r, k =>
    if x.op = 15 then ⟨[], 1, conT 0, (labN all x.n : Nat), 0⟩
    else if x.op = 16 then ⟨[], 2, tmpT x.a, (labN all x.n : Nat), (k + 1 : Nat)⟩
    else if x.op = 17 then ⟨[], 3, tmpT x.a, 0, 0⟩
    else { blockI all r (k + 1) with steps := stepI x :: (blockI all r (k + 1)).steps }
def blocksI (l : List InsS) : List BlockS := (List.range l.length).map fun k => blockI l (l.drop k) k
def codeG (c : CodeS) : GraphS := ⟨c.params, c.regs, c.locs, blocksI c.ins⟩
def virtG (v : VirtS) : ProgS := ⟨v.globs, v.funcs.map codeG, v.main⟩

theorem blocksI_len (l : List InsS) : (blocksI l).length = l.length := by simp [blocksI]
theorem blocksI_get {l : List InsS} {k : Nat} (hk : k < l.length) : (blocksI l)[k]? = some (blockI l (l.drop k) k) := by
  unfold blocksI
  rw [List.getElem?_map, List.getElem?_range hk]
  rfl
theorem blocksI_getD {l : List InsS} {k : Nat} (hk : k < l.length) : (blocksI l).getD k noBlock = blockI l (l.drop k) k := by
  rw [List.getD_eq_getElem?_getD, blocksI_get hk]
  rfl
theorem drop_cons {l : List InsS} {k : Nat} {x : InsS} (h : l[k]? = some x) : l.drop k = x :: l.drop (k + 1) := by
  obtain ⟨hk, hx⟩ := List.getElem?_eq_some_iff.1 h
  rw [List.drop_eq_getElem_cons hk, hx]
/-- An instruction that goes on behind itself. -/
def Straight (x : InsS) : Prop := x.op ≠ 15 ∧ x.op ≠ 16 ∧ x.op ≠ 17

section
variable {R : CallR} {fuel : Int} {lo : List Nat} {l : List InsS} {x : InsS} {k : Nat} {s : St} {tp : List V}
theorem blockI_straight (h : l[k]? = some x) (hx : Straight x) : blockI l (l.drop k) k = { blockI l (l.drop (k + 1)) (k + 1) with steps := stepI x :: (blockI l (l.drop (k + 1)) (k + 1)).steps } := by
  rw [drop_cons h, blockI, if_neg hx.1, if_neg hx.2.1, if_neg hx.2.2]
theorem blockF_cons {b : BlockS} {y : StepS} : blockF R fuel lo s tp { b with steps := y :: b.steps } = match doesF R fuel lo s tp y with
    | (true, s', tp') => blockF R fuel lo s' tp' b
    | (false, s', tp') => (.over, s', tp') := by
  unfold blockF
  rw [stepsF]
  rcases doesF R fuel lo s tp y with ⟨ok, s', tp'⟩
  cases ok <;> rfl
/-- An instruction that goes on behind itself, not the last one. -/
theorem goI_straight (h : l[k]? = some x) (hx : Straight x) (hk : k + 1 < l.length) (g : Nat) :
    blocksF R fuel lo (blocksI l) (g + 1) (k : Nat) s tp = match doesF R fuel lo s tp (stepI x) with
      | (true, s', tp') => blocksF R fuel lo (blocksI l) (g + 1) ((k + 1 : Nat) : Int) s' tp'
      | (false, s', _) => (none, s') := by
  have hkl : k < l.length := by omega
  rw [blocksF, Int.toNat_natCast, blocksI_getD hkl, blockI_straight h hx, blockF_cons]
  rcases hd : doesF R fuel lo s tp (stepI x) with ⟨ok, s', tp'⟩
  cases ok
  · rfl
  · simp only
    rw [blocksF, Int.toNat_natCast, blocksI_getD hk]
/-- An instruction that goes on behind itself and does not come through. -/
theorem goI_over (h : l[k]? = some x) (hx : Straight x) (g : Nat) (hd : (doesF R fuel lo s tp (stepI x)).1 = false) :
    blocksF R fuel lo (blocksI l) (g + 1) (k : Nat) s tp = (none, (doesF R fuel lo s tp (stepI x)).2.1) := by
  have hkl : k < l.length := (List.getElem?_eq_some_iff.1 h).1
  rw [blocksF, Int.toNat_natCast, blocksI_getD hkl, blockI_straight h hx, blockF_cons]
  rcases he : doesF R fuel lo s tp (stepI x) with ⟨ok, s', tp'⟩
  rw [he] at hd
  simp only at hd
  subst hd
  rfl
theorem goI_dry (h : l[k]? = some x) (hx : ¬ Straight x) (g : Nat) (hy : (stepF fuel 1 s).1 = false) :
    blocksF R fuel lo (blocksI l) (g + 1) (k : Nat) s tp = (none, (stepF fuel 1 s).2) := by
  have hkl : k < l.length := (List.getElem?_eq_some_iff.1 h).1
  have hst : (blockI l (l.drop k) k).steps = [] := by
    rw [drop_cons h, blockI]
    by_cases h15 : x.op = 15
    · rw [if_pos h15]
    by_cases h16 : x.op = 16
    · rw [if_neg h15, if_pos h16]
    by_cases h17 : x.op = 17
    · rw [if_neg h15, if_neg h16, if_pos h17]
    exact absurd ⟨h15, h16, h17⟩ hx
  rw [blocksF, Int.toNat_natCast, blocksI_getD hkl]
  unfold blockF
  rw [hst, stepsF]
  simp only [hy, if_true]
theorem goI_jump (h : l[k]? = some x) (hx : x.op = 15) (g : Nat) (hy : (stepF fuel 1 s).1 = true) :
    blocksF R fuel lo (blocksI l) (g + 1) (k : Nat) s tp = blocksF R fuel lo (blocksI l) g ((labN l x.n : Nat) : Int) (stepF fuel 1 s).2 tp := by
  have hkl : k < l.length := (List.getElem?_eq_some_iff.1 h).1
  rw [blocksF, Int.toNat_natCast, blocksI_getD hkl, drop_cons h, blockI, if_pos hx]
  unfold blockF
  rw [stepsF]
  simp only [hy]
  rfl
theorem evalT_tmp (M : List MO) (tp : List V) (lo : List Nat) (r : Int) : evalT M tp lo (tmpT r) = some (tp.getD r.toNat ⟨0, 0⟩) := by
  rw [tmpT, evalT, evalTs]
  rfl
theorem evalT_con (M : List MO) (tp : List V) (lo : List Nat) (n : Int) : evalT M tp lo (conT n) = some ⟨0, n⟩ := by
  rw [conT, evalT, evalTs]
  rfl
theorem goI_branch (h : l[k]? = some x) (hx : x.op = 16) (g : Nat) (hy : (stepF fuel 1 s).1 = true) :
    blocksF R fuel lo (blocksI l) (g + 1) (k : Nat) s tp = blocksF R fuel lo (blocksI l) g (if tp.getD x.a.toNat ⟨0, 0⟩ = ⟨0, 0⟩ then ((k + 1 : Nat) : Int) else ((labN l x.n : Nat) : Int)) (stepF fuel 1 s).2 tp := by
  have hkl : k < l.length := (List.getElem?_eq_some_iff.1 h).1
  have h15 : ¬ x.op = 15 := by omega
  rw [blocksF, Int.toNat_natCast, blocksI_getD hkl, drop_cons h, blockI, if_neg h15, if_pos hx]
  unfold blockF
  rw [stepsF]
  simp only [hy, evalT_tmp]
  rfl
theorem goI_ret (h : l[k]? = some x) (hx : x.op = 17) (g : Nat) (hy : (stepF fuel 1 s).1 = true) :
    blocksF R fuel lo (blocksI l) (g + 1) (k : Nat) s tp = (some (tp.getD x.a.toNat ⟨0, 0⟩), { (stepF fuel 1 s).2 with mem := killF (stepF fuel 1 s).2.mem lo, calls := (stepF fuel 1 s).2.calls - 1 }) := by
  have hkl : k < l.length := (List.getElem?_eq_some_iff.1 h).1
  have h15 : ¬ x.op = 15 := by omega
  have h16 : ¬ x.op = 16 := by omega
  rw [blocksF, Int.toNat_natCast, blocksI_getD hkl, drop_cons h, blockI, if_neg h15, if_neg h16, if_pos hx]
  unfold blockF
  rw [stepsF]
  simp only [hy, evalT_tmp]
  rfl
end
end Go.Proofs.Ytinmgbodgecoeaa
namespace Go.Proofs.Ytinmgbodgecoeaa
open Go.RowKit

def kidsI (op : Int) : Int := if op < 1 ∨ op > 36 then -1 else if op ≤ 4 then 0 else if 12 ≤ op ∧ op ≤ 30 then 2 else 1

def sizeB (n : Int) : Bool := decide (n = 1 ∨ n = 2 ∨ n = 4 ∨ n = 8)
def betwB (n a b : Int) : Bool := decide (a ≤ n ∧ n ≤ b)
def numB (n b : Int) : Bool := decide (0 ≤ n ∧ n ≤ b)
def loadB (op : Int) : Bool := decide (5 ≤ op ∧ op ≤ 11)

end Go.Proofs.Ytinmgbodgecoeaa
namespace Go.Proofs.Ytinmgbodgecoeaa
open Go.RowKit

def obB (o : ObS) : Bool := sizeB o.size && betwB o.count 1 64 && !decide ((o.init.length : Int) > o.count)
def obsB : List ObS → Bool
  | [] => true
  | o :: l => obB o && obsB l
def objsB (l : List ObS) (most : Int) : Bool := obsB l && decide ((l.length : Int) ≤ most)
end Go.Proofs.Ytinmgbodgecoeaa
namespace Go.Proofs.Ytinmgbodgecoeaa
open Go.RowKit

/-- What an op names: To, A, B as registers, N, Arg; none: there is no such op. -/
def namedI (x : InsS) : Option (Bool × Bool × Bool × Bool × Bool) :=
  if x.op = 1 ∨ x.op = 3 ∨ x.op = 4 then some (true, false, false, true, false)
  else if x.op = 2 then some (true, true, false, false, false)
  else if x.op = 5 then some (true, true, true, true, false)
  else if x.op = 6 then some (true, true, false, true, true)
  else if x.op = 7 ∨ x.op = 8 ∨ x.op = 9 then some (true, true, false, true, false)
  else if x.op = 10 then some (decide (x.dst ≠ -1), false, false, true, true)
  else if x.op = 11 ∨ x.op = 13 ∨ x.op = 17 then some (false, true, false, false, false)
  else if x.op = 12 then some (true, false, false, false, false)
  else if x.op = 14 ∨ x.op = 15 then some (false, false, false, true, false)
  else if x.op = 16 then some (false, true, false, true, false)
  else none
def regI (r : Int) (named : Bool) (none nr : Int) : Bool := if named = true then decide (0 ≤ r ∧ r < nr) else decide (r = none)
def immB (n : Int) : Bool := decide (-2147483648 ≤ n ∧ n ≤ 2147483647)
/-- A label's place; none: there is none. -/
def labI (l : List InsS) (n : Int) : Bool := l.any fun i => decide (i.op = 14 ∧ i.n = n)
def regsB (l : List Int) (nr : Int) : Bool := l.all fun r => decide (0 ≤ r ∧ r < nr)
/-- Is the number right? 'par': may a call of a function have so many? -/
def numberI (c : CodeS) (ng nf : Int) (par : Int → Int → Bool) (x : InsS) : Bool :=
  if x.op = 3 then decide (0 ≤ x.n ∧ x.n < c.locs.length)
  else if x.op = 4 then decide (0 ≤ x.n ∧ x.n < ng)
  else if x.op = 5 then decide (12 ≤ x.n ∧ x.n ≤ 30)
  else if x.op = 6 then decide (12 ≤ x.n ∧ x.n ≤ 30) && (decide (x.arg.length = 1) && immB (x.arg.getD 0 0))
  else if x.op = 7 then decide (31 ≤ x.n ∧ x.n ≤ 36)
  else if x.op = 8 then decide (5 ≤ x.n ∧ x.n ≤ 11) && immB x.b
  else if x.op = 9 then sizeB x.n && immB x.b
  else if x.op = 10 then decide (0 ≤ x.n ∧ x.n < nf) && (regsB x.arg c.regs && par x.n x.arg.length)
  else if x.op = 15 ∨ x.op = 16 then labI c.ins x.n
  else true
def freeI (x : InsS) : Bool := decide (x.op = 8 ∨ x.op = 9)
def insB (c : CodeS) (ng nf : Int) (par : Int → Int → Bool) (x : InsS) : Bool :=
  match namedI x with
  | none => false
  | some (t, a, b, n, r) => regI x.dst t (-1) c.regs && (regI x.a a 0 c.regs && ((freeI x || regI x.b b 0 c.regs) && ((n || decide (x.n = 0)) && ((r || decide (x.arg.length = 0)) && numberI c ng nf par x))))
/-- May the labels be, those ahead told? -/
def layB : List InsS → List InsS → Bool
  | _, [] => true
  | l, x :: r => (decide (x.op ≠ 14) || (!labI l x.n && decide (0 ≤ x.n ∧ x.n < 8000))) && layB (l ++ [x]) r
def lastB (c : CodeS) : Bool := decide ((c.ins.getD (c.ins.length - 1) ⟨0, 0, 0, 0, 0, []⟩).op = 15 ∨ (c.ins.getD (c.ins.length - 1) ⟨0, 0, 0, 0, 0, []⟩).op = 17 ∨ (c.ins.getD (c.ins.length - 1) ⟨0, 0, 0, 0, 0, []⟩).op = 13)
def headV (c : CodeS) : Prop := ¬ c.params < 0 ∧ ¬ c.params > 4 ∧ ¬ c.params > c.regs ∧ ¬ c.regs > 8000 ∧ objsB c.locs 400 = true ∧ ¬ (c.ins.length : Int) < 1 ∧ ¬ (c.ins.length : Int) > 8000 ∧ layB [] c.ins = true
instance (c : CodeS) : Decidable (headV c) := by unfold headV; exact inferInstance
def codeB (c : CodeS) (ng nf : Int) (par : Int → Int → Bool) : Bool := if headV c then (c.ins.all (insB c ng nf par) && lastB c) else false
def noCode : CodeS := ⟨0, 0, [], []⟩
def parV (v : VirtS) (fn n : Int) : Bool := decide ((v.funcs.getD fn.toNat noCode).params = n)
def vmayP (v : VirtS) : Prop := objsB v.globs 16 = true ∧ ¬ (v.funcs.length : Int) < 1 ∧ ¬ (v.funcs.length : Int) > 8 ∧ (0 ≤ v.main ∧ v.main < (v.funcs.length : Int)) ∧ (v.funcs.getD v.main.toNat noCode).params = 0
instance (v : VirtS) : Decidable (vmayP v) := by unfold vmayP; exact inferInstance
def vmayB (v : VirtS) : Bool := if vmayP v then v.funcs.all (fun c => codeB c v.globs.length v.funcs.length (parV v)) else false

/-- A program of virtual code whose numbers are numbers. -/
structure VirtIn (v : VirtS) : Prop where
  globs : ∀ o, o ∈ v.globs → ∀ x, x ∈ o.init → In64 x
  locs : ∀ c, c ∈ v.funcs → ∀ o, o ∈ c.locs → ∀ x, x ∈ o.init → In64 x
  ins : ∀ c, c ∈ v.funcs → ∀ i, i ∈ c.ins → In64 i.op ∧ In64 i.dst ∧ In64 i.a ∧ In64 i.b ∧ In64 i.n ∧ ∀ x, x ∈ i.arg → In64 x
theorem SliceAt.mem' {α : Type} {w : World} {B sz : Nat} {E : (Nat → Option Value) → α → Prop} {l : List α} {v : Value} (h : SliceAt w B sz E l v) {x : α} (hx : x ∈ l) : ∃ c, E c x := by
  obtain ⟨i, hi⟩ := List.mem_iff_getElem?.1 hx
  obtain ⟨A, cap, _, _, h2⟩ := h
  obtain ⟨b, off, _, _, h3⟩ := h2 (List.length_pos_of_mem hx)
  exact ⟨_, h3 i x hi⟩
theorem LongsAt.in64' {w : World} {B : Nat} {l : List Int} {v : Value} (h : LongsAt w B l v) : ∀ x, x ∈ l → In64 x := fun x hx => by
  obtain ⟨c, _, h⟩ := SliceAt.mem' h hx
  exact h
theorem VirtAt.pin {w : World} {B : Nat} {P : Value × Value × Value} {v : VirtS} (h : VirtAt w B P v) : VirtIn v := by
  obtain ⟨hg, hf, _⟩ := h
  refine ⟨fun o ho => ?_, fun c hcm o ho => ?_, fun c hcm i hi => ?_⟩
  · obtain ⟨c, _, _, ⟨u, _, hv⟩, _⟩ := hg.mem' ho
    exact hv.in64'
  · obtain ⟨c, _, _, ⟨u, _, hl⟩, _⟩ := hf.mem' hcm
    obtain ⟨c, _, _, ⟨u, _, hv⟩, _⟩ := hl.mem' ho
    exact hv.in64'
  · obtain ⟨c, _, _, _, ⟨u, _, hl⟩, _⟩ := hf.mem' hcm
    obtain ⟨c, _, _, _, _, _, ⟨u, _, hv⟩, h0, h1, h2, h3, h4⟩ := hl.mem' hi
    exact ⟨h0, h1, h2, h3, h4, hv.in64'⟩
end Go.Proofs.Ytinmgbodgecoeaa
namespace Go.Proofs.Ytinmgbodgecoeaa
open Go.RowKit Go.Maps

theorem lab_law : Keyed Try.prog 2 := int_keyed Try.underlying2
theorem lab_zero (w : World) : (zeroValue 3).run Try.prog w = .ok (.int .i64 0) w := by kernel_rfl
theorem lab_key {k : Int} (h : In64 k) : keyOf Try.prog 2 (.int .i64 k) = some (.int .i64 k) := keyOf_int_mk Try.underlying2 (WalkArith.wf_i64 (by unfold In64 at h; omega))
/-- What the map says of each number. -/
def LabD (f : Int → Option Nat) (D : DataW Unit) : Prop := ∀ k, In64 k → Maps.has D (.int .i64 k) = (f k).isSome ∧ D.atKey (.int .i64 k) (.lit (.int .i64 0)) = .lit (.int .i64 ((f k).getD 0 : Nat))
def LabM (w : World) (b n : Nat) (f : Int → Option Nat) : Prop := ∃ D : DataW Unit, w.ownsMap Try.prog 2 (plainElem Try.prog 3) b n D ∧ LabD f D
theorem LabM.made (w : World) : LabM (w.alloc (.map #[] 0)) w.heap.size 0 (fun _ => none) :=
  ⟨.map [], World.ownsMap_made _ _ _ _, fun k _ => ⟨rfl, rfl⟩⟩
theorem LabM.heap {w w' : World} {b n : Nat} {f : Int → Option Nat} (h : LabM w b n f) (hb : w'.heap[b]? = w.heap[b]?) : LabM w' b n f := by
  obtain ⟨D, ⟨es, clock, h1, h2⟩, h3⟩ := h
  exact ⟨D, ⟨es, clock, hb.trans h1, h2⟩, h3⟩
theorem LabM.lt {w : World} {b n : Nat} {f : Int → Option Nat} (h : LabM w b n f) : b < w.heap.size := by
  obtain ⟨D, h1, _⟩ := h
  exact h1.lt
theorem LabM.wr {F : Nat → Prop} {w w' : World} {b n : Nat} {f : Int → Option Nat} (h : LabM w b n f) (hw : Wr F w w') (hF : ¬ F b) : LabM w' b n f := h.heap (hw.block b h.lt hF)
theorem LabM.below {w w' : World} {b n : Nat} {f : Int → Option Nat} (h : LabM w b n f) (hw : Below w.heap.size w w') : LabM w' b n f := h.heap (hw.block b h.lt)
/-- Not a row. -/
theorem LabM.ne {w : World} {b n g : Nat} {f : Int → Option Nat} {cs : Array Value} {t : TypeId} (h : LabM w b n f) (hr : Row w g cs t) : b ≠ g := by
  rintro rfl
  obtain ⟨D, ⟨es, clock, h1, _⟩, _⟩ := h
  have h2 := h1.symm.trans (show w.heap[b]? = some (.cells cs t (0, 0)) from hr)
  exact Obj.noConfusion (Option.some.inj h2)
set_option maxRecDepth 100000 in
/-- A label's look-up. -/
theorem LabM.look {w : World} {b n : Nat} {f : Int → Option Nat} (h : LabM w b n f) {k : Int} (hk : In64 k) : (Instr.lookup 56 (.map (some b)) (.int .i64 k) false).run Try.prog w = .ok (.int .i64 ((f k).getD 0 : Nat)) w := by
  obtain ⟨D, h1, h2⟩ := h
  obtain ⟨c, hrun, hat, _⟩ := h1.lookup_int lab_law Try.underlying56 Try.underlying3 (lab_zero w) (lab_key hk)
  have := (h2 k hk).2
  rw [hat] at this
  injection this with this
  injection this with _ this
  rw [hrun, this]
/-- Where a label stands, if it is there. -/
def labO (l : List InsS) (n : Int) : Option Nat := if labI l n = true then some (labN l n) else none
theorem labI_snoc {l : List InsS} {x : InsS} {n : Int} : labI (l ++ [x]) n = (labI l n || decide (x.op = 14 ∧ x.n = n)) := by simp [labI]
theorem labN_old {l r : List InsS} {n : Int} (h : labI l n = true) : labN (l ++ r) n = labN l n := by
  unfold labI at h
  unfold labN
  rw [List.findIdx_append, if_pos]
  rw [List.any_eq_true] at h
  obtain ⟨x, hx, hp⟩ := h
  exact List.findIdx_lt_length_of_exists ⟨x, hx, hp⟩
theorem labN_new {l : List InsS} {x : InsS} {n : Int} (h : labI l n = false) (hx : x.op = 14 ∧ x.n = n) : labN (l ++ [x]) n = l.length := by
  unfold labI at h
  unfold labN
  have hl : l.findIdx (fun i => decide (i.op = 14 ∧ i.n = n)) = l.length := by
    rw [List.findIdx_eq_length]
    intro y hy
    cases hp : decide (y.op = 14 ∧ y.n = n) with
    | false => rfl
    | true =>
      have this : l.any (fun i => decide (i.op = 14 ∧ i.n = n)) = true := List.any_eq_true.2 ⟨y, hy, hp⟩
      rw [h] at this
      cases this
  rw [List.findIdx_append, hl, if_neg (by omega)]
  have : List.findIdx (fun i => decide (i.op = 14 ∧ i.n = n)) [x] = 0 := by
    rw [List.findIdx_cons, decide_eq_true hx]
    rfl
  omega
theorem labO_other {l : List InsS} {x : InsS} {n : Int} (hx : ¬ (x.op = 14 ∧ x.n = n)) : labO (l ++ [x]) n = labO l n := by
  unfold labO
  rw [labI_snoc, decide_eq_false hx, Bool.or_false]
  by_cases h : labI l n = true
  · rw [if_pos h, if_pos h, labN_old h]
  · rw [if_neg h, if_neg h]
theorem labO_new {l : List InsS} {x : InsS} (h : labI l x.n = false) (hx : x.op = 14) : labO (l ++ [x]) x.n = some l.length := by
  unfold labO
  rw [labI_snoc, decide_eq_true ⟨hx, rfl⟩, Bool.or_true, if_pos rfl, labN_new h ⟨hx, rfl⟩]
end Go.Proofs.Ytinmgbodgecoeaa
namespace Go.Proofs.Ytinmgbodgecoeaa
open Go.RowKit

theorem still_of_quiet {P : Program} {ops : Array Oper} {w : World} {Q : Act → Prop} : ∀ {l : List Oper} {a : Act}, wpQuiet P ops (fun w' => w' = w) Q l a → wpStill P ops w Q l a := by
  intro l
  induction l with
  | nil => intro a h; exact h
  | cons o rest ih =>
    intro a h
    unfold wpQuiet at h
    unfold wpStill
    split
    · rename_i hw
      rw [if_pos hw] at h
      obtain ⟨v, h1, h2⟩ := h
      have h3 := h1 w rfl
      unfold Oper.quietAt at h3
      unfold Oper.still
      generalize (execOp a.eval o).run P w = r at *
      cases r with
      | ok n w' =>
        cases n <;> simp only [Oper.quietUpon] at h3 <;> simp only [Oper.stillUpon]
        case value u => obtain ⟨e1, e2⟩ := h3; subst e2; exact ⟨e1, ih h2⟩
        case skip => obtain ⟨e1, e2⟩ := h3; subst e2; exact ⟨e1, ih h2⟩
        case enter f args => exact ⟨h3.1, v, h3.2, ih h2⟩
      | halt x w' => simp only [Oper.quietUpon] at h3
    · rename_i hw
      rw [if_neg hw] at h
      exact ih h
theorem still_tailq {P : Program} {id : Nat} {Q : Exit → Act → World → Prop} {a : Act} {w : World} {l : List Oper} (n : Nat) (hm : P.follows .mixedOrders = true) (hB : Region.lexTailB .any l.toArray n = true)
    (h : wpQuiet P l.toArray (fun w' => w' = w.drew) (fun a' => wpList P l.toArray Q (l.drop n) a' w.drew) (l.take n) a) : (Code.region id l.toArray true).wp P Q a w :=
  still_tail n hm hB (still_of_quiet h)
/-- What stands behind a code, as a letter: 'go_wp2' tries the return at each body's end, at great cost. -/
theorem wp_letter {P : Program} {c : Code} {a : Act} {w : World} {R : Exit → Act → World → Prop} (h : ∀ Q : Exit → Act → World → Prop, (∀ e a w, R e a w → Q e a w) → Code.wp P c Q a w) : Code.wp P c R a w :=
  h R (fun _ _ _ h => h)
theorem Wr.drewR {F : Nat → Prop} {w w1 : World} (h : Wr F w w1) : Wr F w w1.drew := h.trans (Wr.of_below (F := fun _ => False) (Below.refl _ _).drew) (fun _ h => h.elim)
theorem Wr.allocR {F : Nat → Prop} {w w1 : World} (h : Wr F w w1) (o : Obj) : Wr F w (w1.alloc o) := h.trans (Wr.of_below (F := fun _ => False) (below1 w1 o)) (fun _ h => h.elim)
theorem Wr.setR {F : Nat → Prop} {w w1 : World} (h : Wr F w w1) (r j : Nat) (v : Value) (hF : F r ∨ w.heap.size ≤ r) : Wr F w (w1.setCell ⟨r, j, none⟩ v) :=
  h.trans (Wr.setCell (F := fun b => b = r) w1 ⟨r, j, none⟩ v rfl) (fun _ h => h ▸ hF)
end Go.Proofs.Ytinmgbodgecoeaa
namespace Go.Proofs.Ytinmgbodgecoeaa
open Go.RowKit Go.Maps

/-- A region that draws its order and only reads: by the cheap step, in one world. -/
theorem still_allq {P : Program} {id : Nat} {Q : Exit → Act → World → Prop} {a : Act} {w : World} {l : List Oper} (hm : P.follows .mixedOrders = true) (hB : Region.lexB .any l.toArray = true)
    (h : wpQuiet P l.toArray (fun w' => w' = w.drew) (fun a' => Q .normal a' w.drew) l a) : (Code.region id l.toArray true).wp P Q a w :=
  wp_region_still_lit hm hB (still_of_quiet h)

set_option maxRecDepth 100000 in
theorem LabM.look2 {w : World} {b n : Nat} {f : Int → Option Nat} (h : LabM w b n f) {k : Int} (hk : In64 k) : (Instr.lookup 56 (.map (some b)) (.int .i64 k) true).run Try.prog w = .ok (.tuple #[.int .i64 ((f k).getD 0 : Nat), .bool (f k).isSome]) w := by
  obtain ⟨D, h1, h2⟩ := h
  obtain ⟨v, ps, hrun, hR⟩ := h1.look_ok lab_law Try.underlying56 (lab_zero w) (plainElem_int Try.underlying3 (a := 0) rfl) (lab_key hk)
  obtain ⟨a, rfl, hz, _⟩ := plainElem_int_inv Try.underlying3 hR
  obtain ⟨h3, h4⟩ := h2 k hk
  have he : D.atKey (.int .i64 k) (.lit (.int .i64 0)) = .lit (.int .i64 a) := congrArg Prod.fst hz
  rw [h4] at he
  injection he with he
  injection he with _ he
  rw [hrun, h3, he]
theorem labD_put {f : Int → Option Nat} {D : DataW Unit} (hD : IsMap D) (h : LabD f D) {k : Int} (v : Nat) {g : Int → Option Nat} (hg : g k = some v) (ho : ∀ j, j ≠ k → g j = f j) : LabD g (D.put (.int .i64 k) (.lit (.int .i64 (v : Nat)))) := by
  have hkl : WideAt.IsKeyLit (.int .i64 k) := trivial
  intro j hj
  by_cases e : j = k
  · subst e
    rw [hg]
    exact ⟨has_put_same hD hkl _, atKey_put_same hD hkl _ _⟩
  · have hne : (Lit.int .i64 j) ≠ Lit.int .i64 k := fun h => by injection h with _ h; exact e h
    rw [ho j e]
    exact ⟨(has_put_other hne _).trans (h j hj).1, (atKey_put_other hne _ _).trans (h j hj).2⟩
theorem LabM.congr {w : World} {b n : Nat} {f g : Int → Option Nat} (h : LabM w b n f) (hg : ∀ j, g j = f j) : LabM w b n g := by
  rw [show g = f from funext hg]
  exact h
theorem LabM.mono {w : World} {b n m : Nat} {f : Int → Option Nat} (h : LabM w b n f) (hn : n ≤ m) : LabM w b m f := by
  obtain ⟨D, h1, h2⟩ := h
  exact ⟨D, h1.mono hn, h2⟩
theorem labO_some {l : List InsS} {n : Int} : (labO l n).isSome = labI l n := by
  unfold labO
  cases h : labI l n <;> simp
theorem layB_step {l r : List InsS} {x : InsS} (h : x.op ≠ 14) : layB l (x :: r) = layB (l ++ [x]) r := by
  rw [layB, decide_eq_true h]
  rfl
theorem layB_no {l r : List InsS} {x : InsS} (h : x.op = 14) (h' : labI l x.n = true ∨ x.n < 0 ∨ 8000 ≤ x.n) : layB l (x :: r) = false := by
  rw [layB, decide_eq_false (by omega), Bool.false_or]
  rcases h' with h' | h'
  · rw [h']; rfl
  · rw [decide_eq_false (by omega), Bool.and_false]; rfl
theorem layB_yes {l r : List InsS} {x : InsS} (h : x.op = 14) (h1 : labI l x.n = false) (h2 : 0 ≤ x.n) (h3 : x.n < 8000) : layB l (x :: r) = layB (l ++ [x]) r := by
  rw [layB, h1]
  simp [h2, h3]
end Go.Proofs.Ytinmgbodgecoeaa
namespace Go.Proofs.Ytinmgbodgecoeaa
open Go.RowKit

section
variable {P : Program} {ops : Array Oper} {md : Region.Mode} {C : World → Prop}
def wpAnyLQ (P : Program) (md : Region.Mode) (ops : Array Oper) (C : World → Prop) (n : Nat) (L : Array Bool → Act → Prop) : Nat → Array Bool → Act → Prop
  | 0, listed, a => L listed a
  | f + 1, listed, a =>
    Region.ready md ops listed ≠ [] ∧ ∀ i ∈ Region.ready md ops listed, i < n ∧ qOp P ops C i (wpAnyLQ P md ops C n L f (listed.setIfInBounds i true)) a

theorem wpAny_of_headQ {n g : Nat} {L : Array Bool → Act → Prop} {Q' : Exit → Act → World → Prop} (hL : ∀ listed a w, C w → L listed a → wpAny P md ops Q' g listed a w) :
    ∀ (f : Nat) (listed : Array Bool) (a : Act) (w : World), C w → wpAnyLQ P md ops C n L f listed a → wpAny P md ops Q' (f + g) listed a w
  | 0, listed, a, w, hw, h => by rw [Nat.zero_add]; exact hL _ _ _ hw h
  | f + 1, listed, a, w, hw, h => by
    rw [show f + 1 + g = (f + g) + 1 by omega]
    exact ⟨fun h0 => absurd h0 h.1, fun i hi => wpOp_of_qOp hw (fun a' w' hw' h' => wpAny_of_headQ hL f _ a' w' hw' h') (h.2 i hi).2⟩

theorem wpAnyLQ_first {n i : Nat} {oi : Oper} {v : Value} {L : Array Bool → Act → Prop} (hi : ops[i]? = some oi) (hsel : ∀ (j : Nat) (o : Oper) cs b, ops[j]? = some o → o.op ≠ .select cs b)
    (hs : Region.sinkB md ops n = true) (hc : Region.chainB md ops n = true) (hn : n < ops.size) (hin : i < n)
    (hdone : ∀ listed a, L listed a → ∀ j ∈ Region.ready md ops listed, n ≤ j) :
    ∀ (f : Nat) (listed : Array Bool) (a : Act), HeadInv md ops n listed →
      (∀ j oj, ops[j]? = some oj → j ≠ i → listed.getD j true = false → (∀ e ∈ oj.after, Region.binds md e = true → e.on ≠ i) → oi.apart ops oj = true) →
      i ∈ Region.ready md ops listed → YieldsIn P ops C oi v a →
      wpAnyLQ P md ops C n L f (listed.setIfInBounds i true) (a.put oi.dst v) → wpAnyLQ P md ops C n L (f + 1) listed a := by
  intro f
  induction f with
  | zero =>
    intro listed a inv _ hr hy H
    have hun := (mem_ready.1 hr).1
    refine ⟨fun h => (by rw [h] at hr; cases hr), fun j hj => ?_⟩
    have hjn : j < n := by
      rcases Nat.lt_or_ge j n with h | h
      · exact h
      · exact absurd hj (tail_waits hs hc hn inv _ i rfl hin hun j h)
    refine ⟨hjn, ?_⟩
    by_cases hji : j = i
    · subst hji; exact hy.qOp hi H
    · have := hdone _ _ H j (ready_mono hj hji)
      omega
  | succ f ih =>
    intro listed a inv hfree hr hy H
    have hun := (mem_ready.1 hr).1
    refine ⟨fun h => (by rw [h] at hr; cases hr), fun j hj => ?_⟩
    have hjn : j < n := by
      rcases Nat.lt_or_ge j n with h | h
      · exact h
      · exact absurd hj (tail_waits hs hc hn inv _ i rfl hin hun j h)
    refine ⟨hjn, ?_⟩
    by_cases hji : j = i
    · subst hji; exact hy.qOp hi H
    · have h1 := (H.2 j (ready_mono hj hji)).2
      obtain ⟨hjun, oj, hoj, hall⟩ := mem_ready.1 hj
      have hnot : ∀ e ∈ oj.after, Region.binds md e = true → e.on ≠ i := fun e he hb heq => by
        have h1 := hall e he hb
        rw [heq, getD_both hun] at h1
        cases h1
      have h2 := qOp_put hoj (hfree j oj hoj hji hjun hnot) (fun cs b => hsel i oi cs b hi) (fun cs b => hsel j oj cs b hoj) hy h1
      have hfree' : ∀ k ok, ops[k]? = some ok → k ≠ i → (listed.setIfInBounds j true).getD k true = false →
          (∀ e ∈ ok.after, Region.binds md e = true → e.on ≠ i) → oi.apart ops ok = true := fun k ok hk hki hun hno => by
        refine hfree k ok hk hki ?_ hno
        by_cases hjk : j = k
        · subst hjk; exact hjun
        · rw [getD_set_ne true hjk] at hun; exact hun
      refine qOp_mono (fun a' h3 => ih (listed.setIfInBounds j true) a' (inv.set hj hjn) hfree' (ready_mono hr (Ne.symm hji)) h3.1 ?_) h2
      rw [Array.setIfInBounds_comm _ _ hji]
      exact h3.2
theorem wpAnyLQ_lex {n g : Nat} {Lq : Act → Prop} (hsel : Region.noSelect ops = true) (hs : Region.sinkB md ops n = true) (hc : Region.chainB md ops n = true) (hn : n < ops.size) :
    ∀ (l : List Oper) (k : Nat) (listed : Array Bool) (a : Act), (∀ j, j < l.length → l[j]? = ops[k + j]?) → k + l.length = n → HeadInv md ops n listed →
    Region.lexHead md ops g l.length k listed = true → wpQuiet P ops C Lq l a →
    wpAnyLQ P md ops C n (fun listed' a' => Region.seqB md ops g n listed' = true ∧ Lq a') l.length listed a
  | [], k, listed, a, _, hk, _, hB, h => by
    have : k = n := by simpa using hk
    subst this
    exact ⟨by simpa [Region.lexHead] using hB, h⟩
  | o :: l, k, listed, a, hl, hk, inv, hB, h => by
    have h0 : ops[k]? = some o := by simpa using (hl 0 (by simp)).symm
    simp only [List.length_cons, Region.lexHead, Bool.and_eq_true] at hB
    obtain ⟨⟨hr, hf⟩, hB'⟩ := hB
    have hkn : k < n := by simp only [List.length_cons] at hk; omega
    have hr' : k ∈ Region.ready md ops listed := by simpa using hr
    have hst : qOp P ops C k (wpQuiet P ops C Lq l) a := by unfold qOp; simp only [h0]; exact h
    obtain ⟨v, hy, hK⟩ := yieldsIn_of_qOp h0 hst
    exact wpAnyLQ_first h0 (Region.noSelect_spec hsel) hs hc hn hkn (fun listed' a' hL => seqB_ready hL.1) l.length listed a inv (Region.free_spec h0 hf) hr' hy
      (wpAnyLQ_lex hsel hs hc hn l (k + 1) _ _ (fun j hj => by have := hl (j + 1) (by simp; omega); simpa [Nat.add_assoc, Nat.add_comm 1 j] using this) (by simp only [List.length_cons] at hk; omega) (inv.set hr' hkn) hB' hK)
end
theorem wp_region_quiet_tail {P : Program} {C : World → Prop} {id : Nat} {Q : Exit → Act → World → Prop} {a : Act} {w : World} {l : List Oper} (n : Nat) (hm : P.follows .mixedOrders = true) (hB : Region.lexTailB .any l.toArray n = true) (hC : C { w with drawn := w.drawn + 1 })
    (h : wpQuiet P l.toArray C (fun a' => ∀ w', C w' → wpList P l.toArray Q (l.drop n) a' w') (l.take n) a) : (Code.region id l.toArray true).wp P Q a w := by
  simp only [Region.lexTailB, Bool.and_eq_true, decide_eq_true_eq] at hB
  obtain ⟨⟨⟨⟨hsel, hn⟩, hs⟩, hc⟩, hlex⟩ := hB
  have hn' : n < l.length := by simpa using hn
  have htl : (l.take n).length = n := by simp; omega
  have hdl : (l.drop n).length = l.toArray.size - n := by simp
  have inv0 : HeadInv .any l.toArray n (Array.replicate l.toArray.size false) :=
    ⟨by simp, fun j oj _ hl => (by rw [getD_replicate_false] at hl; cases hl), fun t _ ht => getD_in (by simpa using ht) (getD_replicate_false _ _)⟩
  have H := wpAnyLQ_lex (md := .any) (g := l.toArray.size - n) hsel hs hc hn (l.take n) 0 _ a (fun j hj => by
    have hj' : j < n := by rw [htl] at hj; exact hj
    simp [hj']) (by simpa using htl) inv0 (by rw [htl]; exact hlex) h
  refine wp_region_any hm ?_
  have := wpAny_of_headQ (Q' := Q) (g := l.toArray.size - n) (fun listed a' w' hw' hL => by
      rw [← hdl]
      exact wpAny_of_seq (l.drop n) n listed a' w' (fun j => by simp) (by rw [hdl]; exact hL.1) (hL.2 w' hw')) _ _ _ _ hC H
  rw [htl] at this
  have e : n + (l.toArray.size - n) = l.toArray.size := by omega
  rw [e] at this
  exact this
/-- The head: reads, and callees that at most make new memory. -/
theorem grow_tail {P : Program} {id : Nat} {Q : Exit → Act → World → Prop} {a : Act} {W : World} {l : List Oper} (n : Nat) (hm : P.follows .mixedOrders = true) (hB : Region.lexTailB .any l.toArray n = true)
    (h : (∀ (u : Grows W) (b o : Nat), b < W.heap.size → u.1.cell? ⟨b, o, none⟩ = W.cell? ⟨b, o, none⟩) → wpQuiet P l.toArray (fun w' => ∃ u : Grows W, w' = u.1) (fun a' => ∀ u : Grows W, wpList P l.toArray Q (l.drop n) a' u.1) (l.take n) a) : (Code.region id l.toArray true).wp P Q a W := by
  have h' := h (fun u b o hb => u.2.cell (p := ⟨b, o, none⟩) hb)
  refine wp_region_quiet_tail (C := fun w' => ∃ u : Grows W, w' = u.1) n hm hB ⟨⟨W.drew, (Below.refl _ _).drew⟩, rfl⟩ ?_
  have e : (fun a' => ∀ w', (∃ u : Grows W, w' = u.1) → wpList P l.toArray Q (l.drop n) a' w') = (fun a' => ∀ u : Grows W, wpList P l.toArray Q (l.drop n) a' u.1) := by
    funext a'
    exact propext ⟨fun hh u => hh _ ⟨u, rfl⟩, fun hh w' ⟨u, hu⟩ => by rw [hu]; exact hh u⟩
  rw [e]
  exact h'
end Go.Proofs.Ytinmgbodgecoeaa
namespace Go.Proofs.Ytinmgbodgecoeaa
open Go.RowKit

def unlisted (n : Nat) (listed : Array Bool) : Nat := ((List.range n).filter fun j => !listed.getD j true).length
theorem filter_le_of {α : Type} {p q : α → Bool} : ∀ (l : List α), (∀ x, q x = true → p x = true) → (l.filter q).length ≤ (l.filter p).length
  | [], _ => by simp
  | x :: l, h => by
    have ih := filter_le_of l h
    cases hq : q x
    · rw [List.filter_cons_of_neg (by simp [hq])]
      cases hp : p x
      · rw [List.filter_cons_of_neg (by simp [hp])]; exact ih
      · rw [List.filter_cons_of_pos hp]; simp; omega
    · rw [List.filter_cons_of_pos hq, List.filter_cons_of_pos (h x hq)]; simpa using ih
theorem filter_lt_of {α : Type} {p q : α → Bool} : ∀ (l : List α) (y : α), (∀ x, q x = true → p x = true) → y ∈ l → p y = true → q y = false → (l.filter q).length < (l.filter p).length
  | [], y, _, hy, _, _ => by simp at hy
  | x :: l, y, h, hy, hp, hq => by
    by_cases hxy : x = y
    · subst hxy
      rw [List.filter_cons_of_pos hp, List.filter_cons_of_neg (by simp [hq])]
      have := filter_le_of l h
      simp
      omega
    · have hy' : y ∈ l := by rcases List.mem_cons.1 hy with h | h; exact absurd h.symm hxy; exact h
      have ih := filter_lt_of l y h hy' hp hq
      cases hq' : q x
      · rw [List.filter_cons_of_neg (by simp [hq'])]
        cases hp' : p x
        · rw [List.filter_cons_of_neg (by simp [hp'])]; exact ih
        · rw [List.filter_cons_of_pos hp']; simp; omega
      · rw [List.filter_cons_of_pos hq', List.filter_cons_of_pos (h x hq')]; simpa using ih
theorem unlisted_set {n i : Nat} {listed : Array Bool} (hi : i < n) (h : listed.getD i true = false) : unlisted n (listed.setIfInBounds i true) < unlisted n listed := by
  refine filter_lt_of _ i (fun x hx => ?_) (List.mem_range.2 hi) (by simp [h]) ?_
  · by_cases hxi : i = x
    · subst hxi; simp [h]
    · rw [getD_set_ne true hxi] at hx; exact hx
  · have hlt : i < listed.size := by
      rcases Nat.lt_or_ge i listed.size with h' | h'
      · exact h'
      · simp [Array.getD, Nat.not_lt.2 h'] at h
    simp [Array.getD, hlt]

theorem wpAny_inv {P : Program} {md : Region.Mode} {ops : Array Oper} {Q : Exit → Act → World → Prop} (Inv : Array Bool → Act → World → Prop)
    (hstep : ∀ listed a w i, i ∈ Region.ready md ops listed → Inv listed a w → wpOp P ops Q i (fun a' w' => Inv (listed.setIfInBounds i true) a' w') a w)
    (hend : ∀ listed a w, Region.ready md ops listed = [] → Inv listed a w → Q .normal a w) :
    ∀ (fuel : Nat) (listed : Array Bool) (a : Act) (w : World), unlisted ops.size listed ≤ fuel → Inv listed a w → wpAny P md ops Q fuel listed a w
  | 0, listed, a, w, hf, h => by
    have hr : Region.ready md ops listed = [] := by
      cases hr : Region.ready md ops listed with
      | nil => rfl
      | cons i l =>
        have hm : i ∈ Region.ready md ops listed := by rw [hr]; simp
        obtain ⟨h1, o, ho, _⟩ := mem_ready.1 hm
        have hlt : i < ops.size := by
          rcases Nat.lt_or_ge i ops.size with h' | h'
          · exact h'
          · rw [Array.getElem?_eq_none h'] at ho; cases ho
        have := unlisted_set hlt h1
        omega
    exact ⟨hr, hend listed a w hr h⟩
  | fuel + 1, listed, a, w, hf, h => by
    refine ⟨fun hr => hend listed a w hr h, fun i hi => ?_⟩
    obtain ⟨h1, o, ho, _⟩ := mem_ready.1 hi
    have hlt : i < ops.size := by
      rcases Nat.lt_or_ge i ops.size with h' | h'
      · exact h'
      · rw [Array.getElem?_eq_none h'] at ho; cases ho
    have hu := unlisted_set hlt h1
    exact wpOp_mono (fun a' w' h' => wpAny_inv Inv hstep hend fuel _ a' w' (by omega) h') (hstep listed a w i hi h)

/-- The region's rule: 'Inv': what holds when so many operations have been done. -/
theorem wp_region_inv {P : Program} {id : Nat} {Q : Exit → Act → World → Prop} {a : Act} {w : World} {l : List Oper} (hm : P.follows .mixedOrders = true) (Inv : Array Bool → Act → World → Prop)
    (h0 : Inv (Array.replicate l.toArray.size false) a w.drew)
    (hstep : ∀ listed a w i, i ∈ Region.ready .any l.toArray listed → Inv listed a w → wpOp P l.toArray Q i (fun a' w' => Inv (listed.setIfInBounds i true) a' w') a w)
    (hend : ∀ listed a w, Region.ready .any l.toArray listed = [] → Inv listed a w → Q .normal a w) : (Code.region id l.toArray true).wp P Q a w :=
  wp_region_any hm (wpAny_inv Inv hstep hend _ _ _ _ (by unfold unlisted; exact Nat.le_trans (List.length_filter_le _ _) (by simp)) h0)
/-- Nothing is ready: an operation all of whose forerunners are done is done. -/
theorem flag_of {md : Region.Mode} {ops : Array Oper} {L : Array Bool} {j : Nat} {o : Oper} (hj : j < L.size) (hr : Region.ready md ops L = []) (ho : ops[j]? = some o) (hd : ∀ e ∈ o.after, L.getD e.on false = true) : L.getD j false = true := by
  cases h : L.getD j true with
  | false =>
    have : j ∈ Region.ready md ops L := mem_ready.2 ⟨h, o, ho, fun e he _ => hd e he⟩
    rw [hr] at this
    cases this
  | true => simp [Array.getD, hj] at h ⊢; exact h
/-- One operation without a guard, what follows behind a letter. -/
theorem wpOp_plain {P : Program} {ops : Array Oper} {Q : Exit → Act → World → Prop} {i : Nat} {o : Oper} {a : Act} {w : World} {K : Act → World → Prop} (ho : ops[i]? = some o) (hg : o.guard = none)
    (h : ∀ K' : Act → World → Prop, (∀ a w, K a w → K' a w) → o.wp P a w K' Q) : wpOp P ops Q i K a w := by
  unfold wpOp
  rw [ho]
  simp only
  rw [if_pos (by simp [Region.wanted, hg])]
  exact Or.inl (h K (fun _ _ h => h))
end Go.Proofs.Ytinmgbodgecoeaa
namespace Go.Proofs.Ytinmgbodgecoeaa
open Go.RowKit

def upd (Y : Nat → Value) (i : Nat) (v : Value) : Nat → Value := fun j => if j = i then v else Y j
theorem upd_self (Y : Nat → Value) (i : Nat) (v : Value) : upd Y i v i = v := by simp [upd]
theorem upd_ne (Y : Nat → Value) {i j : Nat} (v : Value) (h : j ≠ i) : upd Y i v j = Y j := by simp [upd, h]
theorem ls_set' {L : Array Bool} {i j : Nat} (h : (L.setIfInBounds i true).getD j false = true) : j = i ∨ L.getD j false = true := by
  by_cases hij : i = j
  · exact Or.inl hij.symm
  · rw [getD_set_ne false hij] at h; exact Or.inr h

/-- 'Cl W i v': what is known of operation i's result v, at whatever later world W. -/
theorem region_cl {P : Program} {id : Nat} {Q : Exit → Act → World → Prop} {a : Act} {w : World} {l : List Oper} (hm : P.follows .mixedOrders = true) (Cl : World → Nat → Value → Prop) (mk : (Nat → Value) → Act) (Y0 : Nat → Value) (ha : a = mk Y0)
    (hback : l.zipIdx.all (fun x => x.1.after.all fun e => decide (e.on < x.2)) = true)
    (hmono : ∀ W W' i v, Below W.heap.size W W' → Cl W i v → Cl W' i v)
    (hstep : ∀ i o Y W, l[i]? = some o → Below w.heap.size w W → (∀ e ∈ o.after, Region.binds .any e = true → Cl W e.on (Y e.on)) → ∀ K : Act → World → Prop, (∀ v W', Below W.heap.size W W' → Cl W' i v → K (mk (upd Y i v)) W') → wpOp P l.toArray Q i K (mk Y) W)
    (hend : ∀ Y W, Below w.heap.size w W → (∀ i, i < l.length → Cl W i (Y i)) → Q .normal (mk Y) W) : (Code.region id l.toArray true).wp P Q a w := by
  refine wp_region_inv hm (fun L act W => L.size = l.length ∧ ∃ Y, act = mk Y ∧ Below w.heap.size w W ∧ ∀ i, L.getD i false = true → Cl W i (Y i)) ?_ ?_ ?_
  · refine ⟨by simp, Y0, ha, (Below.refl _ _).drew, fun j h => ?_⟩
    rcases Nat.lt_or_ge j l.length with hj | hj
    · simp [Array.getD, hj] at h
    · simp [Array.getD, Nat.not_lt.2 hj] at h
  · rintro L act W i hi ⟨hsz, Y, rfl, hb, hc⟩
    obtain ⟨hn, o, ho, hall⟩ := mem_ready.1 hi
    refine hstep i o Y W (by simpa using ho) hb (fun e he hbd => hc _ (hall e he hbd)) _ (fun v W' hb' hv => ⟨by simp [hsz], upd Y i v, rfl, hb.trans (hb'.mono hb.size), fun j hj => ?_⟩)
    by_cases hji : j = i
    · subst hji; rw [upd_self]; exact hv
    · rw [upd_ne Y v hji]
      exact hmono _ _ _ _ hb' (hc j ((ls_set' hj).resolve_left hji))
  · rintro L act W hr ⟨hsz, Y, rfl, hb, hc⟩
    refine hend Y W hb ?_
    have key : ∀ n i, i < n → i < l.length → L.getD i false = true := by
      intro n
      induction n with
      | zero => intro i h; omega
      | succ n ih =>
        intro i hin hil
        refine flag_of (j := i) (by omega) hr (by simp [hil]; rfl) (fun e he => ?_)
        have hlt : e.on < i := by
          have hx := List.all_eq_true.1 hback (l[i], i) (List.mem_iff_getElem?.2 ⟨i, by simp [hil]⟩)
          exact of_decide_eq_true ((Array.all_eq_true_iff_forall_mem.1 hx) e he)
        exact ih e.on (by omega) (by omega)
    exact fun i hi => hc i (key (i + 1) i (by omega) hi)
end Go.Proofs.Ytinmgbodgecoeaa
namespace Go.Proofs.Ytinmgbodgecoeaa
open Go.RowKit

theorem wpAny_of_seq' {P : Program} {md : Region.Mode} {ops : Array Oper} {Q' : Exit → Act → World → Prop} (m : Nat) : ∀ (l : List Oper) (k : Nat) (listed : Array Bool) (a : Act) (w : World), (∀ j, l[j]? = ops[k + j]?) →
    Region.seqB md ops l.length k listed = true → wpList P ops Q' l a w → wpAny P md ops Q' (l.length + m) listed a w
  | [], _, listed, _, _, _, hB, h => by
    have hr : Region.ready md ops listed = [] := by simpa [Region.seqB] using hB
    cases m with
    | zero => exact ⟨hr, h⟩
    | succ m =>
      rw [show ([] : List Oper).length + (m + 1) = m + 1 by simp]
      exact ⟨fun _ => h, fun i hi => by rw [hr] at hi; cases hi⟩
  | o :: l, k, listed, a, w, hl, hB, h => by
    have h0 : ops[k]? = some o := by simpa using (hl 0).symm
    simp only [List.length_cons, Region.seqB, Bool.and_eq_true, decide_eq_true_eq] at hB
    rw [show (o :: l).length + m = (l.length + m) + 1 by simp; omega]
    refine ⟨fun h1 => (by rw [hB.1] at h1; cases h1), fun i hi => ?_⟩
    rw [hB.1] at hi
    have hik : i = k := by simpa using hi
    subst hik
    have hw : wpOp P ops Q' i (wpList P ops Q' l) a w := by unfold wpOp; simp only [h0]; exact h
    exact wpOp_mono (fun a' w' h' => wpAny_of_seq' m l (i + 1) _ a' w' (fun j => by have := hl (j + 1); simpa [Nat.add_assoc, Nat.add_comm 1 j] using this) hB.2 h') hw
/-- Each operation waits for earlier ones alone. -/
def backB (l : List Oper) : Bool := l.zipIdx.all (fun x => x.1.after.all fun e => decide (e.on < x.2))
theorem backB_of {l : List Oper} (hback : backB l = true) {i : Nat} {o : Oper} (ho : l[i]? = some o) {e : Edge} (he : e ∈ o.after) : e.on < i := by
  have hx := List.all_eq_true.1 hback (o, i) (List.mem_iff_getElem?.2 ⟨i, by simp [ho]⟩)
  exact of_decide_eq_true ((Array.all_eq_true_iff_forall_mem.1 hx) e he)
theorem ready_of {md : Region.Mode} {l : List Oper} {listed : Array Bool} (hback : backB l = true) (hsz : listed.size = l.length) : ∀ (n : Nat), n ≤ l.length → (∃ j, j < n ∧ listed.getD j false = false) → Region.ready md l.toArray listed ≠ []
  | 0, _, ⟨j, h, _⟩ => by omega
  | n + 1, hn, ⟨j, hj, hf⟩ => by
    by_cases he : ∃ j, j < n ∧ listed.getD j false = false
    · exact ready_of hback hsz n (by omega) he
    · have hjn : j = n := by
        rcases Nat.lt_or_ge j n with h | h
        · exact absurd ⟨j, h, hf⟩ he
        · omega
      subst hjn
      intro hr
      have hjl : j < l.length := by omega
      have : j ∈ Region.ready md l.toArray listed := mem_ready.2 ⟨getD_in (by omega) hf, l[j], by simp [hjl], fun e he' _ => by
        have hlt := backB_of hback (i := j) (o := l[j]) (by simp [hjl]) he'
        cases hx : listed.getD e.on false with
        | true => rfl
        | false => exact absurd ⟨e.on, hlt, hx⟩ he⟩
      rw [hr] at this
      cases this
/-- The checks of a head of n operations. -/
def headB (l : List Oper) (n : Nat) : Bool := decide (n < l.length) && Region.sinkB .any l.toArray n && Region.chainB .any l.toArray n && backB l && Region.seqB .any l.toArray (l.length - n) n ((List.range l.length).map fun j => decide (j < n)).toArray
theorem wpAny_inv_tail {P : Program} {l : List Oper} {Q : Exit → Act → World → Prop} (n : Nat) (hB : headB l n = true) (Inv : Array Bool → Act → World → Prop)
    (hstep : ∀ listed a w i, HeadInv .any l.toArray n listed → i < n → i ∈ Region.ready .any l.toArray listed → Inv listed a w → wpOp P l.toArray Q i (fun a' w' => Inv (listed.setIfInBounds i true) a' w') a w)
    (hend : ∀ listed a w, (∀ j, j < n → listed.getD j false = true) → Inv listed a w → wpList P l.toArray Q (l.drop n) a w) :
    ∀ (f : Nat) (listed : Array Bool) (a : Act) (w : World), HeadInv .any l.toArray n listed → unlisted n listed ≤ f → Inv listed a w → wpAny P .any l.toArray Q ((l.length - n) + f) listed a w := by
  unfold headB at hB
  simp only [Bool.and_eq_true, decide_eq_true_eq] at hB
  obtain ⟨⟨⟨⟨hn, hs⟩, hc⟩, hback⟩, hseq⟩ := hB
  have hnt : n < l.toArray.size := by simpa using hn
  have hdl : (l.drop n).length = l.length - n := by simp
  intro f
  induction f with
  | zero =>
    intro listed a w inv hf h
    have hall : ∀ j, j < n → listed.getD j false = true := by
      intro j hj
      cases hx : listed.getD j false with
      | true => rfl
      | false =>
        have hd : listed.getD j true = false := getD_in (by rw [inv.size]; omega) hx
        have := unlisted_set hj hd
        omega
    have hL : listed = ((List.range l.length).map fun j => decide (j < n)).toArray := by
      refine Array.ext (by simp [inv.size]) (fun j h1 h2 => ?_)
      simp only [List.getElem_toArray, List.getElem_map, List.getElem_range]
      by_cases hj : j < n
      · rw [decide_eq_true hj]
        have := hall j hj
        simpa [Array.getD, h1] using this
      · rw [decide_eq_false hj]
        have := inv.tail j (by omega) (by rw [← inv.size]; exact h1)
        simpa [Array.getD, h1] using this
    rw [← hL] at hseq
    rw [← hdl] at hseq ⊢
    exact wpAny_of_seq' 0 (l.drop n) n listed a w (fun j => by simp) hseq (hend listed a w hall h)
  | succ f ih =>
    intro listed a w inv hf h
    by_cases hall : ∀ j, j < n → listed.getD j false = true
    · have hL : listed = ((List.range l.length).map fun j => decide (j < n)).toArray := by
        refine Array.ext (by simp [inv.size]) (fun j h1 h2 => ?_)
        simp only [List.getElem_toArray, List.getElem_map, List.getElem_range]
        by_cases hj : j < n
        · rw [decide_eq_true hj]
          have := hall j hj
          simpa [Array.getD, h1] using this
        · rw [decide_eq_false hj]
          have := inv.tail j (by omega) (by rw [← inv.size]; exact h1)
          simpa [Array.getD, h1] using this
      rw [← hL] at hseq
      rw [← hdl] at hseq ⊢
      exact wpAny_of_seq' (f + 1) (l.drop n) n listed a w (fun j => by simp) hseq (hend listed a w hall h)
    · have hex : ∃ j, j < n ∧ listed.getD j false = false := by
        rcases Classical.not_forall.1 hall with ⟨j, hj⟩
        rcases Classical.not_imp.1 hj with ⟨h1, h2⟩
        exact ⟨j, h1, by simpa using h2⟩
      rw [show l.length - n + (f + 1) = (l.length - n + f) + 1 by omega]
      refine ⟨fun hr => absurd hr (ready_of hback (by rw [inv.size]; simp) n (by omega) hex), fun i hi => ?_⟩
      obtain ⟨j, hj, hf'⟩ := hex
      have hin : i < n := by
        rcases Nat.lt_or_ge i n with h' | h'
        · exact h'
        · exact absurd hi (tail_waits hs hc hnt inv _ j rfl hj (getD_in (by rw [inv.size]; omega) hf') i h')
      refine wpOp_mono (fun a' w' h' => ih _ a' w' (inv.set hi hin) ?_ h') (hstep listed a w i inv hin hi h)
      have := unlisted_set hin (mem_ready.1 hi).1
      omega
/-- 'Cl W i v': what is known of operation i's result v, at whatever later world W; the head: n operations. -/
theorem region_cl_tail {P : Program} {id : Nat} {Q : Exit → Act → World → Prop} {a : Act} {w : World} {l : List Oper} (n : Nat) (hm : P.follows .mixedOrders = true) (hB : headB l n = true) (Cl : World → Nat → Value → Prop) (mk : (Nat → Value) → Act) (Y0 : Nat → Value) (ha : a = mk Y0)
    (hmono : ∀ W W' i v, Below W.heap.size W W' → Cl W i v → Cl W' i v)
    (hstep : ∀ i o Y W, i < n → l[i]? = some o → Below w.heap.size w W → (∀ e ∈ o.after, Region.binds .any e = true → Cl W e.on (Y e.on)) → ∀ K : Act → World → Prop, (∀ v W', Below W.heap.size W W' → Cl W' i v → K (mk (upd Y i v)) W') → wpOp P l.toArray Q i K (mk Y) W)
    (hend : ∀ Y W, Below w.heap.size w W → (∀ i, i < n → Cl W i (Y i)) → wpList P l.toArray Q (l.drop n) (mk Y) W) : (Code.region id l.toArray true).wp P Q a w := by
  have hn : n < l.length := by
    unfold headB at hB
    simp only [Bool.and_eq_true, decide_eq_true_eq] at hB
    exact hB.1.1.1.1
  refine wp_region_any hm ?_
  have hun : unlisted n (Array.replicate l.toArray.size false) ≤ n := by unfold unlisted; exact Nat.le_trans (List.length_filter_le _ _) (by simp)
  have inv0 : HeadInv .any l.toArray n (Array.replicate l.toArray.size false) :=
    ⟨by simp, fun j oj _ hl => (by rw [getD_replicate_false] at hl; cases hl), fun t _ ht => getD_in (by simpa using ht) (getD_replicate_false _ _)⟩
  have H := wpAny_inv_tail (P := P) (Q := Q) n hB (fun L act W => L.size = l.length ∧ ∃ Y, act = mk Y ∧ Below w.heap.size w W ∧ ∀ i, i < n → L.getD i false = true → Cl W i (Y i)) ?_ ?_ n _ a w.drew inv0 hun ?_
  · have e : l.length - n + n = l.toArray.size := by simp; omega
    rw [e] at H
    exact H
  · rintro L act W i _ hin hi ⟨hsz, Y, rfl, hb, hc⟩
    obtain ⟨hnn, o, ho, hall⟩ := mem_ready.1 hi
    have hback : backB l = true := by
      unfold headB at hB
      simp only [Bool.and_eq_true, decide_eq_true_eq] at hB
      exact hB.1.2
    refine hstep i o Y W hin (by simpa using ho) hb (fun e he hbd => hc _ (by have := backB_of hback (by simpa using ho) he; omega) (hall e he hbd)) _ (fun v W' hb' hv => ⟨by simp [hsz], upd Y i v, rfl, hb.trans (hb'.mono hb.size), fun j hjn hj => ?_⟩)
    by_cases hji : j = i
    · subst hji; rw [upd_self]; exact hv
    · rw [upd_ne Y v hji]
      exact hmono _ _ _ _ hb' (hc j hjn ((ls_set' hj).resolve_left hji))
  · rintro L act W hall ⟨hsz, Y, rfl, hb, hc⟩
    exact hend Y W hb (fun i hi => hc i hi (hall i hi))
  · exact ⟨by simp, Y0, ha, (Below.refl _ _).drew, fun j _ h => by rw [getD_replicate_false] at h; cases h⟩
/-- Operation m waits, through others, for all operations ahead that are not late. -/
def coverB (l : List Oper) (m : Nat) (late : Nat → Bool) : Bool := (List.range m).all fun i => late i || (List.range (m + 1)).any fun j => decide (i < j) && (!late j && Region.waitsFor .any l.toArray j i)
theorem coverB_of {l : List Oper} {m n : Nat} {late : Nat → Bool} {L : Array Bool} (h : coverB l m late = true) (inv : HeadInv .any l.toArray n L) (hm : L.getD m false = true) : ∀ (d i : Nat), m - i = d → i < m → late i = false → L.getD i false = true := by
  intro d
  induction d using Nat.strongRecOn with
  | _ d ih =>
    intro i hd hi hl
    have h1 := List.all_eq_true.1 h i (List.mem_range.2 hi)
    rw [hl, Bool.false_or] at h1
    obtain ⟨j, hj, hj2⟩ := List.any_eq_true.1 h1
    simp only [Bool.and_eq_true, decide_eq_true_eq, Bool.not_eq_true'] at hj2
    obtain ⟨hij, hjl, hw⟩ := hj2
    obtain ⟨oj, hoj, e, he, hb, hon⟩ := Region.waitsFor_spec hw
    have hjm : j ≤ m := by have := List.mem_range.1 hj; omega
    have hjt : L.getD j false = true := by
      by_cases h' : j = m
      · rw [h']; exact hm
      · exact ih (m - j) (by omega) j rfl (by omega) hjl
    have := inv.closed j oj hoj hjt e he hb
    rw [hon] at this
    exact this
/-- A head whose last operation, m, writes; the late ones may come behind it. -/
theorem region_cw_tail {P : Program} {id : Nat} {Q : Exit → Act → World → Prop} {a : Act} {w : World} {l : List Oper} (m : Nat) (late : Nat → Bool) (hm : P.follows .mixedOrders = true) (hB : headB l (m + 1) = true) (hcov : coverB l m late = true) (Cl : World → Nat → Value → Prop) (Fin : World → Value → Prop) (mk : (Nat → Value) → Act) (Y0 : Nat → Value) (ha : a = mk Y0)
    (hmono : ∀ W W' i v, Below W.heap.size W W' → Cl W i v → Cl W' i v)
    (hstep : ∀ i o Y W, i < m → late i = false → l[i]? = some o → Below w.heap.size w W → (∀ e ∈ o.after, Region.binds .any e = true → Cl W e.on (Y e.on)) → ∀ K : Act → World → Prop, (∀ v W', Below W.heap.size W W' → Cl W' i v → K (mk (upd Y i v)) W') → wpOp P l.toArray Q i K (mk Y) W)
    (hlate : ∀ i o Y W, i < m → late i = true → l[i]? = some o → ∀ K : Act → World → Prop, (∀ v, (∀ W', Cl W' i v) → K (mk (upd Y i v)) W) → wpOp P l.toArray Q i K (mk Y) W)
    (hwrite : ∀ o Y W, l[m]? = some o → Below w.heap.size w W → (∀ i, i < m → late i = false → Cl W i (Y i)) → ∀ K : Act → World → Prop, (∀ v W', Fin W' v → K (mk (upd Y m v)) W') → wpOp P l.toArray Q m K (mk Y) W)
    (hend : ∀ Y W, Fin W (Y m) → (∀ i, i < m → late i = true → ∀ W', Cl W' i (Y i)) → wpList P l.toArray Q (l.drop (m + 1)) (mk Y) W) : (Code.region id l.toArray true).wp P Q a w := by
  have hn : m + 1 < l.length := by
    unfold headB at hB
    simp only [Bool.and_eq_true, decide_eq_true_eq] at hB
    exact hB.1.1.1.1
  have hback : backB l = true := by
    unfold headB at hB
    simp only [Bool.and_eq_true, decide_eq_true_eq] at hB
    exact hB.1.2
  refine wp_region_any hm ?_
  have hun : unlisted (m + 1) (Array.replicate l.toArray.size false) ≤ m + 1 := by unfold unlisted; exact Nat.le_trans (List.length_filter_le _ _) (by simp)
  have inv0 : HeadInv .any l.toArray (m + 1) (Array.replicate l.toArray.size false) :=
    ⟨by simp, fun j oj _ hl => (by rw [getD_replicate_false] at hl; cases hl), fun t _ ht => getD_in (by simpa using ht) (getD_replicate_false _ _)⟩
  have H := wpAny_inv_tail (P := P) (Q := Q) (m + 1) hB (fun L act W => ∃ Y, act = mk Y ∧ (L.getD m false = false → Below w.heap.size w W ∧ ∀ i, i < m → L.getD i false = true → Cl W i (Y i)) ∧ (L.getD m false = true → Fin W (Y m)) ∧ ∀ i, i < m → late i = true → L.getD i false = true → ∀ W', Cl W' i (Y i)) ?_ ?_ (m + 1) _ a w.drew inv0 hun ?_
  · have e : l.length - (m + 1) + (m + 1) = l.toArray.size := by simp; omega
    rw [e] at H
    exact H
  · rintro L act W i inv hin hi ⟨Y, rfl, h1, h2, h3⟩
    obtain ⟨hnn, o, ho, hall⟩ := mem_ready.1 hi
    have ho' : l[i]? = some o := by simpa using ho
    have hui := getD_both hnn
    have hsz : L.size = l.length := by rw [inv.size]; simp
    by_cases him : i = m
    · subst him
      obtain ⟨hb, hc⟩ := h1 hui
      refine hwrite o Y W ho' hb (fun j hj hl => hc j hj ?_) _ (fun v W' hv => ⟨upd Y i v, rfl, fun hx => ?_, fun _ => by rw [upd_self]; exact hv, fun j hj hl hx W'' => ?_⟩)
      · have hcv := coverB_of (L := L.setIfInBounds i true) hcov (inv.set hi hin) (by simp [Array.getD, hsz]; omega) (i - j) j rfl hj hl
        exact ((ls_set' hcv).resolve_left (by omega))
      · simp [Array.getD, hsz] at hx
        omega
      · rw [upd_ne Y v (by omega)]
        exact h3 j hj hl ((ls_set' hx).resolve_left (by omega)) W''
    · have hilt : i < m := by omega
      cases hl : late i with
      | true =>
        refine hlate i o Y W hilt hl ho' _ (fun v hv => ⟨upd Y i v, rfl, fun hx => ?_, fun hx => ?_, fun j hj hlj hx W'' => ?_⟩)
        · rw [getD_set_ne false him] at hx
          obtain ⟨hb, hc⟩ := h1 hx
          refine ⟨hb, fun j hj hx' => ?_⟩
          by_cases hji : j = i
          · subst hji; rw [upd_self]; exact hv W
          · rw [upd_ne Y v hji]; exact hc j hj ((ls_set' hx').resolve_left hji)
        · rw [getD_set_ne false him] at hx
          rw [upd_ne Y v (by omega)]
          exact h2 hx
        · by_cases hji : j = i
          · subst hji; rw [upd_self]; exact hv W''
          · rw [upd_ne Y v hji]; exact h3 j hj hlj ((ls_set' hx).resolve_left hji) W''
      | false =>
        have hmf : L.getD m false = false := by
          cases hx : L.getD m false with
          | false => rfl
          | true =>
            have := coverB_of hcov inv hx (m - i) i rfl hilt hl
            rw [hui] at this
            cases this
        obtain ⟨hb, hc⟩ := h1 hmf
        refine hstep i o Y W hilt hl ho' hb (fun e he hbd => hc _ (by have := backB_of hback ho' he; omega) (hall e he hbd)) _ (fun v W' hb' hv => ⟨upd Y i v, rfl, fun _ => ⟨hb.trans (hb'.mono hb.size), fun j hj hx' => ?_⟩, fun hx => ?_, fun j hj hlj hx W'' => ?_⟩)
        · by_cases hji : j = i
          · subst hji; rw [upd_self]; exact hv
          · rw [upd_ne Y v hji]; exact hmono _ _ _ _ hb' (hc j hj ((ls_set' hx').resolve_left hji))
        · rw [getD_set_ne false him, hmf] at hx
          cases hx
        · by_cases hji : j = i
          · subst hji; rw [hl] at hlj; cases hlj
          · rw [upd_ne Y v hji]; exact h3 j hj hlj ((ls_set' hx).resolve_left hji) W''
  · rintro L act W hall ⟨Y, rfl, h1, h2, h3⟩
    exact hend Y W (h2 (hall m (by omega))) (fun i hi hl => h3 i hi hl (hall i (by omega)))
  · exact ⟨Y0, ha, fun _ => ⟨(Below.refl _ _).drew, fun j _ h => by rw [getD_replicate_false] at h; cases h⟩, fun h => (by rw [getD_replicate_false] at h; cases h), fun j _ _ h => by rw [getD_replicate_false] at h; cases h⟩
end Go.Proofs.Ytinmgbodgecoeaa
namespace Go.Proofs.Ytinmgbodgecoeaa
open Go.RowKit

structure XBox (w : World) (ia is ix sz : Nat) (ty : TypeId) (boxed : Value → Array Value) (Cl : World → Nat → Value → Prop) (Off : Nat → Value → Nat → Prop) (L : Array Bool) (Y : Nat → Value) (W : World) : Prop where
  below : Below w.heap.size w W
  cl : ∀ i, i ≠ ia → i ≠ is → L.getD i false = true → Cl W i (Y i) ∧ (L.getD ia false = true → ∀ p, Y ia = .pointer (some ⟨p, 0, none⟩) → Off i (Y i) p)
  box : L.getD ia false = true → ∃ p cs, Y ia = .pointer (some ⟨p, 0, none⟩) ∧ w.heap.size ≤ p ∧ Row W p cs ty ∧ cs.size = sz ∧ (L.getD is false = true → L.getD ix false = true ∧ cs = boxed (Y ix))
  dep : L.getD is false = true → L.getD ia false = true

theorem ls_un {L : Array Bool} {i : Nat} (hn : L.getD i true = false) (h : L.getD i false = true) : False := by
  rcases Nat.lt_or_ge i L.size with hj | hj
  · simp [Array.getD, hj] at h hn; rw [hn] at h; cases h
  · simp [Array.getD, Nat.not_lt.2 hj] at h
theorem ls_keep {L : Array Bool} {i j : Nat} (h : L.getD j false = true) : (L.setIfInBounds i true).getD j false = true := by
  by_cases hij : i = j
  · subst hij
    rcases Nat.lt_or_ge i L.size with hj | hj
    · simp [Array.getD, hj]
    · simp [Array.getD, Nat.not_lt.2 hj] at h
  · rw [getD_set_ne false hij]; exact h

/-- Nothing is ready: an operation whose binding forerunners are done is done. -/
theorem flag_of_any {md : Region.Mode} {ops : Array Oper} {L : Array Bool} {j : Nat} {o : Oper} (hj : j < L.size) (hr : Region.ready md ops L = []) (ho : ops[j]? = some o) (hd : ∀ e ∈ o.after, Region.binds md e = true → L.getD e.on false = true) : L.getD j false = true := by
  cases h : L.getD j true with
  | false =>
    have : j ∈ Region.ready md ops L := mem_ready.2 ⟨h, o, ho, hd⟩
    rw [hr] at this
    cases this
  | true => simp [Array.getD, hj] at h ⊢; exact h

theorem region_box {P : Program} {id : Nat} {Q : Exit → Act → World → Prop} {a : Act} {w : World} {l : List Oper} (hm : P.follows .mixedOrders = true) (ia is ix sz : Nat) (ty : TypeId) (boxed : Value → Array Value)
    (Cl : World → Nat → Value → Prop) (Off : Nat → Value → Nat → Prop) (mk : (Nat → Value) → Act) (Y0 : Nat → Value) (ha : a = mk Y0)
    (hback : l.zipIdx.all (fun x => x.1.after.all fun e => !Region.binds .any e || decide (e.on < x.2)) = true)
    (hia : ia < l.length) (his : is < l.length) (hne : ia ≠ is) (hxa : ix ≠ ia) (hxs : ix ≠ is)
    (hst : ∀ o, l[is]? = some o → (∃ e ∈ o.after, e.on = ia ∧ Region.binds .any e = true) ∧ (∃ e ∈ o.after, e.on = ix ∧ Region.binds .any e = true))
    (hmono : ∀ W W' i v, Below W.heap.size W W' → Cl W i v → Cl W' i v)
    (hstore : ∀ W W' i v p, w.heap.size ≤ p → Wr (fun k => k = p) W W' → Off i v p → Cl W i v → Cl W' i v)
    (hfresh : ∀ W i v, Below w.heap.size w W → Cl W i v → Off i v W.heap.size)
    (hstep : ∀ i o Y W, i ≠ ia → i ≠ is → l[i]? = some o → Below w.heap.size w W → (∀ e ∈ o.after, Region.binds .any e = true → e.on ≠ ia → e.on ≠ is → Cl W e.on (Y e.on)) →
      ∀ K : Act → World → Prop, (∀ v W', Below W.heap.size W W' → Cl W' i v → (∀ p, w.heap.size ≤ p → p < W.heap.size → (∀ e ∈ o.after, Region.binds .any e = true → e.on ≠ ia → e.on ≠ is → Off e.on (Y e.on) p) → Off i v p) → K (mk (upd Y i v)) W') → wpOp P l.toArray Q i K (mk Y) W)
    (halloc : ∀ o Y W, l[ia]? = some o → Below w.heap.size w W → ∀ K : Act → World → Prop, (∀ cs : Array Value, cs.size = sz → K (mk (upd Y ia (.pointer (some ⟨W.heap.size, 0, none⟩)))) (W.alloc (.cells cs ty))) → wpOp P l.toArray Q ia K (mk Y) W)
    (hwrite : ∀ o Y W p cs, l[is]? = some o → Y ia = .pointer (some ⟨p, 0, none⟩) → Row W p cs ty → cs.size = sz → Cl W ix (Y ix) → ∀ K : Act → World → Prop, (∀ W' v, Wr (fun k => k = p) W W' → Row W' p (boxed (Y ix)) ty → (boxed (Y ix)).size = sz → K (mk (upd Y is v)) W') → wpOp P l.toArray Q is K (mk Y) W)
    (hend : ∀ Y W p, Below w.heap.size w W → w.heap.size ≤ p → Y ia = .pointer (some ⟨p, 0, none⟩) → Row W p (boxed (Y ix)) ty → (∀ i, i < l.length → i ≠ ia → i ≠ is → Cl W i (Y i) ∧ Off i (Y i) p) → Q .normal (mk Y) W) : (Code.region id l.toArray true).wp P Q a w := by
  refine wp_region_inv hm (fun L act W => L.size = l.length ∧ ∃ Y, act = mk Y ∧ XBox w ia is ix sz ty boxed Cl Off L Y W) ?_ ?_ ?_
  · have hf : ∀ j, (Array.replicate l.toArray.size false).getD j false = true → False := fun j h => by
      rcases Nat.lt_or_ge j l.length with hj | hj
      · simp [Array.getD, hj] at h
      · simp [Array.getD, Nat.not_lt.2 hj] at h
    exact ⟨by simp, Y0, ha, (Below.refl _ _).drew, fun i _ _ h => (hf i h).elim, fun h => (hf _ h).elim, fun h => (hf _ h).elim⟩
  · rintro L act W i hi ⟨hsz, Y, rfl, hJ⟩
    obtain ⟨hn, o, ho, hall⟩ := mem_ready.1 hi
    have ho' : l[i]? = some o := by simpa using ho
    have hb := hJ.below
    by_cases h1 : i = ia
    · subst h1
      refine halloc o Y W ho' hb _ (fun cs hcs => ⟨by simp [hsz], _, rfl, hb.alloc hb.size _, fun j hj1 hj2 g => ?_, fun g => ?_, fun g => ?_⟩)
      · have g' := (ls_set' g).resolve_left hj1
        obtain ⟨c1, c2⟩ := hJ.cl j hj1 hj2 g'
        rw [upd_ne Y _ hj1]
        refine ⟨hmono _ _ _ _ ((Below.refl _ _).alloc (Nat.le_refl _) _) c1, fun _ p hp => ?_⟩
        rw [upd_self] at hp
        injection hp with hp
        injection hp with hp
        injection hp with hp
        rw [← hp]
        exact hfresh W j _ hb c1
      · refine ⟨W.heap.size, cs, upd_self _ _ _, hb.size, Row.new _ _ _, hcs, fun g2 => ?_⟩
        exact (ls_un hn (hJ.dep ((ls_set' g2).resolve_left (Ne.symm hne)))).elim
      · exact (ls_un hn (hJ.dep ((ls_set' g).resolve_left (Ne.symm hne)))).elim
    · by_cases h2 : i = is
      · subst h2
        obtain ⟨⟨e1, he1, hon1, hb1⟩, ⟨e2, he2, hon2, hb2⟩⟩ := hst o ho'
        have f1 := hall e1 he1 hb1
        have f2 := hall e2 he2 hb2
        rw [hon1] at f1
        rw [hon2] at f2
        obtain ⟨p, cs, hp, hpw, hrow, hcs, _⟩ := hJ.box f1
        refine hwrite o Y W p cs ho' hp hrow hcs (hJ.cl ix hxa hxs f2).1 _ (fun W' v hw' hr' hbs => ⟨by simp [hsz], _, rfl, hb.trans (hw'.below hb.size (fun k hk => by omega)), fun j hj1 hj2 g => ?_, fun g => ?_, fun g => ls_keep f1⟩)
        · have g' := (ls_set' g).resolve_left hj2
          obtain ⟨c1, c2⟩ := hJ.cl j hj1 hj2 g'
          rw [upd_ne Y _ hj2, upd_ne Y _ hne]
          exact ⟨hstore _ _ _ _ p hpw hw' (c2 f1 p hp) c1, fun _ => c2 f1⟩
        · rw [upd_ne Y _ hne, upd_ne Y _ hxs]
          exact ⟨p, _, hp, hpw, hr', hbs, fun _ => ⟨ls_keep f2, rfl⟩⟩
      · refine hstep i o Y W h1 h2 ho' hb (fun e he hbd n1 n2 => (hJ.cl e.on n1 n2 (hall e he hbd)).1) _ (fun v W' hb' hv hoff => ⟨by simp [hsz], _, rfl, hb.trans (hb'.mono hb.size), fun j hj1 hj2 g => ?_, fun g => ?_, fun g => ls_keep (hJ.dep ((ls_set' g).resolve_left (Ne.symm h2)))⟩)
        · by_cases hji : j = i
          · subst hji
            rw [upd_self, upd_ne Y _ (Ne.symm h1)]
            refine ⟨hv, fun g2 p hp => ?_⟩
            have g3 := (ls_set' g2).resolve_left (Ne.symm h1)
            obtain ⟨p', cs, hp', hpw, hrow, _⟩ := hJ.box g3
            have : p = p' := by rw [hp] at hp'; simpa using hp'
            subst this
            exact hoff p hpw hrow.lt (fun e he hbd n1 n2 => (hJ.cl e.on n1 n2 (hall e he hbd)).2 g3 p hp)
          · have g' := (ls_set' g).resolve_left hji
            obtain ⟨c1, c2⟩ := hJ.cl j hj1 hj2 g'
            rw [upd_ne Y _ hji, upd_ne Y _ (Ne.symm h1)]
            exact ⟨hmono _ _ _ _ hb' c1, fun g2 => c2 ((ls_set' g2).resolve_left (Ne.symm h1))⟩
        · obtain ⟨p, cs, hp, hpw, hrow, hcs, hw⟩ := hJ.box ((ls_set' g).resolve_left (Ne.symm h1))
          rw [upd_ne Y _ (Ne.symm h1)]
          refine ⟨p, cs, hp, hpw, hrow.below hb' hrow.lt, hcs, fun g2 => ?_⟩
          obtain ⟨x1, x2⟩ := hw ((ls_set' g2).resolve_left (Ne.symm h2))
          have hxi : ix ≠ i := fun e => ls_un hn (e ▸ x1)
          rw [upd_ne Y _ hxi]
          exact ⟨ls_keep x1, x2⟩
  · rintro L act W hr ⟨hsz, Y, rfl, hJ⟩
    have key : ∀ n i, i < n → i < l.length → L.getD i false = true := by
      intro n
      induction n with
      | zero => intro i h; omega
      | succ n ih =>
        intro i hin hil
        refine flag_of_any (j := i) (by omega) hr (show l.toArray[i]? = some l[i] by simp [hil]) (fun e he hbd => ?_)
        have hlt : e.on < i := by
          have hx := List.all_eq_true.1 hback (l[i], i) (List.mem_iff_getElem?.2 ⟨i, by simp [hil]⟩)
          have hy := (Array.all_eq_true_iff_forall_mem.1 hx) e he
          rw [hbd] at hy
          simpa using hy
        exact ih e.on (by omega) (by omega)
    have fl : ∀ i, i < l.length → L.getD i false = true := fun i hi => key (i + 1) i (by omega) hi
    obtain ⟨p, cs, hp, hpw, hrow, _, hw⟩ := hJ.box (fl ia hia)
    obtain ⟨_, rfl⟩ := hw (fl is his)
    exact hend Y W p hJ.below hpw hp hrow (fun i hi n1 n2 => ⟨(hJ.cl i n1 n2 (fl i hi)).1, (hJ.cl i n1 n2 (fl i hi)).2 (fl ia hia) p hp⟩)

/-! ### Runs: the answer of a run in a box -/
abbrev outA (o : OutS) (v : Value) : Value := .agg #[.int .i64 o.kind, .int .i64 o.code, v, .int .i64 o.steps, .int .i64 o.deep]
abbrev outT (o : OutS) (er : Int) (v : Value) : Value := .tuple #[outA o v, .int .i64 er]
def aggOf : Value → Array Value
  | .agg cs => cs
  | _ => #[]
/-- What is known of each operation's result: up to 'ic' the constants, then the call, a move, the two parts; a box; the write; the second part again. -/
structure RunCl (ty : TypeId) (base ic : Nat) (cst : Nat → Value) (o : OutS) (er : Int) (W : World) (i : Nat) (v : Value) : Prop where
  c : i < ic → v = cst i
  t : i = ic ∨ i = ic + 1 → ∃ u, v = outT o er u ∧ W.ownsRow base ty 1 u o.out.length (o.out.map (Value.int .i64))
  a : i = ic + 2 → ∃ u, v = outA o u ∧ W.ownsRow base ty 1 u o.out.length (o.out.map (Value.int .i64))
  e : i = ic + 3 ∨ i = ic + 6 → v = .int .i64 er
def RunOff (ic : Nat) (o : OutS) (er : Int) (i : Nat) (v : Value) (p : Nat) : Prop :=
  (i = ic ∨ i = ic + 1 → ∀ u, v = outT o er u → u.ownBlock ≠ some p) ∧ (i = ic + 2 → ∀ u, v = outA o u → u.ownBlock ≠ some p)
section
variable {ty : TypeId} {base ic : Nat} {cst : Nat → Value} {o : OutS} {er : Int} {W W' : World} {i : Nat} {v : Value}
theorem RunCl.wr {F : Nat → Prop} (h : RunCl ty base ic cst o er W i v) (hw : Wr F W W') (hF : ∀ g, F g → ∀ u, (i = ic ∨ i = ic + 1 → v = outT o er u → u.ownBlock ≠ some g) ∧ (i = ic + 2 → v = outA o u → u.ownBlock ≠ some g)) : RunCl ty base ic cst o er W' i v := by
  refine ⟨h.c, fun hi => ?_, fun hi => ?_, h.e⟩
  · obtain ⟨u, e, hu⟩ := h.t hi
    exact ⟨u, e, ownsRow_wr hu hw (fun g hg hf => (hF g hf u).1 hi e hg)⟩
  · obtain ⟨u, e, hu⟩ := h.a hi
    exact ⟨u, e, ownsRow_wr hu hw (fun g hg hf => (hF g hf u).2 hi e hg)⟩
theorem RunCl.below (h : RunCl ty base ic cst o er W i v) (hb : Below W.heap.size W W') : RunCl ty base ic cst o er W' i v := h.wr (F := fun _ => False) (Wr.of_below hb) (fun _ h => h.elim)
theorem outT_inj {u u' : Value} (h : outT o er u = outT o er u') : u = u' := by simpa [outT, outA] using h
theorem outA_inj {u u' : Value} (h : outA o u = outA o u') : u = u' := by simpa [outA] using h
theorem RunCl.fresh (h : RunCl ty base ic cst o er W i v) : RunOff ic o er i v W.heap.size := by
  refine ⟨fun hi u hu hb => ?_, fun hi u hu hb => ?_⟩
  · obtain ⟨u', e, ho⟩ := h.t hi
    obtain rfl := outT_inj (hu.symm.trans e)
    have := (ho.lt _ hb).2
    omega
  · obtain ⟨u', e, ho⟩ := h.a hi
    obtain rfl := outA_inj (hu.symm.trans e)
    have := (ho.lt _ hb).2
    omega
theorem RunCl.const (h : i < ic) : RunCl ty base ic cst o er W i (cst i) := ⟨fun _ => rfl, fun h' => by omega, fun h' => by omega, fun h' => by omega⟩
theorem RunOff.const (h : i < ic) (p : Nat) : RunOff ic o er i v p := ⟨fun h' => by omega, fun h' => by omega⟩
theorem RunCl.err (h : i = ic + 3 ∨ i = ic + 6) : RunCl ty base ic cst o er W i (.int .i64 er) := ⟨fun h' => by omega, fun h' => by omega, fun h' => by omega, fun _ => rfl⟩
theorem RunOff.err (h : i = ic + 3 ∨ i = ic + 6) (p : Nat) : RunOff ic o er i v p := ⟨fun h' => by omega, fun h' => by omega⟩
theorem RunCl.call {u : Value} (h : i = ic ∨ i = ic + 1) (hu : W.ownsRow base ty 1 u o.out.length (o.out.map (Value.int .i64))) : RunCl ty base ic cst o er W i (outT o er u) := ⟨fun h' => by omega, fun _ => ⟨u, rfl, hu⟩, fun h' => by omega, fun h' => by omega⟩
theorem RunOff.call {u : Value} (h : i = ic ∨ i = ic + 1) {p : Nat} (hp : u.ownBlock ≠ some p) : RunOff ic o er i (outT o er u) p := ⟨fun _ u' e => by rw [← outT_inj e]; exact hp, fun h' => by omega⟩
theorem RunCl.part {u : Value} (h : i = ic + 2) (hu : W.ownsRow base ty 1 u o.out.length (o.out.map (Value.int .i64))) : RunCl ty base ic cst o er W i (outA o u) := ⟨fun h' => by omega, fun h' => by omega, fun _ => ⟨u, rfl, hu⟩, fun h' => by omega⟩
theorem RunOff.part {u : Value} (h : i = ic + 2) {p : Nat} (hp : u.ownBlock ≠ some p) : RunOff ic o er i (outA o u) p := ⟨fun h' => by omega, fun _ u' e => by rw [← outA_inj e]; exact hp⟩
end
def regsOf : Code → List Code
  | .region i l b => [.region i l b]
  | .loop c => regsOf c
  | .seq a b => regsOf a ++ regsOf b
  | .block _ c => regsOf c
  | .scope c => regsOf c
  | .cond _ a b => regsOf a ++ regsOf b
  | _ => []
theorem size5 {cs : Array Value} (h : cs.size = 5) : ∃ a b c d e, cs = #[a, b, c, d, e] := by
  obtain ⟨l⟩ := cs
  match l, h with
  | [a, b, c, d, e], _ => exact ⟨a, b, c, d, e, rfl⟩
end Go.Proofs.Ytinmgbodgecoeaa
namespace Go.Proofs.Ytinmgbodgecoeaa
open Go.RowKit

/-- The k-th object of the row (the page's object k + 1). -/
def ObjRG (w : World) (B mb mo k : Nat) (o : MO) : Prop :=
  ∃ A len cap, w.cell? ⟨mb, mo + k * 3, none⟩ = some (.int .i64 o.size) ∧ w.cell? ⟨mb, mo + k * 3 + 1, none⟩ = some (.slice A len cap) ∧ w.cell? ⟨mb, mo + k * 3 + 2, none⟩ = some (.bool (!o.live)) ∧
    (o.live = true → o.l.length = len ∧ RowV w B A o.l) ∧ len ≤ 64 ∧ 0 ≤ o.size ∧ o.size ≤ 8
/-- The graph's objects, read: the page's memory without its object 0. -/
def MemRG (w : World) (B : Nat) (A : Option Addr) (n : Nat) (M : List MO) : Prop :=
  M.length ≤ n + 1 ∧ n ≤ 4294967296 ∧ ∀ k o, M[k + 1]? = some o → ∃ mb mo, A = some ⟨mb, mo, none⟩ ∧ mb < B ∧ k < n ∧ ObjRG w B mb mo k o
theorem MemRG.get {w : World} {B n : Nat} {A : Option Addr} {M : List MO} (h : MemRG w B A n M) {k : Nat} (hk : k + 1 < M.length) :
    ∃ mb mo, A = some ⟨mb, mo, none⟩ ∧ mb < B ∧ k < n ∧ ObjRG w B mb mo k (mget M (k + 1)) :=
  h.2.2 k _ (mget_of hk)
theorem ObjRG.below {w w' : World} {B B' mb mo k : Nat} {o : MO} (h : ObjRG w B mb mo k o) (hb : Below B w w') (hB : B ≤ B') (hm : mb < B) : ObjRG w' B' mb mo k o := by
  obtain ⟨A, len, cap, c0, c1, c2, h1, h2⟩ := h
  exact ⟨A, len, cap, (hb.cell (p := ⟨mb, mo + k * 3, none⟩) hm).trans c0, (hb.cell (p := ⟨mb, mo + k * 3 + 1, none⟩) hm).trans c1, (hb.cell (p := ⟨mb, mo + k * 3 + 2, none⟩) hm).trans c2, fun hl => ⟨(h1 hl).1, (h1 hl).2.below hb hB⟩, h2⟩
theorem MemRG.below {w w' : World} {B B' n : Nat} {A : Option Addr} {M : List MO} (h : MemRG w B A n M) (hb : Below B w w') (hB : B ≤ B') : MemRG w' B' A n M := by
  refine ⟨h.1, h.2.1, fun k o hk => ?_⟩
  obtain ⟨mb, mo, hA, hlt, hkn, ho⟩ := h.2.2 k o hk
  exact ⟨mb, mo, hA, by omega, hkn, ho.below hb hB hlt⟩
end Go.Proofs.Ytinmgbodgecoeaa
