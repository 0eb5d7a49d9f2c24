/- A label's place in the page's table (plain). No program in sight. No condition. The page's Live: one place reckoned (plain); its rows in memory. Conditions: as stated. May a function alone be? The page's way, and that it is virt's (plain). No program in sight. No condition. -/
import Derived.Test.YtlenilbkifofjaaDoorRLabZz
import Derived.Test.YtlenilbkifofjaaDoorRCodePZz
import Derived.Test.YtlenilbkifofjaaDoorLvOZz
import Derived.Test.YtlenilbkifofjaaDoorLvIZz
import Derived.Test.YtlenilbkifofjaaDoorLvQZz
set_option linter.unusedVariables false
set_option linter.unusedSimpArgs false
namespace Go.Proofs.YtlenilbkifofjaaDoor
open Go.RowKit

theorem labK_N {l : List InsS} (h : layB [] l = true) : ∀ (k : Nat), k ≤ l.length → ∀ j : Nat, labI (l.take k) j = true → labK l k j = (labN l j : Nat)
  | 0, _, j, hj => by simp [labI] at hj
  | k + 1, hk, j, hj => by
    have hkl : k < l.length := by omega
    have hx : l[k]? = some (l[k]'hkl) := List.getElem?_eq_getElem hkl
    obtain ⟨x, hxe⟩ : ∃ x, x = l[k]'hkl := ⟨_, rfl⟩
    rw [← hxe] at hx
    clear hxe
    have htk := take_succ_of hx
    rw [labK_next hx j]
    by_cases hc : x.op = 14 ∧ x.n = (j : Int)
    · rw [if_pos hc]
      have hlo := (layB_iff l []).1 h k x hx
      rw [List.nil_append] at hlo
      unfold labOkR at hlo
      have hno : labI (l.take k) x.n = false := by
        rw [decide_eq_false (by simp [hc.1]), Bool.false_or] at hlo
        simp only [Bool.and_eq_true, Bool.not_eq_true'] at hlo
        exact hlo.1
      have e1 : labN (l.take (k + 1)) j = k := by
        rw [htk, labN_new (by rw [← hc.2]; exact hno) hc, List.length_take]
        omega
      have e2 : labN l j = labN (l.take (k + 1)) j := by
        have := labN_old (l := l.take (k + 1)) (r := l.drop (k + 1)) hj
        rw [List.take_append_drop] at this
        exact this
      rw [e2, e1]
    · rw [if_neg hc]
      rw [htk, labI_snoc, decide_eq_false hc, Bool.or_false] at hj
      exact labK_N h k (by omega) j hj
end Go.Proofs.YtlenilbkifofjaaDoor
namespace Go.Proofs.YtlenilbkifofjaaDoor
open Go.RowKit

def innerF (d : Int) (x : List Int) (r : Int) : List Int := if r = d then x else putL x r
def innerL (d : Int) (x row : List Int) : List Int := row.foldl (innerF d) x
def outerL (rows : List (List Int)) (d : Int) (x : List Int) (ns : List Nat) : List Int := ns.foldl (fun x n => innerL d x (rows.getD n [])) x
def newL (l : List InsS) (rows : List (List Int)) (k : Nat) (x : InsS) : List Int := outerL rows (defL x) (usesL x) (nextL l k)
theorem innerL_snoc {d : Int} {x row : List Int} {r : Int} : innerL d x (row ++ [r]) = innerF d (innerL d x row) r := by simp [innerL]
theorem outerL_snoc {rows : List (List Int)} {d : Int} {x : List Int} {ns : List Nat} {n : Nat} : outerL rows d x (ns ++ [n]) = innerL d (outerL rows d x ns) (rows.getD n []) := by simp [outerL]
theorem innerL_mem {d : Int} : ∀ {row x : List Int} {y : Int}, y ∈ innerL d x row ↔ y ∈ x ∨ (y ∈ row ∧ y ≠ d)
  | [], x, y => by simp [innerL]
  | r :: row, x, y => by
    rw [show innerL d x (r :: row) = innerL d (innerF d x r) row from rfl, innerL_mem]
    unfold innerF
    by_cases h : r = d
    · subst h
      rw [if_pos rfl, List.mem_cons]
      constructor
      · rintro (h | ⟨h1, h2⟩)
        · exact Or.inl h
        · exact Or.inr ⟨Or.inr h1, h2⟩
      · rintro (h | ⟨rfl | h1, h2⟩)
        · exact Or.inl h
        · exact absurd rfl h2
        · exact Or.inr ⟨h1, h2⟩
    · rw [if_neg h, putL_mem, List.mem_cons]
      constructor
      · rintro ((rfl | h1) | ⟨h1, h2⟩)
        · exact Or.inr ⟨Or.inl rfl, h⟩
        · exact Or.inl h1
        · exact Or.inr ⟨Or.inr h1, h2⟩
      · rintro (h1 | ⟨rfl | h1, h2⟩)
        · exact Or.inl (Or.inr h1)
        · exact Or.inl (Or.inl rfl)
        · exact Or.inr ⟨h1, h2⟩
theorem innerL_rise {d : Int} : ∀ {row x : List Int}, Rise x → Rise (innerL d x row)
  | [], x, h => h
  | r :: row, x, h => by
    rw [show innerL d x (r :: row) = innerL d (innerF d x r) row from rfl]
    refine innerL_rise ?_
    unfold innerF
    split
    · exact h
    · exact putL_rise h
theorem outerL_mem {rows : List (List Int)} {d : Int} : ∀ {ns : List Nat} {x : List Int} {y : Int}, y ∈ outerL rows d x ns ↔ y ∈ x ∨ ∃ n, n ∈ ns ∧ y ∈ rows.getD n [] ∧ y ≠ d
  | [], x, y => by simp [outerL]
  | n :: ns, x, y => by
    rw [show outerL rows d x (n :: ns) = outerL rows d (innerL d x (rows.getD n [])) ns from rfl, outerL_mem, innerL_mem]
    simp only [List.mem_cons]
    constructor
    · rintro ((h | h) | ⟨m, h1, h2⟩)
      · exact Or.inl h
      · exact Or.inr ⟨n, Or.inl rfl, h⟩
      · exact Or.inr ⟨m, Or.inr h1, h2⟩
    · rintro (h | ⟨m, rfl | h1, h2⟩)
      · exact Or.inl (Or.inl h)
      · exact Or.inl (Or.inr h2)
      · exact Or.inr ⟨m, h1, h2⟩
theorem outerL_rise {rows : List (List Int)} {d : Int} : ∀ {ns : List Nat} {x : List Int}, Rise x → Rise (outerL rows d x ns)
  | [], x, h => h
  | n :: ns, x, h => outerL_rise (ns := ns) (innerL_rise h)
def Within (R : Nat) (l : List Int) : Prop := ∀ y, y ∈ l → 0 ≤ y ∧ y < (R : Int)
section
variable {l : List InsS} {rows : List (List Int)} {k R : Nat} {x : InsS} {d : Int} {u row : List Int} {ns : List Nat}
theorem innerL_in (h : Within R u) (hr : Within R row) : Within R (innerL d u row) := fun y hy => (innerL_mem.1 hy).elim (h y) (fun h => hr y h.1)
theorem getD_in (hb : ∀ row, row ∈ rows → Within R row) {n : Nat} : Within R (rows.getD n []) := by
  intro y hy
  by_cases hn : n < rows.length
  · rw [List.getD_eq_getElem?_getD, List.getElem?_eq_getElem hn, Option.getD_some] at hy
    exact hb _ (List.getElem_mem hn) y hy
  · rw [List.getD_eq_getElem?_getD, List.getElem?_eq_none (by omega)] at hy
    simp at hy
theorem outerL_in (h : Within R u) (hb : ∀ row, row ∈ rows → Within R row) : Within R (outerL rows d u ns) := fun y hy => (outerL_mem.1 hy).elim (h y) (fun ⟨_, _, h, _⟩ => getD_in hb y h)
theorem usesL_in (h : RegsIn R x) : Within R (usesL x) := fun y hy => h.1 y (usesL_mem.1 hy)
theorem memR_get {r : Int} : memR rows k r ↔ r ∈ rows.getD k [] := by
  unfold memR
  rw [List.getD_eq_getElem?_getD]
  cases rows[k]? with
  | none => simp
  | some row => simp
theorem newL_mem (hx : l[k]? = some x) {r : Int} : r ∈ newL l rows k x ↔ LiveF l (memR rows) k r := by
  unfold newL
  rw [outerL_mem, usesL_mem]
  constructor
  · rintro (h | ⟨n, h1, h2, h3⟩)
    · exact ⟨x, hx, Or.inl h⟩
    · exact ⟨x, hx, Or.inr ⟨h3, n, h1, memR_get.2 h2⟩⟩
  · rintro ⟨y, hy, h⟩
    rw [hx] at hy
    injection hy with hy
    subst hy
    rcases h with h | ⟨h1, n, h2, h3⟩
    · exact Or.inl h
    · exact Or.inr ⟨n, h2, memR_get.1 h3, h1⟩
end
/-- Rows of numbers that nothing writes, in a row. -/
def RowsAt (w : World) (rb : Nat) (rows : List (List Int)) : Prop := ∃ cs, Row w rb cs 35 ∧ cs.size = rows.length ∧ ∀ k, k < rows.length → ∃ v, cs[k]? = some v ∧ IntsV w (rows.getD k []) v
theorem RowsAt.lt {w : World} {rb : Nat} {rows : List (List Int)} (h : RowsAt w rb rows) : rb < w.heap.size := by
  obtain ⟨cs, h1, _⟩ := h
  exact h1.lt
theorem RowsAt.below {w w' : World} {rb : Nat} {rows : List (List Int)} (h : RowsAt w rb rows) (hb : Below w.heap.size w w') : RowsAt w' rb rows := by
  obtain ⟨cs, h1, h2, h3⟩ := h
  refine ⟨cs, h1.below hb h1.lt, h2, fun k hk => ?_⟩
  obtain ⟨v, h4, h5⟩ := h3 k hk
  exact ⟨v, h4, h5.below hb⟩
theorem RowsAt.get {w : World} {rb : Nat} {rows : List (List Int)} (h : RowsAt w rb rows) {k : Nat} (hk : k < rows.length) : ∃ A c, w.cell? ⟨rb, k, none⟩ = some (.slice A (rows.getD k []).length c) ∧ IntsV w (rows.getD k []) (.slice A (rows.getD k []).length c) := by
  obtain ⟨cs, h1, h2, h3⟩ := h
  obtain ⟨v, h4, h5⟩ := h3 k hk
  obtain ⟨A, c, rfl, h6⟩ := id h5
  exact ⟨A, c, h1.cell h4, h5⟩
/-- Numbers do not lie among rows of slices. -/
theorem ints_other {W W' : World} {rb : Nat} {rows : List (List Int)} {l : List Int} {v : Value} (h : IntsV W l v) (hs : RowsAt W rb rows) (hw : Wr (fun k => k = rb) W W') : IntsV W' l v := by
  obtain ⟨A, c, rfl, ⟨A', cap, h0, h1, h2⟩, h3⟩ := h
  refine ⟨A, c, rfl, ⟨A', cap, h0, h1, fun hp => ?_⟩, h3⟩
  obtain ⟨b, off, hA, hlt, hx⟩ := h2 hp
  have hne : b ≠ rb := by
    rintro rfl
    obtain ⟨cs, h3, h4, h5⟩ := hs
    obtain ⟨c0, _⟩ := hx 0 l[0] (List.getElem?_eq_getElem hp)
    simp only [Nat.zero_mul, Nat.add_zero] at c0
    by_cases ho : off < rows.length
    · obtain ⟨v, h6, A2, c2, rfl, _⟩ := h5 off ho
      have := h3.cell h6
      rw [c0] at this
      cases this
    · have := cell_of_row W b off cs 35 (0, 0) h3
      rw [c0, Array.getElem?_eq_none (by omega)] at this
      cases this
  refine ⟨b, off, hA, by have := hw.size; omega, fun i x hi => ?_⟩
  have e : ∀ j, W'.cell? ⟨b, off + i * 1 + j, none⟩ = W.cell? ⟨b, off + i * 1 + j, none⟩ := fun j => cell_of_heap (a := ⟨b, off + i * 1 + j, none⟩) (hw.block b (by omega) (fun hh => hne hh))
  exact ⟨(e 0).trans (hx i x hi).1, (hx i x hi).2⟩
theorem RowsAt.wrRow {w : World} {rb : Nat} {rows : List (List Int)} {k : Nat} {x : List Int} {v : Value} (h : RowsAt w rb rows) (hk : k < rows.length) (hv : IntsV w x v) : RowsAt (w.setCell ⟨rb, k, none⟩ v) rb (rows.set k x) := by
  have hw := Wr.cell1 w rb k v
  have H := h
  obtain ⟨cs, h1, h2, h3⟩ := h
  refine ⟨_, h1.set k _, by simp [h2], fun j hj => ?_⟩
  rw [List.length_set] at hj
  by_cases e : k = j
  · subst e
    refine ⟨v, by rw [Array.getElem?_setIfInBounds_self_of_lt (by omega)], ?_⟩
    rw [List.getD_eq_getElem?_getD, List.getElem?_set_self hk]
    exact ints_other hv H hw
  · obtain ⟨g, h4, h5⟩ := h3 j hj
    refine ⟨g, by rw [Array.getElem?_setIfInBounds_ne e]; exact h4, ?_⟩
    rw [List.getD_eq_getElem?_getD, List.getElem?_set_ne e, ← List.getD_eq_getElem?_getD]
    exact ints_other h5 H hw
theorem RowsAt.slice {w : World} {rb : Nat} {rows : List (List Int)} (h : RowsAt w rb rows) (hl : rows.length ≤ 9223372036854775807) : SliceAt w w.heap.size 1 (RowsE w w.heap.size) rows (.slice (some ⟨rb, 0, none⟩) rows.length rows.length) := by
  refine ⟨_, _, rfl, hl, fun _ => ⟨rb, 0, rfl, h.lt, fun i x hi => ?_⟩⟩
  obtain ⟨hil, hix⟩ := List.getElem?_eq_some_iff.1 hi
  obtain ⟨A, c, h1, A', c', h2, h3, _⟩ := h.get hil
  rw [List.getD_eq_getElem?_getD, hi, Option.getD_some] at h1 h3
  exact ⟨_, by simpa using h1, h3⟩
/-- The page's search under way. -/
structure SeekR (w0 w : World) (cb tb rb R : Nat) (c : CodeS) (LA : Option Addr) (lc : Nat) (BA : Option Addr) (bc : Nat) (rows : List (List Int)) : Prop where
  box : Row w cb #[.int .i64 c.params, .int .i64 c.regs, .slice LA c.locs.length lc, .slice BA c.ins.length bc] 33
  tab : IntsAt w tb 8000 (labK c.ins c.ins.length)
  lists : RowsAt w rb rows
  below : Below w0.heap.size w0 w
  fresh : w0.heap.size ≤ rb
  len : rows.length = c.ins.length + 1
  plain : Flow c.ins R rows
section
variable {w0 w w' : World} {cb tb rb R lc bc : Nat} {c : CodeS} {LA BA : Option Addr} {rows : List (List Int)}
theorem SeekR.next (h : SeekR w0 w cb tb rb R c LA lc BA bc rows) (hb : Below w.heap.size w w') : SeekR w0 w' cb tb rb R c LA lc BA bc rows :=
  ⟨h.box.below hb h.box.lt, h.tab.wr (F := fun _ => False) (Wr.of_below hb) (fun h => h), h.lists.below hb, h.below.trans (hb.mono h.below.size), h.fresh, h.len, h.plain⟩
theorem SeekR.set {k : Nat} {x : InsS} {v : Value} (h : SeekR w0 w cb tb rb R c LA lc BA bc rows) (hx : c.ins[k]? = some x) (hR : RegsIn R x) (hv : IntsV w (newL c.ins rows k x) v) :
    SeekR w0 (w.setCell ⟨rb, k, none⟩ v) cb tb rb R c LA lc BA bc (rows.set k (newL c.ins rows k x)) := by
  have hk := (List.getElem?_eq_some_iff.1 hx).1
  have hw := Wr.cell1 w rb k v
  obtain ⟨cs, hr, _⟩ := id h.lists
  obtain ⟨ct, ht, _⟩ := id h.tab
  refine ⟨h.box.wr hw (fun e => h.box.ne hr (by decide) e), h.tab.wr hw (fun e => ht.ne hr (by decide) e), h.lists.wrRow (by rw [h.len]; omega) hv, h.below.trans (hw.below h.below.size (fun i hi => by have : i = rb := hi; have := h.fresh; omega)), h.fresh, by rw [List.length_set]; exact h.len, ?_⟩
  exact h.plain.set hk (outerL_rise usesL_rise) (outerL_in (usesL_in hR) h.plain.bound) (fun r => newL_mem hx)
end
/-- The rows as memory holds them: their lengths. -/
def lensW (w : World) (rb n : Nat) : List Nat := (List.range n).map fun k => match w.cell? ⟨rb, k, none⟩ with | some (.slice _ n _) => n | _ => 0
def roomN (R : Nat) (l : List Nat) : Nat := (l.map fun n => R - n).sum
theorem SeekR.room {w0 w : World} {cb tb rb R lc bc : Nat} {c : CodeS} {LA BA : Option Addr} {rows : List (List Int)} (h : SeekR w0 w cb tb rb R c LA lc BA bc rows) : roomN R (lensW w rb (c.ins.length + 1)) = roomL R rows := by
  have e : lensW w rb (c.ins.length + 1) = rows.map List.length := by
    refine List.ext_getElem (by simp [lensW]; exact h.len.symm) fun k h1 h2 => ?_
    have hk : k < rows.length := by simpa using h2
    obtain ⟨A, cc, g0, _⟩ := h.lists.get hk
    rw [List.getD_eq_getElem?_getD, List.getElem?_eq_getElem hk, Option.getD_some] at g0
    simp [lensW, g0]
  rw [e, roomN, roomL, List.map_map]
  rfl
def StillR (l : List InsS) (rows : List (List Int)) (k : Nat) : Prop := ∀ j, k ≤ j → j < l.length → ∀ r, LiveF l (memR rows) j r → memR rows j r
theorem make_lists (n : Nat) (h : n ≤ 8001) : ∃ Z : Array Value, Z.size = n ∧ (∀ j, j < n → Z[j]? = some (.slice none 0 0)) ∧ ∀ W : World, (Instr.makeSlice 42 (.int .i64 (n : Nat)) (.int .i64 (n : Nat))).run Tryd.prog W = .ok (.slice (some ⟨W.heap.size, 0, none⟩) n n) (W.alloc (.cells Z 35)) := by
  obtain ⟨i0, hi, hz0, hz1, hz2⟩ := info_parts lists_info
  refine ⟨madeCells (Value.slice none 0 0).cells n, by rw [size_madeCells], fun j hj => made_one _ _ (by kernel_rfl) hj, fun W => ?_⟩
  have := run_make (P := Tryd.prog) W 42 35 i0 _ Tryd.underlying42 hi hz0 .i64 .i64 n n (by omega) (by omega) (by rw [hz2]; omega) (by omega)
  rw [hz1] at this
  simpa using this
end Go.Proofs.YtlenilbkifofjaaDoor
namespace Go.Proofs.YtlenilbkifofjaaDoor
open Go.RowKit

/-- The page's way. -/
def callOk (x : InsS) : Bool := !decide (x.op = 10) || (decide (0 ≤ min x.n 100 ∧ min x.n 100 ≤ 7) && decide (x.arg.length ≤ 4))
def argsS : List Int → List InsS → Bool × List Int
  | A, [] => (true, A)
  | A, x :: l => if x.op = 10 then (if 0 ≤ A.getD x.n.toNat 0 ∧ A.getD x.n.toNat 0 ≠ x.arg.length then (false, A) else argsS (A.set x.n.toNat x.arg.length) l) else argsS A l
def may16B (c : CodeS) : Bool := if c.ins.all callOk = true then (if (argsS (List.replicate 8 (-1)) c.ins).1 = true then codeR c 16 (argsS (List.replicate 8 (-1)) c.ins).2 else false) else false
def RelK (A : List Int) (s : Int → Option Nat) : Prop := A.length = 8 ∧ ∀ n : Nat, n < 8 → A.getD n 0 = match s (n : Int) with | none => -1 | some k => (k : Int)
theorem RelK.start : RelK (List.replicate 8 (-1)) noneK := by
  refine ⟨by simp, fun n hn => ?_⟩
  rw [List.getD_eq_getElem?_getD, List.getElem?_replicate, if_pos hn]
  rfl
theorem callOk_of {x : InsS} (h : callOk x = true) (h10 : x.op = 10) : (0 ≤ x.n ∧ x.n < 8) ∧ x.arg.length ≤ 4 := by
  unfold callOk at h
  rw [decide_eq_true h10] at h
  simp only [Bool.not_true, Bool.false_or, Bool.and_eq_true, decide_eq_true_eq] at h
  omega
theorem getD_set {A : List Int} {n m : Nat} {v : Int} (hn : n < A.length) : (A.set n v).getD m 0 = if n = m then v else A.getD m 0 := by
  rw [List.getD_eq_getElem?_getD, List.getElem?_set, List.getD_eq_getElem?_getD]
  by_cases h : n = m
  · subst h
    simp [hn]
  · simp [h]
theorem calls_args : ∀ (l : List InsS) (A : List Int) (s : Int → Option Nat), RelK A s → l.all callOk = true →
    callsL s l = (argsS A l).1 ∧ (argsS A l).2.length = 8 ∧ ((argsS A l).1 = true → (∀ n : Nat, n < 8 → 0 ≤ A.getD n 0 → (argsS A l).2.getD n 0 = A.getD n 0) ∧ ∀ x, x ∈ l → x.op = 10 → (argsS A l).2.getD x.n.toNat 0 = x.arg.length)
  | [], A, s, hr, _ => ⟨rfl, hr.1, fun _ => ⟨fun _ _ _ => rfl, fun x hx => by simp at hx⟩⟩
  | x :: l, A, s, hr, ha => by
    rw [List.all_cons, Bool.and_eq_true] at ha
    rw [callsL, argsS]
    by_cases h10 : x.op = 10
    · rw [if_pos h10, if_pos h10]
      obtain ⟨⟨h0, h8⟩, h4⟩ := callOk_of ha.1 h10
      obtain ⟨m, hm⟩ : ∃ m : Nat, x.n = (m : Int) := ⟨x.n.toNat, by omega⟩
      have hm8 : m < 8 := by omega
      have hA := hr.2 m hm8
      rw [hm, Int.toNat_natCast]
      have hd4 : decide (x.arg.length ≤ 4) = true := decide_eq_true h4
      have hlen : m < A.length := by rw [hr.1]; exact hm8
      -- the state behind, where it goes on
      have go : ∀ s' : Int → Option Nat, (∀ j : Int, j ≠ (m : Int) → s' j = s j) → s' (m : Int) = some x.arg.length → RelK (A.set m x.arg.length) s' := fun s' ho hs => ⟨by simp [hr.1], fun n hn => by
        rw [getD_set hlen]
        by_cases e : m = n
        · subst e
          rw [if_pos rfl, hs]
        · rw [if_neg e, ho _ (by omega)]
          exact hr.2 n hn⟩
      have fin : ∀ s' : Int → Option Nat, RelK (A.set m x.arg.length) s' → (A.getD m 0 < 0 ∨ A.getD m 0 = x.arg.length) →
          (callsL s' l = (argsS (A.set m x.arg.length) l).1 ∧ (argsS (A.set m x.arg.length) l).2.length = 8 ∧ ((argsS (A.set m x.arg.length) l).1 = true → (∀ n : Nat, n < 8 → 0 ≤ A.getD n 0 → (argsS (A.set m x.arg.length) l).2.getD n 0 = A.getD n 0) ∧ ∀ y, y ∈ x :: l → y.op = 10 → (argsS (A.set m x.arg.length) l).2.getD y.n.toNat 0 = y.arg.length)) := fun s' hrel hold => by
        obtain ⟨i1, i2, i3⟩ := calls_args l _ s' hrel ha.2
        refine ⟨i1, i2, fun ht => ?_⟩
        obtain ⟨k1, k2⟩ := i3 ht
        have hset : ∀ n : Nat, (A.set m (x.arg.length : Int)).getD n 0 = if m = n then (x.arg.length : Int) else A.getD n 0 := fun n => getD_set hlen
        refine ⟨fun n hn hp => ?_, fun y hy hy10 => ?_⟩
        · rw [k1 n hn (by rw [hset]; split <;> omega), hset]
          split
          · rename_i e
            subst e
            omega
          · rfl
        · rcases List.mem_cons.1 hy with rfl | hy
          · rw [hm, Int.toNat_natCast, k1 m hm8 (by rw [hset, if_pos rfl]; omega), hset, if_pos rfl]
          · exact k2 y hy hy10
      unfold parK
      cases hs : s (m : Int) with
      | none =>
        rw [hs] at hA
        simp only at hA
        rw [if_pos rfl, if_neg (by omega), hd4, Bool.true_and]
        exact fin _ (go _ (fun j hj => if_neg hj) (if_pos rfl)) (Or.inl (by omega))
      | some k =>
        rw [hs] at hA
        simp only at hA
        rw [if_neg (by simp), hd4, Bool.and_true]
        by_cases e : k = x.arg.length
        · subst e
          rw [decide_eq_true rfl, Bool.true_and, if_neg (by omega)]
          exact fin _ (go _ (fun _ _ => rfl) hs) (Or.inr hA)
        · rw [decide_eq_false (by simpa using e), Bool.false_and, if_pos (by omega)]
          exact ⟨rfl, hr.1, fun h => by cases h⟩
    · rw [if_neg h10, if_neg h10]
      obtain ⟨i1, i2, i3⟩ := calls_args l A s hr ha.2
      refine ⟨i1, i2, fun ht => ?_⟩
      obtain ⟨k1, k2⟩ := i3 ht
      exact ⟨k1, fun y hy hy10 => by
        rcases List.mem_cons.1 hy with rfl | hy
        · exact absurd hy10 h10
        · exact k2 y hy hy10⟩
theorem callsL_four : ∀ (l : List InsS) (s : Int → Option Nat), callsL s l = true → ∀ x, x ∈ l → x.op = 10 → x.arg.length ≤ 4
  | [], _, _, x, hx, _ => by simp at hx
  | y :: l, s, h, x, hx, h10 => by
    rw [callsL] at h
    by_cases hy : y.op = 10
    · rw [if_pos hy, Bool.and_eq_true] at h
      rcases List.mem_cons.1 hx with rfl | hx
      · have := h.1
        unfold parK at this
        split at this
        · simpa using this
        · simp only [Bool.and_eq_true, decide_eq_true_eq] at this
          exact this.2
      · exact callsL_four l _ h.2 x hx h10
    · rw [if_neg hy] at h
      rcases List.mem_cons.1 hx with rfl | hx
      · exact absurd h10 hy
      · exact callsL_four l _ h x hx h10
theorem may16_eq (c : CodeS) : may16B c = aloneB c := by
  unfold may16B aloneB
  rw [Bool.eq_iff_iff, codeF_alone]
  cases hall : c.ins.all callOk with
  | false =>
    rw [if_neg (by decide)]
    refine ⟨fun h => (by cases h), fun ⟨_, ⟨h1, h2⟩, _⟩ => ?_⟩
    have : c.ins.all callOk = true := by
      rw [List.all_eq_true] at h1 ⊢
      intro x hx
      unfold callOk
      by_cases h10 : x.op = 10
      · have a1 := insB_call (h1 x hx) h10
        have a2 := callsL_four _ _ h2 x hx h10
        rw [decide_eq_true h10, decide_eq_true a2, decide_eq_true (by omega)]
        rfl
      · rw [decide_eq_false h10]
        rfl
    rw [hall] at this
    cases this
  | true =>
    rw [if_pos rfl]
    obtain ⟨i1, i2, i3⟩ := calls_args c.ins _ _ RelK.start hall
    rw [i1]
    cases hA : (argsS (List.replicate 8 (-1)) c.ins).1 with
    | false => simp
    | true =>
      rw [if_pos rfl]
      obtain ⟨_, k2⟩ := i3 hA
      rw [codeR_eq c 16 8 (fun n k => decide ((argsS (List.replicate 8 (-1)) c.ins).2.getD n.toNat 0 = k)) _ (by rw [i2]; rfl) (fun _ _ _ _ => rfl)]
      have hins : c.ins.all (insB c 16 8 (fun n k => decide ((argsS (List.replicate 8 (-1)) c.ins).2.getD n.toNat 0 = k))) = c.ins.all (insB c 16 8 yesPar) := by
        rw [Bool.eq_iff_iff, List.all_eq_true, List.all_eq_true]
        refine forall_congr' fun x => forall_congr' fun hx => ?_
        rw [insB_par (par := fun n k => decide ((argsS (List.replicate 8 (-1)) c.ins).2.getD n.toNat 0 = k))]
        by_cases h10 : x.op = 10
        · rw [decide_eq_true (k2 x hx h10), Bool.or_true, Bool.and_true]
        · rw [decide_eq_false h10, Bool.not_false, Bool.true_or, Bool.and_true]
      unfold codeB
      by_cases hh : headV c
      · rw [if_pos hh, hins]
        simp [hh]
      · rw [if_neg hh]
        simp [hh]
end Go.Proofs.YtlenilbkifofjaaDoor
