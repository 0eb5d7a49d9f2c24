/- The page's machine: what a tree comes to. Conditions: as stated. The page's machine: what a step's walk is asked; a frame's temporaries written. No condition. The page's memory: an object more; what a made row of values holds. No program in sight but its name. No condition. -/
import Derived.Test.YtjkgpolikpochaaTreeAZz
import Derived.Test.YtjkgpolikpochaaTreeBZz
import Derived.Test.YtjkgpolikpochaaTreeCZz
import Derived.Test.YtjkgpolikpochaaTreeDZz
import Derived.Test.YtjkgpolikpochaaQ04Zz
import Derived.Laws.MakeOwn
set_option linter.unusedVariables false
set_option linter.unusedSimpArgs false
namespace Go.Proofs.Ytjkgpolikpochaa
open Go.RowKit

theorem tree_all (m : Nat) : TreeSaid m := by
  induction m with
  | zero => intro t _ _ _ _ _ _ _ _ _ _ _ _ _ _ _ _ _ hm; have := t.size_pos; omega
  | succ m ih =>
    intro t base mc own P fuel s fb tb G tp lv lo ng w v0 v1 v2 hm hM hkind hF hMo hFo hT hv
    obtain ⟨op, x, ks⟩ := t
    cases hev : evalTs s.mem tp lo ks with
    | none => exact tree_fail m ih _ base mc own P fuel s fb tb G tp lv lo ng w v0 v1 v2 hm hM hkind hF hMo hFo hT hv ⟨op, x, ks, rfl, hev⟩
    | some l =>
      by_cases hop : op ≤ 4
      · exact tree_leaf m ih _ base mc own P fuel s fb tb G tp lv lo ng w v0 v1 v2 hm hM hkind hF hMo hFo hT hv ⟨op, x, ks, l, rfl, hev, hop⟩
      · cases hap : applyF s.mem op l with
        | some r => exact tree_some m ih _ base mc own P fuel s fb tb G tp lv lo ng w v0 v1 v2 hm hM hkind hF hMo hFo hT hv ⟨op, x, ks, l, rfl, hev, by omega, r, hap⟩
        | none => exact tree_none m ih _ base mc own P fuel s fb tb G tp lv lo ng w v0 v1 v2 hm hM hkind hF hMo hFo hT hv ⟨op, x, ks, l, rfl, hev, by omega, hap⟩
end Go.Proofs.Ytjkgpolikpochaa
namespace Go.Proofs.Ytjkgpolikpochaa
open Go.RowKit

/-- A frame's blocks are not the machine's. -/
structure OffAt (base : Nat) (own : Nat → Prop) (fb tb : Nat) (lv : Value) : Prop where
  fb : ¬ own fb ∧ base ≤ fb
  tb : ¬ own tb ∧ base ≤ tb
  lv : ∀ g, lv.ownBlock = some g → ¬ own g ∧ base ≤ g

/-- What a step's call answers. -/
def DoesSays (base mc : Nat) (own : Nat → Prop) (P : Value × Value × Value) (fuel : Int) (fb tb : Nat) (G : Value × Value × Value × Value) (lv : Value) (lo : List Nat) (r : Bool × St × List V) (w : World) (e : Ending) (w' : World) : Prop :=
  e = .returned (.bool r.1) ∧ ∃ own' : Nat → Prop, (∀ k, own k → own' k) ∧ (∀ k, own' k → own k ∨ w.heap.size ≤ k) ∧ Mach w' base mc own' P fuel r.2.1 ∧ (r.1 = true → FrameAt w' fb G tb r.2.2 lv lo) ∧ Wr (fun b => own b ∨ b = tb) w w'

theorem ValsIn.set {cs : Array Value} {l : List V} (h : ValsIn cs l) (k : Nat) (v : V) : ValsIn ((cs.setIfInBounds (k * 2) (.int .i64 v.obj)).setIfInBounds (k * 2 + 1) (.int .i64 v.n)) (l.set k v) := by
  obtain ⟨h0, h1⟩ := h
  refine ⟨by simp [h0], fun j u hj => ?_⟩
  by_cases e : k = j
  · subst e
    have hk : k < l.length := by
      rcases Nat.lt_or_ge k l.length with h | h
      · exact h
      · rw [List.getElem?_eq_none (by simpa using h)] at hj; cases hj
    rw [List.getElem?_set_self hk] at hj
    injection hj with hj
    subst hj
    refine ⟨?_, ?_⟩
    · rw [Array.getElem?_setIfInBounds_ne (by omega), Array.getElem?_setIfInBounds_self_of_lt (by omega)]
    · rw [Array.getElem?_setIfInBounds_self_of_lt (by simp; omega)]
  · rw [List.getElem?_set_ne e] at hj
    obtain ⟨a, b⟩ := h1 j u hj
    refine ⟨?_, ?_⟩
    · rw [Array.getElem?_setIfInBounds_ne (by omega), Array.getElem?_setIfInBounds_ne (by omega)]; exact a
    · rw [Array.getElem?_setIfInBounds_ne (by omega), Array.getElem?_setIfInBounds_ne (by omega)]; exact b

theorem VRow.set {w : World} {b : Nat} {l : List V} (h : VRow w b l) (k : Nat) (v : V) : VRow ((w.setCell ⟨b, k * 2, none⟩ (.int .i64 v.obj)).setCell ⟨b, k * 2 + 1, none⟩ (.int .i64 v.n)) b (l.set k v) := by
  obtain ⟨cs, hr, hv⟩ := h
  exact ⟨_, (hr.set _ _).set _ _, hv.set k v⟩

theorem wr_pair (w1 : World) (r j k : Nat) (u v : Value) : Wr (fun b => b = r) w1 ((w1.setCell ⟨r, j, none⟩ u).setCell ⟨r, k, none⟩ v) :=
  (Wr.cell1 w1 r j u).trans (Wr.cell1 _ r k v) (fun _ h => Or.inl h)

theorem FrameAt.set {w : World} {fb tb : Nat} {G : Value × Value × Value × Value} {tp : List V} {lv : Value} {lo : List Nat} (h : FrameAt w fb G tb tp lv lo) (k : Nat) (v : V) :
    FrameAt ((w.setCell ⟨tb, k * 2, none⟩ (.int .i64 v.obj)).setCell ⟨tb, k * 2 + 1, none⟩ (.int .i64 v.n)) fb G tb (tp.set k v) lv lo := by
  obtain ⟨h1, h2, h3, h4⟩ := h
  have hw := wr_pair w tb (k * 2) (k * 2 + 1) (.int .i64 v.obj) (.int .i64 v.n)
  obtain ⟨cs, hr, hv⟩ := id h2
  refine ⟨?_, h2.set k v, ownsRow_wr h3 hw (fun g hg he => ?_), by simpa using h4⟩
  · rw [List.length_set]
    exact h1.wr hw (fun e => h1.ne hr (by decide) e)
  · obtain ⟨_, cs', hr'⟩ := ownsRow_row h3 hg
    exact hr'.ne hr (by decide) he

theorem two_vals {w : World} {base : Nat} {v : Value} {l : List V} (h : w.ownsRow base 90 2 v l.length (flatV l)) : ∀ g, v.ownBlock = some g → base ≤ g ∧ g < w.heap.size := fun g hg => by
  obtain ⟨h1, cs, h2⟩ := ownsRow_row h hg
  exact ⟨h1, h2.lt⟩

theorem stepF_yes {fuel n : Int} {s : St} (h : (stepF fuel n s).1 = true) : s.kind = 0 ∧ ¬ n > fuel - s.steps ∧ (stepF fuel n s).2 = { s with steps := s.steps + n } := by
  unfold stepF at h ⊢
  by_cases h0 : s.kind = 0
  · rw [if_pos h0] at h ⊢
    by_cases h1 : n > fuel - s.steps
    · rw [if_pos h1] at h; cases h
    · rw [if_neg h1]; exact ⟨h0, h1, rfl⟩
  · rw [if_neg h0] at h; cases h
theorem stepF_mem (fuel n : Int) (s : St) : (stepF fuel n s).2.mem = s.mem := by
  unfold stepF
  (repeat' split) <;> rfl
theorem ownsRow_vals' {w : World} {base : Nat} {v : Value} {l : List V} {k : Nat} (h : w.ownsRow base 90 2 v k (flatV l)) (hk : l.length = k) (hp : 0 < k) : ∃ g cap, v = .slice (some ⟨g, 0, none⟩) k cap ∧ base ≤ g ∧ g < w.heap.size ∧ ∀ j x, l[j]? = some x → ValCells w g (j * 2) x := by
  subst hk
  obtain ⟨g, cap, h0, h1, h2, h3⟩ := ownsRow_vals h hp
  exact ⟨g, cap, h0, h1, h2, fun j x hj => by simpa using h3 j x hj⟩
theorem one_of {α : Type} {l : List α} (h : l.length = 1) : ∃ a, l = [a] := by
  match l, h with
  | [a], _ => exact ⟨a, rfl⟩
theorem two_of {α : Type} {l : List α} (h : l.length = 2) : ∃ a b, l = [a, b] := by
  match l, h with
  | [a, b], _ => exact ⟨a, b, rfl⟩
theorem doesF_yes {R : CallR} {fuel : Int} {lo : List Nat} {s s' : St} {tp : List V} {x : StepS} {l : List V} (h : (stepF fuel 1 s).1 = true) (h2 : (stepF fuel 1 s).2 = s') (he : evalTs s.mem tp lo x.args = some l) : doesF R fuel lo s tp x = actF R s' tp x l := by
  have hm := stepF_mem fuel 1 s
  unfold doesF
  rw [if_neg (by rw [h]; simp), hm, he, h2]
/-- What comes in is read: the machine's own cell is written. -/
theorem MachAt.setIn {w : World} {base mc : Nat} {own : Nat → Prop} {P : Value × Value × Value} {fuel : Int} {s : St} {inv outv memv : Value} {rb : Nat → Nat} (h : MachAt w base mc own P fuel s inv outv memv rb) (v : Value) (l : List Int)
    (hl : InW w base v l) : MachAt (w.setCell ⟨mc, 3, none⟩ v) base mc own P fuel { s with inp := l } v outv memv rb := by
  obtain ⟨hr, hm, hs⟩ := h
  have hb := (hs.own mc hm)
  have hw : Wr (fun k => k = mc) w (w.setCell ⟨mc, 3, none⟩ v) := Wr.setCell w ⟨mc, 3, none⟩ v rfl
  have h' := hs.wr hw (fun k hk => by subst hk; exact ⟨hb.1, fun _ => ⟨_, hr⟩⟩) (by omega)
  exact ⟨hr.set 3 v, hm, ⟨hl.below (fun b o hb' => World.cell?_of_block (a := ⟨b, o, none⟩) (hw.block b (by omega) (fun hf => by omega))), h'.out, h'.outo, h'.mem, h'.memo, h'.own⟩⟩
theorem MachAt.below {w w' : World} {base mc : Nat} {own : Nat → Prop} {P : Value × Value × Value} {fuel : Int} {s : St} {inv outv memv : Value} {rb : Nat → Nat} (h : MachAt w base mc own P fuel s inv outv memv rb) (hw : Below w.heap.size w w') : MachAt w' base mc own P fuel s inv outv memv rb := by
  obtain ⟨hr, hm, hs⟩ := h
  have hb := (hs.own mc hm)
  exact ⟨hr.below hw hr.lt, hm, hs.wr (F := fun _ => False) (Wr.of_below hw) (fun k hk => hk.elim) (by omega)⟩
theorem InW.tail {w : World} {base : Nat} {b off cap q : Nat} {x : Int} {l : List Int} (h : ∀ j y, (x :: l)[j]? = some y → w.cell? ⟨b, off + j, none⟩ = some (.int .i64 y) ∧ In64 y) (hb : b < base) (hq : q = l.length) (h1 : q + 1 ≤ cap) (h2 : cap ≤ 9223372036854775807) :
    InW w base (.slice (some ⟨b, off + 1, none⟩) q (cap - 1)) l := by
  subst hq
  exact ⟨_, _, rfl, by omega, by omega, fun _ => ⟨b, off + 1, rfl, hb, fun j y hj => by have := h (j + 1) y (by simpa using hj); rw [show off + 1 + j = off + (j + 1) by omega]; exact this⟩⟩
theorem InW.empty {w : World} {base : Nat} {A : Option Addr} : InW w base (.slice A 0 0) [] := ⟨A, 0, rfl, by simp, by omega, fun h => by simp at h⟩
end Go.Proofs.Ytjkgpolikpochaa
namespace Go.Proofs.Ytjkgpolikpochaa
open Go.RowKit

theorem made_get (c i : Nat) (h : i < c * 2) : (madeCells (Value.agg #[.int .i64 0, .int .i64 0]).cells (c * 2))[i]? = some (.int .i64 0) := by
  have e : (Value.agg #[Value.int .i64 0, Value.int .i64 0]).cells = #[.int .i64 0, .int .i64 0] := by kernel_rfl
  rw [e]
  unfold madeCells
  rw [Array.getElem?_map, Array.getElem?_range, if_pos h]
  rcases Nat.mod_two_eq_zero_or_one i with h | h <;> simp [h]
theorem made_vals (c : Nat) : ValsIn (madeCells (Value.agg #[.int .i64 0, .int .i64 0]).cells (c * 2)) (List.replicate c ⟨0, 0⟩) := by
  refine ⟨by rw [size_madeCells]; simp, fun j v hj => ?_⟩
  have hlt : j < c := by
    rcases Nat.lt_or_ge j c with h | h
    · exact h
    · rw [List.getElem?_eq_none (by simpa using h)] at hj; cases hj
  rw [List.getElem?_replicate, if_pos hlt] at hj
  injection hj with hj
  subst hj
  exact ⟨made_get c _ (by omega), made_get c _ (by omega)⟩
theorem make_vals (ct : Nat) (h : ct ≤ 1000000) : ∃ Z : Array Value, ValsIn Z (List.replicate ct ⟨0, 0⟩) ∧ ∀ W : World, (Instr.makeSlice 97 (.int .i64 ct) (.int .i64 ct)).run Try.prog W = .ok (.slice (some ⟨W.heap.size, 0, none⟩) ct ct) (W.alloc (.cells Z 90)) := by
  obtain ⟨i0, hi, hz0, hz1, hz2⟩ := info_parts val_info
  refine ⟨_, made_vals ct, fun W => ?_⟩
  have := run_make (P := Try.prog) W 97 90 i0 _ Try.underlying97 hi hz0 .i64 .i64 ct ct (by omega) (by omega) (by rw [hz2]; omega) (by omega)
  rw [hz1] at this
  simpa using this

/-- The elements of an object that is made, so many of them filled. -/
def fillK (o : ObS) (k : Nat) : List V := (List.range o.count.toNat).map fun i => ⟨0, if i < k then storedF o.size.toNat (o.init.getD i 0) else 0⟩
theorem fillK_zero (o : ObS) : fillK o 0 = List.replicate o.count.toNat ⟨0, 0⟩ := by
  apply List.ext_getElem?
  intro i
  unfold fillK
  by_cases h : i < o.count.toNat
  · simp [h]
  · simp [h]
theorem fillK_all (o : ObS) : fillK o o.init.length = fillF o := by
  unfold fillK fillF
  apply List.map_congr_left
  intro i _
  by_cases h : i < o.init.length
  · rw [if_pos h, List.getD_eq_getElem?_getD, List.getElem?_eq_getElem h]; rfl
  · rw [if_neg h, List.getElem?_eq_none (by omega)]
theorem fillK_succ (o : ObS) (k : Nat) (hk : k < o.count.toNat) : (fillK o k).set k ⟨0, storedF o.size.toNat (o.init.getD k 0)⟩ = fillK o (k + 1) := by
  apply List.ext_getElem?
  intro i
  unfold fillK
  by_cases e : k = i
  · subst e
    rw [List.getElem?_set_self (by simpa using hk)]
    simp [hk]
  · rw [List.getElem?_set_ne e]
    by_cases h : i < o.count.toNat
    · simp [h]
      have : (i < k) ↔ (i < k + 1) := by omega
      simp [this]
    · simp [h]
theorem fillK_length (o : ObS) (k : Nat) : (fillK o k).length = o.count.toNat := by simp [fillK]
theorem fillK_get (o : ObS) (k : Nat) (hk : k < o.count.toNat) : (fillK o k)[k]? = some ⟨0, 0⟩ := by simp [fillK, hk]

theorem VRow.setN {w : World} {b : Nat} {l : List V} (h : VRow w b l) (k : Nat) (v : V) (n : Int) (hv : l[k]? = some v) : VRow (w.setCell ⟨b, k * 2 + 1, none⟩ (.int .i64 n)) b (l.set k ⟨v.obj, n⟩) := by
  obtain ⟨cs, hr, h0, h1⟩ := h
  refine ⟨_, hr.set _ _, by simp [h0], fun j u hj => ?_⟩
  have hk : k < l.length := by
    rcases Nat.lt_or_ge k l.length with h | h
    · exact h
    · rw [List.getElem?_eq_none h] at hv; cases hv
  by_cases e : k = j
  · subst e
    rw [List.getElem?_set_self hk] at hj
    injection hj with hj
    subst hj
    exact ⟨by rw [Array.getElem?_setIfInBounds_ne (by omega)]; exact (h1 k v hv).1, by rw [Array.getElem?_setIfInBounds_self_of_lt (by omega)]⟩
  · rw [List.getElem?_set_ne e] at hj
    obtain ⟨a, b⟩ := h1 j u hj
    exact ⟨by rw [Array.getElem?_setIfInBounds_ne (by omega)]; exact a, by rw [Array.getElem?_setIfInBounds_ne (by omega)]; exact b⟩

theorem MemW.wr {w w' : World} {base : Nat} {own F : Nat → Prop} {memv : Value} {rb : Nat → Nat} {M : List MO} (h : MemW w base own memv rb M) (ho : ∀ g, memv.ownBlock = some g → own g) (hw : Wr F w w') (hF : ∀ k, F k → ¬ own k) : MemW w' base own memv rb M := by
  obtain ⟨⟨xs, hx, hox⟩, hm, hi, hk⟩ := h
  refine ⟨⟨xs, ownsRow_wr hx hw (fun g hg hf => hF g hf (ho g hg)), hox⟩, fun k o h1 ho' => ?_, hi, hk⟩
  obtain ⟨h2, cs, hr, hv⟩ := hm k o h1 ho'
  exact ⟨h2, cs, hr.wr hw (fun hf => hF _ hf h2), hv⟩

theorem VOk.mono {n m : Nat} {v : V} (h : VOk n v) (hm : n ≤ m) : VOk m v := ⟨by have := h.1; omega, h.2⟩

def memBase (M : List MO) : List MO := if M = [] then [⟨0, [], false⟩] else M
theorem makeF_eq (M : List MO) (o : ObS) : makeF M o = memBase M ++ [⟨o.size, fillF o, true⟩] := rfl
theorem memBase_pos (M : List MO) : 0 < (memBase M).length := by
  unfold memBase
  split
  · simp
  · rename_i h; cases M with | nil => exact absurd rfl h | cons a l => simp
theorem memBase_ok {M : List MO} (h : MemOk M) : MemOk (memBase M) := by
  unfold memBase
  split
  · refine ⟨by simp, fun o ho => by simpa using ho.symm, fun k o hk ho => ?_, fun o ho v hv => ?_⟩
    · rw [List.getElem?_eq_none (by simp; omega)] at ho; cases ho
    · simp at ho; subst ho; simp at hv
  · exact h

theorem fill_in64 (o : ObS) (hi : ∀ x, x ∈ o.init → In64 x) (v : V) (hv : v ∈ fillF o) : v.obj = 0 ∧ In64 v.n := by
  unfold fillF at hv
  simp only [List.mem_map, List.mem_range] at hv
  obtain ⟨i, _, rfl⟩ := hv
  refine ⟨rfl, ?_⟩
  simp only
  split
  · rename_i n hn
    exact stored_in64 (hi n (List.mem_of_getElem? hn))
  · unfold In64; omega

theorem makeF_ok {M : List MO} (h : MemOk M) (o : ObS) (hs : o.size = 1 ∨ o.size = 2 ∨ o.size = 4 ∨ o.size = 8) (hc : o.count.toNat ≤ 64) (hi : ∀ x, x ∈ o.init → In64 x) (hm : (memBase M).length + 1 ≤ 4294967296) : MemOk (makeF M o) := by
  rw [makeF_eq]
  have hb := memBase_ok h
  have hp := memBase_pos M
  refine ⟨by simpa using hm, fun x hx => ?_, fun k x hk hx => ?_, fun x hx v hv => ?_⟩
  · rw [List.getElem?_append_left hp] at hx
    exact hb.zero x hx
  · rcases Nat.lt_or_ge k (memBase M).length with h | h
    · rw [List.getElem?_append_left h] at hx
      exact hb.size k x hk hx
    · rw [List.getElem?_append_right h] at hx
      rcases Nat.lt_or_ge (k - (memBase M).length) 1 with h' | h'
      · rw [show k - (memBase M).length = 0 by omega] at hx
        simp at hx
        subst hx
        exact ⟨hs, by simp [fillF]; omega⟩
      · rw [List.getElem?_eq_none (by simpa using h')] at hx; cases hx
  · rw [List.length_append]
    simp only [List.mem_append, List.mem_singleton] at hx
    rcases hx with hx | rfl
    · exact (hb.vals x hx v hv).mono (by omega)
    · obtain ⟨h0, h1⟩ := fill_in64 o hi v hv
      exact ⟨by omega, fun h => absurd h0 h, h1⟩

/-- The memory with an object more. -/
theorem MemW.push {w w' : World} {base : Nat} {own own' : Nat → Prop} {memv memv' : Value} {rb : Nat → Nat} {M : List MO} {o : MO} {ob : Nat} {xs : List Value} (h : MemW w base own memv rb M) (hpos : 0 < M.length)
    (hxs : ∀ k x, M[k]? = some x → ObjIn xs rb k x) (hlen : xs.length = M.length * 3)
    (hown : w'.ownsRow base 99 3 memv' (M.length + 1) (xs ++ [.int .i64 o.size, .slice (some ⟨ob, 0, none⟩) o.l.length o.l.length, .bool o.live]))
    (hkeep : ∀ k x, 1 ≤ k → M[k]? = some x → VRow w' (rb k) x.l) (hob : VRow w' ob o.l) (hnew : ¬ own ob) (h1 : ∀ k, own k → own' k) (h2 : own' ob) (hok : MemOk (M ++ [o])) :
    MemW w' base own' memv' (fun k => if k = M.length then ob else rb k) (M ++ [o]) := by
  have hget : ∀ k x, (M ++ [o])[k]? = some x → (k < M.length ∧ M[k]? = some x) ∨ (k = M.length ∧ x = o) := by
    intro k x hx
    rcases Nat.lt_or_ge k M.length with h | h
    · rw [List.getElem?_append_left h] at hx
      exact Or.inl ⟨h, hx⟩
    · rw [List.getElem?_append_right h] at hx
      rcases Nat.lt_or_ge (k - M.length) 1 with h' | h'
      · rw [show k - M.length = 0 by omega] at hx
        simp at hx
        exact Or.inr ⟨by omega, hx.symm⟩
      · rw [List.getElem?_eq_none (by simpa using h')] at hx; cases hx
  refine ⟨⟨_, by rw [List.length_append]; exact hown, fun k x hx => ?_⟩, fun k x hk hx => ?_, fun i j hi1 hi2 hj1 hj2 he => ?_, hok⟩
  · rcases hget k x hx with ⟨hlt, hx⟩ | ⟨rfl, rfl⟩
    · obtain ⟨a, b, c⟩ := hxs k x hx
      unfold ObjIn
      rw [List.getElem?_append_left (by omega), List.getElem?_append_left (by omega), List.getElem?_append_left (by omega)]
      simp only [if_neg (show ¬ k = M.length by omega)]
      exact ⟨a, b, c⟩
    · unfold ObjIn
      rw [List.getElem?_append_right (by omega), List.getElem?_append_right (by omega), List.getElem?_append_right (by omega), hlen]
      simp only [if_neg (show ¬ M.length = 0 by omega), if_true]
      rw [show M.length * 3 - M.length * 3 = 0 by omega, show M.length * 3 + 1 - M.length * 3 = 1 by omega, show M.length * 3 + 2 - M.length * 3 = 2 by omega]
      exact ⟨rfl, rfl, rfl⟩
  · rcases hget k x hx with ⟨hlt, hx⟩ | ⟨rfl, rfl⟩
    · rw [if_neg (by omega : ¬ k = M.length)]
      exact ⟨h1 _ (h.mine k x hk hx).1, hkeep k x hk hx⟩
    · rw [if_pos rfl]
      exact ⟨h2, hob⟩
  · simp only [List.length_append, List.length_singleton] at hi2 hj2
    have hmine : ∀ k, 1 ≤ k → k < M.length → own (rb k) := fun k h1 h2 => (h.mine k _ h1 (List.getElem?_eq_getElem h2)).1
    by_cases ei : i = M.length <;> by_cases ej : j = M.length
    · omega
    · rw [if_pos ei, if_neg ej] at he
      exact absurd (he ▸ hmine j hj1 (by omega)) hnew
    · rw [if_neg ei, if_pos ej] at he
      exact absurd (he ▸ hmine i hi1 (by omega)) hnew
    · rw [if_neg ei, if_neg ej] at he
      exact h.inj i j hi1 (by omega) hj1 (by omega) he

/-- The memory's first object, which is none. -/
theorem MemW.first {w w' : World} {base : Nat} {own own' : Nat → Prop} {memv memv' : Value} {rb : Nat → Nat} (h : MemW w base own memv rb [])
    (hown : w'.ownsRow base 99 3 memv' 1 [.int .i64 0, .slice none 0 0, .bool false]) : MemW w' base own' memv' rb (memBase []) := by
  unfold memBase
  rw [if_pos rfl]
  refine ⟨⟨_, hown, fun k x hx => ?_⟩, fun k x hk hx => ?_, fun i j hi1 hi2 hj1 hj2 he => ?_, ?_⟩
  · cases k with
    | zero => simp at hx; subst hx; exact ⟨rfl, rfl, rfl⟩
    | succ k => rw [List.getElem?_eq_none (by simp)] at hx; cases hx
  · rw [List.getElem?_eq_none (by simp; omega)] at hx; cases hx
  · simp at hi2 hj2; omega
  · have := memBase_ok h.ok
    unfold memBase at this
    rw [if_pos rfl] at this
    exact this
end Go.Proofs.Ytjkgpolikpochaa
