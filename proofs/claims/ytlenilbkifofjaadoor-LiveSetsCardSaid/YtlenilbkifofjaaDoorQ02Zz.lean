/- An empty memory and one of the object that is none are one to the page's machine: plain. No program in sight. No condition. The page's machine: step. Conditions: as stated. The page's machine: a call's frame; what a tree's walk is asked. No condition. The page's machine: a tree one of whose kids comes to nothing. Conditions: as stated. The page's machine: a leaf's value. Conditions: as stated. The page's machine: an op of values that comes to a value. Conditions: as stated. The page's machine: an op of values that is stuck. Conditions: as stated. The page's machine: what a tree comes to. Conditions: as stated. The page's machine: what a step's walk is asked; a frame's temporaries written. No condition. The page's memory: an object more; what a made row of values holds. No program in sight but its name. No condition. The page's memory: an object is made. Conditions: as stated. The page's memory: its first object is made. Conditions: as stated. The page's machine: an object is made. Conditions: as stated. What is always true of the page's machine while it runs. No program in sight. No condition. The page's machine: what a call's walk is asked; its plain parts. No condition. The page's machine: a call's locals, made one by one. No condition. The page's machine: a call's blocks. No condition. The page's machine: an object is no more. No program in sight but its name. No condition. The graph's machine over the page's memory: plain laws. No program in sight. Conditions: as stated. An empty memory and one of the object that is none are one to the page's machine: plain laws. No program in sight. No condition. -/
import Derived.Test.YtlenilbkifofjaaDoorOkZz
import Derived.Test.YtlenilbkifofjaaDoorQ01Zz
import Derived.Laws.MakeOwn
import Derived.Deep.RegionHeld3
import Derived.Deep.AppendLies
import Derived.Deep.RegionLaw
import Derived.Deep.DrawnRows
import Derived.Laws.OwnMore
set_option linter.unusedVariables false
set_option linter.unusedSimpArgs false
namespace Go.Proofs.YtlenilbkifofjaaDoor
open Go.RowKit

def memBase (M : List MO) : List MO := if M = [] then [⟨0, [], false⟩] else M
theorem makeF_eq (M : List MO) (o : ObS) : makeF M o = memBase M ++ [⟨o.size, fillF o, true⟩] := rfl
theorem memBase_pos (M : List MO) : 0 < (memBase M).length := by
  unfold memBase
  split
  · simp
  · rename_i h; cases M with | nil => exact absurd rfl h | cons a l => simp
theorem memBase_ok {M : List MO} (h : MemOk M) : MemOk (memBase M) := by
  unfold memBase
  split
  · refine ⟨by simp, fun o ho => by simpa using ho.symm, fun k o hk ho => ?_, fun o ho v hv => ?_⟩
    · rw [List.getElem?_eq_none (by simp; omega)] at ho; cases ho
    · simp at ho; subst ho; simp at hv
  · exact h

theorem mget_base (M : List MO) (k : Nat) : mget (memBase M) k = mget M k := by
  unfold memBase
  split
  · rename_i h
    subst h
    unfold mget
    cases k <;> rfl
  · rfl
theorem memBase_twice (M : List MO) : memBase (memBase M) = memBase M := by
  have h := memBase_pos M
  generalize memBase M = N at h
  unfold memBase
  rw [if_neg (by rintro rfl; simp at h)]
theorem atF_base (M : List MO) (a : V) (s : Nat) : atF (memBase M) a s = atF M a s := by unfold atF; simp only [mget_base]
theorem loadF_base (M : List MO) (op : Int) (a : V) : loadF (memBase M) op a = loadF M op a := by unfold loadF; simp only [mget_base, atF_base]
theorem movedF_base (M : List MO) (a : V) (n : Int) : movedF (memBase M) a n = movedF M a n := by unfold movedF; simp only [mget_base]
theorem cmpF_base (M : List MO) (a b : V) : cmpF (memBase M) a b = cmpF M a b := by unfold cmpF; simp only [mget_base]
theorem binF_base (two : Int → Int → Int → Int) (M : List MO) (op : Int) (a b : V) : binF two (memBase M) op a b = binF two M op a b := by unfold binF; simp only [mget_base, movedF_base, cmpF_base]
theorem opF_base (M : List MO) (tp : List V) (lo : List Nat) (op n : Int) (l : List V) : opF (memBase M) tp lo op n l = opF M tp lo op n l := by
  unfold opF applyF
  simp only [loadF_base, binF_base]
mutual
theorem evalT_base (M : List MO) (tp : List V) (lo : List Nat) : ∀ t, evalT (memBase M) tp lo t = evalT M tp lo t
  | .node op n ks => by
    rw [evalT, evalT, evalTs_base M tp lo ks]
    congr 1
    funext l
    exact opF_base M tp lo op n l
theorem evalTs_base (M : List MO) (tp : List V) (lo : List Nat) : ∀ ks, evalTs (memBase M) tp lo ks = evalTs M tp lo ks
  | [] => rfl
  | k :: ks => by rw [evalTs, evalTs, evalT_base M tp lo k, evalTs_base M tp lo ks]
end
theorem memBase_of {M : List MO} (h : 0 < M.length) : memBase M = M := by
  unfold memBase
  rw [if_neg (by rintro rfl; simp at h)]
theorem VOk.based {M : List MO} {v : V} (h : VOk (memBase M).length v) : VOkW M.length v := by
  refine ⟨fun h0 => ?_, h.2⟩
  have h1 := h.1
  unfold memBase at h1
  split at h1
  · simp at h1; omega
  · exact h1
theorem memBase_le (M : List MO) : (memBase M).length ≤ M.length + 1 := by
  unfold memBase
  split
  · simp
  · omega
theorem memBase_ge (M : List MO) : M.length ≤ (memBase M).length := by
  unfold memBase
  split
  · rename_i h; subst h; simp
  · exact Nat.le_refl _
theorem MemOk.unbase {M : List MO} (h : MemOk (memBase M)) : MemOk M := by
  unfold memBase at h
  split at h
  · rename_i hM
    subst hM
    exact ⟨by simp, fun o h => by simp at h, fun k o _ h => by simp at h, fun o h => by simp at h⟩
  · exact h
end Go.Proofs.YtlenilbkifofjaaDoor
namespace Go.Proofs.YtlenilbkifofjaaDoor
open Go.RowKit

theorem wr_drewN (F : Nat → Prop) (w : World) (n : Nat) : Wr F w (w.drewN n) := Wr.of_below (below_drewN (Below.refl _ _) n)

theorem Wr.cell1 (w : World) (b j : Nat) (v : Value) : Wr (fun k => k = b) w (w.setCell ⟨b, j, none⟩ v) := Wr.setCell w ⟨b, j, none⟩ v rfl

end Go.Proofs.YtlenilbkifofjaaDoor
namespace Go.Proofs.YtlenilbkifofjaaDoor
open Go.RowKit

theorem addr0 (g j : Nat) : (⟨g, 0, none⟩ : Addr).add j = ⟨g, j, none⟩ := by simp [Addr.add]; exact fun h => h.symm

theorem pair_cells (w : World) (a b : Value) (t : TypeId) (r : Nat) (hr : r = w.heap.size) : ∀ (j : Nat) (u : Value), [a, b][j]? = some u → (w.alloc (.cells #[a, b] t)).cell? ((⟨r, 0, none⟩ : Addr).add j) = some u := by
  subst hr
  intro j u hj
  have hj2 : j < 2 := by
    rcases Nat.lt_or_ge j 2 with h | h
    · exact h
    · rw [List.getElem?_eq_none (by simpa using h)] at hj; cases hj
  rw [addr0]
  exact (Row.new w #[a, b] t).cell (by simpa using hj)
theorem pair_one (a b : Int) : ∀ u : Value, u ∈ [Value.int .i64 a, Value.int .i64 b] → u.oneCell' = true := by
  intro u hu
  simp at hu
  rcases hu with rfl | rfl <;> rfl

theorem wr_two (w1 : World) (r : Nat) (u v : Value) : Wr (fun k => k = r) w1 ((w1.setCell ⟨r, 0, none⟩ u).setCell ⟨r, 1, none⟩ v) :=
  (Wr.cell1 w1 r 0 u).trans (Wr.cell1 _ r 1 v) (fun _ h => Or.inl h)
theorem wr_two_alloc (w1 : World) (r : Nat) (u v : Value) (o : Obj) : Wr (fun k => k = r) w1 (((w1.setCell ⟨r, 0, none⟩ u).setCell ⟨r, 1, none⟩ v).alloc o) :=
  (wr_two w1 r u v).trans (Wr.of_below (F := fun k => k = r) (below1 _ o)) (fun _ h => Or.inl h)

mutual
theorem TreeAt.tin {w : World} {C : Nat → Nat → Prop} : ∀ (t : T) {v0 v1 v2 : Value}, TreeAt w C t v0 v1 v2 → TIn t
  | .node op n ks, v0, v1, v2, h => by
    simp only [TreeAt] at h
    obtain ⟨_, _, _, h3, _, A, cap, _, h6⟩ := h
    refine ⟨h3, ?_⟩
    match ks, h6 with
    | [], _ => trivial
    | k :: ks, h6 =>
      obtain ⟨b, off, _, _, hk⟩ := h6 (by simp)
      exact KidsAt.tin (k :: ks) hk
theorem KidsAt.tin {w : World} {C : Nat → Nat → Prop} : ∀ (ks : List T) {b off : Nat}, KidsAt w C ks b off → TsIn ks
  | [], _, _, _ => trivial
  | k :: ks, b, off, h => by
    simp only [KidsAt] at h
    obtain ⟨⟨v0, v1, v2, _, _, _, ht⟩, hr⟩ := h
    exact ⟨TreeAt.tin k ht, KidsAt.tin ks hr⟩
end

theorem KidsV.tin {w : World} {B n : Nat} {ks : List T} {A : Option Addr} (h : KidsV w B ks A n) : TsIn ks := by
  obtain ⟨hl, _, h2⟩ := h
  by_cases hn : 0 < n
  · obtain ⟨b, off, _, _, hk⟩ := h2 hn
    exact KidsAt.tin ks hk
  · have : ks = [] := List.length_eq_zero_iff.1 (by omega)
    subst this
    simp [TsIn]
end Go.Proofs.YtlenilbkifofjaaDoor
namespace Go.Proofs.YtlenilbkifofjaaDoor
open Go.RowKit
end Go.Proofs.YtlenilbkifofjaaDoor
namespace Go.Proofs.YtlenilbkifofjaaDoor
open Go.RowKit
end Go.Proofs.YtlenilbkifofjaaDoor
namespace Go.Proofs.YtlenilbkifofjaaDoor
open Go.RowKit
end Go.Proofs.YtlenilbkifofjaaDoor
namespace Go.Proofs.YtlenilbkifofjaaDoor
open Go.RowKit
end Go.Proofs.YtlenilbkifofjaaDoor
namespace Go.Proofs.YtlenilbkifofjaaDoor
open Go.RowKit

end Go.Proofs.YtlenilbkifofjaaDoor
namespace Go.Proofs.YtlenilbkifofjaaDoor
open Go.RowKit

/-- A frame's blocks are not the machine's. -/
structure OffAt (base : Nat) (own : Nat → Prop) (fb tb : Nat) (lv : Value) : Prop where
  fb : ¬ own fb ∧ base ≤ fb
  tb : ¬ own tb ∧ base ≤ tb
  lv : ∀ g, lv.ownBlock = some g → ¬ own g ∧ base ≤ g

theorem ValsIn.set {cs : Array Value} {l : List V} (h : ValsIn cs l) (k : Nat) (v : V) : ValsIn ((cs.setIfInBounds (k * 2) (.int .i64 v.obj)).setIfInBounds (k * 2 + 1) (.int .i64 v.n)) (l.set k v) := by
  obtain ⟨h0, h1⟩ := h
  refine ⟨by simp [h0], fun j u hj => ?_⟩
  by_cases e : k = j
  · subst e
    have hk : k < l.length := by
      rcases Nat.lt_or_ge k l.length with h | h
      · exact h
      · rw [List.getElem?_eq_none (by simpa using h)] at hj; cases hj
    rw [List.getElem?_set_self hk] at hj
    injection hj with hj
    subst hj
    refine ⟨?_, ?_⟩
    · rw [Array.getElem?_setIfInBounds_ne (by omega), Array.getElem?_setIfInBounds_self_of_lt (by omega)]
    · rw [Array.getElem?_setIfInBounds_self_of_lt (by simp; omega)]
  · rw [List.getElem?_set_ne e] at hj
    obtain ⟨a, b⟩ := h1 j u hj
    refine ⟨?_, ?_⟩
    · rw [Array.getElem?_setIfInBounds_ne (by omega), Array.getElem?_setIfInBounds_ne (by omega)]; exact a
    · rw [Array.getElem?_setIfInBounds_ne (by omega), Array.getElem?_setIfInBounds_ne (by omega)]; exact b

theorem wr_pair (w1 : World) (r j k : Nat) (u v : Value) : Wr (fun b => b = r) w1 ((w1.setCell ⟨r, j, none⟩ u).setCell ⟨r, k, none⟩ v) :=
  (Wr.cell1 w1 r j u).trans (Wr.cell1 _ r k v) (fun _ h => Or.inl h)

theorem stepF_yes {fuel n : Int} {s : St} (h : (stepF fuel n s).1 = true) : s.kind = 0 ∧ ¬ n > fuel - s.steps ∧ (stepF fuel n s).2 = { s with steps := s.steps + n } := by
  unfold stepF at h ⊢
  by_cases h0 : s.kind = 0
  · rw [if_pos h0] at h ⊢
    by_cases h1 : n > fuel - s.steps
    · rw [if_pos h1] at h; cases h
    · rw [if_neg h1]; exact ⟨h0, h1, rfl⟩
  · rw [if_neg h0] at h; cases h
theorem stepF_mem (fuel n : Int) (s : St) : (stepF fuel n s).2.mem = s.mem := by
  unfold stepF
  (repeat' split) <;> rfl
theorem one_of {α : Type} {l : List α} (h : l.length = 1) : ∃ a, l = [a] := by
  match l, h with
  | [a], _ => exact ⟨a, rfl⟩
theorem two_of {α : Type} {l : List α} (h : l.length = 2) : ∃ a b, l = [a, b] := by
  match l, h with
  | [a, b], _ => exact ⟨a, b, rfl⟩
theorem doesF_yes {R : CallR} {fuel : Int} {lo : List Nat} {s s' : St} {tp : List V} {x : StepS} {l : List V} (h : (stepF fuel 1 s).1 = true) (h2 : (stepF fuel 1 s).2 = s') (he : evalTs s.mem tp lo x.args = some l) : doesF R fuel lo s tp x = actF R s' tp x l := by
  have hm := stepF_mem fuel 1 s
  unfold doesF
  rw [if_neg (by rw [h]; simp), hm, he, h2]
theorem InW.tail {w : World} {base : Nat} {b off cap q : Nat} {x : Int} {l : List Int} (h : ∀ j y, (x :: l)[j]? = some y → w.cell? ⟨b, off + j, none⟩ = some (.int .i64 y) ∧ In64 y) (hb : b < base) (hq : q = l.length) (h1 : q + 1 ≤ cap) (h2 : cap ≤ 9223372036854775807) :
    InW w base (.slice (some ⟨b, off + 1, none⟩) q (cap - 1)) l := by
  subst hq
  exact ⟨_, _, rfl, by omega, by omega, fun _ => ⟨b, off + 1, rfl, hb, fun j y hj => by have := h (j + 1) y (by simpa using hj); rw [show off + 1 + j = off + (j + 1) by omega]; exact this⟩⟩
theorem InW.empty {w : World} {base : Nat} {A : Option Addr} : InW w base (.slice A 0 0) [] := ⟨A, 0, rfl, by simp, by omega, fun h => by simp at h⟩
end Go.Proofs.YtlenilbkifofjaaDoor
namespace Go.Proofs.YtlenilbkifofjaaDoor
open Go.RowKit

theorem made_get (c i : Nat) (h : i < c * 2) : (madeCells (Value.agg #[.int .i64 0, .int .i64 0]).cells (c * 2))[i]? = some (.int .i64 0) := by
  have e : (Value.agg #[Value.int .i64 0, Value.int .i64 0]).cells = #[.int .i64 0, .int .i64 0] := by kernel_rfl
  rw [e]
  unfold madeCells
  rw [Array.getElem?_map, Array.getElem?_range, if_pos h]
  rcases Nat.mod_two_eq_zero_or_one i with h | h <;> simp [h]
theorem made_vals (c : Nat) : ValsIn (madeCells (Value.agg #[.int .i64 0, .int .i64 0]).cells (c * 2)) (List.replicate c ⟨0, 0⟩) := by
  refine ⟨by rw [size_madeCells]; simp, fun j v hj => ?_⟩
  have hlt : j < c := by
    rcases Nat.lt_or_ge j c with h | h
    · exact h
    · rw [List.getElem?_eq_none (by simpa using h)] at hj; cases hj
  rw [List.getElem?_replicate, if_pos hlt] at hj
  injection hj with hj
  subst hj
  exact ⟨made_get c _ (by omega), made_get c _ (by omega)⟩
/-- The elements of an object that is made, so many of them filled. -/
def fillK (o : ObS) (k : Nat) : List V := (List.range o.count.toNat).map fun i => ⟨0, if i < k then storedF o.size.toNat (o.init.getD i 0) else 0⟩
theorem fillK_zero (o : ObS) : fillK o 0 = List.replicate o.count.toNat ⟨0, 0⟩ := by
  apply List.ext_getElem?
  intro i
  unfold fillK
  by_cases h : i < o.count.toNat
  · simp [h]
  · simp [h]
theorem fillK_all (o : ObS) : fillK o o.init.length = fillF o := by
  unfold fillK fillF
  apply List.map_congr_left
  intro i _
  by_cases h : i < o.init.length
  · rw [if_pos h, List.getD_eq_getElem?_getD, List.getElem?_eq_getElem h]; rfl
  · rw [if_neg h, List.getElem?_eq_none (by omega)]
theorem fillK_succ (o : ObS) (k : Nat) (hk : k < o.count.toNat) : (fillK o k).set k ⟨0, storedF o.size.toNat (o.init.getD k 0)⟩ = fillK o (k + 1) := by
  apply List.ext_getElem?
  intro i
  unfold fillK
  by_cases e : k = i
  · subst e
    rw [List.getElem?_set_self (by simpa using hk)]
    simp [hk]
  · rw [List.getElem?_set_ne e]
    by_cases h : i < o.count.toNat
    · simp [h]
      have : (i < k) ↔ (i < k + 1) := by omega
      simp [this]
    · simp [h]
theorem fillK_length (o : ObS) (k : Nat) : (fillK o k).length = o.count.toNat := by simp [fillK]
theorem fillK_get (o : ObS) (k : Nat) (hk : k < o.count.toNat) : (fillK o k)[k]? = some ⟨0, 0⟩ := by simp [fillK, hk]

theorem VOk.mono {n m : Nat} {v : V} (h : VOk n v) (hm : n ≤ m) : VOk m v := ⟨by have := h.1; omega, h.2⟩

theorem fill_in64 (o : ObS) (hi : ∀ x, x ∈ o.init → In64 x) (v : V) (hv : v ∈ fillF o) : v.obj = 0 ∧ In64 v.n := by
  unfold fillF at hv
  simp only [List.mem_map, List.mem_range] at hv
  obtain ⟨i, _, rfl⟩ := hv
  refine ⟨rfl, ?_⟩
  simp only
  split
  · rename_i n hn
    exact stored_in64 (hi n (List.mem_of_getElem? hn))
  · unfold In64; omega

theorem makeF_ok {M : List MO} (h : MemOk M) (o : ObS) (hs : o.size = 1 ∨ o.size = 2 ∨ o.size = 4 ∨ o.size = 8) (hc : o.count.toNat ≤ 64) (hi : ∀ x, x ∈ o.init → In64 x) (hm : (memBase M).length + 1 ≤ 4294967296) : MemOk (makeF M o) := by
  rw [makeF_eq]
  have hb := memBase_ok h
  have hp := memBase_pos M
  refine ⟨by simpa using hm, fun x hx => ?_, fun k x hk hx => ?_, fun x hx v hv => ?_⟩
  · rw [List.getElem?_append_left hp] at hx
    exact hb.zero x hx
  · rcases Nat.lt_or_ge k (memBase M).length with h | h
    · rw [List.getElem?_append_left h] at hx
      exact hb.size k x hk hx
    · rw [List.getElem?_append_right h] at hx
      rcases Nat.lt_or_ge (k - (memBase M).length) 1 with h' | h'
      · rw [show k - (memBase M).length = 0 by omega] at hx
        simp at hx
        subst hx
        exact ⟨hs, by simp [fillF]; omega⟩
      · rw [List.getElem?_eq_none (by simpa using h')] at hx; cases hx
  · rw [List.length_append]
    simp only [List.mem_append, List.mem_singleton] at hx
    rcases hx with hx | rfl
    · exact (hb.vals x hx v hv).mono (by omega)
    · obtain ⟨h0, h1⟩ := fill_in64 o hi v hv
      exact ⟨by omega, fun h => absurd h0 h, h1⟩

end Go.Proofs.YtlenilbkifofjaaDoor
namespace Go.Proofs.YtlenilbkifofjaaDoor
open Go.RowKit
attribute [local go_sem ↓] Go.wp_at_zero Go.wp_at_succ

theorem set_same {cs : Array Value} {j : Nat} {v : Value} (h : cs[j]? = some v) : cs.setIfInBounds j v = cs := by
  apply Array.ext_getElem?
  intro i
  by_cases e : j = i
  · subst e
    rw [Array.getElem?_setIfInBounds_self, h]
    have : j < cs.size := by
      rcases Nat.lt_or_ge j cs.size with h' | h'
      · exact h'
      · rw [Array.getElem?_eq_none h'] at h; cases h
    simp [this]
  · rw [Array.getElem?_setIfInBounds_ne e]

theorem lt_of_get {cs : Array Value} {j : Nat} {v : Value} (h : cs[j]? = some v) : j < cs.size := by
  rcases Nat.lt_or_ge j cs.size with h' | h'
  · exact h'
  · rw [Array.getElem?_eq_none h'] at h; cases h
theorem own_drew {w : World} {base : Nat} {e : TypeId} {size : Nat} {v : Value} {n : Nat} {xs : List Value} (h : w.ownsRow base e size v n xs) (o : Obj) : (w.alloc o).drew.ownsRow base e size v n xs :=
  ownsRow_wr h (Wr.of_below (F := fun _ => False) (below1 w o).drew) (fun _ _ h => h)
theorem row_cells (w : World) (cs : List Value) (t : TypeId) (r : Nat) (hr : r = w.heap.size) : ∀ (j : Nat) (u : Value), cs[j]? = some u → (w.alloc (.cells cs.toArray t)).drew.cell? ((⟨r, 0, none⟩ : Addr).add j) = some u := by
  subst hr
  intro j u hj
  rw [addr0]
  exact (Row.new w cs.toArray t).drew.cell (by simpa using hj)
theorem row_cells1 (w : World) (cs : List Value) (t : TypeId) (r : Nat) (hr : r = w.heap.size) : ∀ (j : Nat) (u : Value), cs[j]? = some u → (w.alloc (.cells cs.toArray t)).cell? ((⟨r, 0, none⟩ : Addr).add j) = some u := row_cells w cs t r hr
theorem own_two' {w : World} {base : Nat} {e : TypeId} {size : Nat} {v : Value} {n : Nat} {xs : List Value} (h : w.ownsRow base e size v n xs) (o o' : Obj) : ((w.alloc o).alloc o').ownsRow base e size v n xs :=
  ownsRow_wr h (Wr.of_below (F := fun _ => False) (below2 w o o')) (fun _ _ h => h)
theorem obj_one (a : Int) (v : Option Addr) (n m : Nat) (b : Bool) : ∀ u : Value, u ∈ [Value.int .i64 a, .slice v n m, .bool b] → u.oneCell' = true := by
  intro u hu
  simp at hu
  rcases hu with rfl | rfl | rfl <;> rfl

end Go.Proofs.YtlenilbkifofjaaDoor
namespace Go.Proofs.YtlenilbkifofjaaDoor
open Go.RowKit
attribute [local go_sem ↓] Go.wp_at_zero Go.wp_at_succ

end Go.Proofs.YtlenilbkifofjaaDoor
namespace Go.Proofs.YtlenilbkifofjaaDoor
open Go.RowKit

/-- An object of a program that may be. -/
def ObOk (o : ObS) : Prop := (o.size = 1 ∨ o.size = 2 ∨ o.size = 4 ∨ o.size = 8) ∧ 1 ≤ o.count ∧ o.count ≤ 64 ∧ (o.init.length : Int) ≤ o.count

theorem LongsAt.in64 {w : World} {B : Nat} {l : List Int} {v : Value} (h : LongsAt w B l v) : ∀ x, x ∈ l → In64 x := by
  intro x hx
  obtain ⟨i, hi⟩ := List.mem_iff_getElem?.1 hx
  obtain ⟨A, cap, _, _, h2⟩ := h
  obtain ⟨b, off, _, _, h3⟩ := h2 (by rcases Nat.eq_zero_or_pos l.length with h | h; rw [List.eq_nil_of_length_eq_zero h] at hx; cases hx; exact h)
  exact (h3 i x hi).2

end Go.Proofs.YtlenilbkifofjaaDoor
namespace Go.Proofs.YtlenilbkifofjaaDoor
open Go.RowKit

/-- An object of small elements holds numbers alone. -/
def NumOk (M : List MO) : Prop := ∀ o, o ∈ M → o.size ≠ 8 → ∀ v, v ∈ o.l → v.obj = 0
/-- What is always true of the machine while it runs. -/
structure GInv (fuel : Int) (s : St) : Prop where
  kind : s.kind = 0
  lo : 0 ≤ s.steps
  hi : s.steps ≤ fuel
  many : (memBase s.mem).length ≤ 20 + s.steps.toNat
  outs : s.out.length ≤ s.steps.toNat
  calls : 0 ≤ s.calls
  deep : 0 ≤ s.deep
  inp : ∀ x, x ∈ s.inp → In64 x
  mem : MemOk (memBase s.mem)
  num : NumOk (memBase s.mem)
structure GKept (fuel : Int) (s s' : St) : Prop where
  inv : GInv fuel s'
  calls : s'.calls = s.calls
  grow : (memBase s.mem).length ≤ (memBase s'.mem).length
  steps : s.steps ≤ s'.steps
theorem GKept.refl {fuel : Int} {s : St} (h : GInv fuel s) : GKept fuel s s := ⟨h, rfl, Nat.le_refl _, Int.le_refl _⟩
theorem GKept.trans {fuel : Int} {a b c : St} (h : GKept fuel a b) (k : GKept fuel b c) : GKept fuel a c := ⟨k.inv, k.calls.trans h.calls, Nat.le_trans h.grow k.grow, Int.le_trans h.steps k.steps⟩
theorem GInv.tick {fuel n : Int} {s : St} (h : GInv fuel s) (hn : 0 ≤ n) (hy : (stepF fuel n s).1 = true) : (stepF fuel n s).2 = { s with steps := s.steps + n } ∧ GInv fuel { s with steps := s.steps + n } := by
  obtain ⟨_, h1, h2⟩ := stepF_yes hy
  have := h.lo
  have := h.many
  have := h.outs
  exact ⟨h2, h.kind, by show 0 ≤ s.steps + n; omega, by show s.steps + n ≤ fuel; omega, by show (memBase s.mem).length ≤ 20 + (s.steps + n).toNat; omega, by show s.out.length ≤ (s.steps + n).toNat; omega, h.calls, h.deep, h.inp, h.mem, h.num⟩
theorem GInv.step1 {fuel : Int} {s : St} (h : GInv fuel s) (hle : s.steps + 1 ≤ fuel) : GInv fuel { s with steps := s.steps + 1 } := by
  have := h.lo
  have := h.many
  have := h.outs
  exact ⟨h.kind, by show 0 ≤ s.steps + 1; omega, hle, by show (memBase s.mem).length ≤ 20 + (s.steps + 1).toNat; omega, by show s.out.length ≤ (s.steps + 1).toNat; omega, h.calls, h.deep, h.inp, h.mem, h.num⟩
end Go.Proofs.YtlenilbkifofjaaDoor
namespace Go.Proofs.YtlenilbkifofjaaDoor
open Go.RowKit

/-- A program as the machine holds it. -/
def ProgAt (w : World) (B : Nat) (P : Value × Value × Value) (p : ProgS) : Prop :=
  SliceAt w B 3 (ObE w B) p.globs P.1 ∧ SliceAt w B 4 (GraphE w B) p.funcs P.2.1 ∧ P.2.2 = .int .i64 p.main ∧ In64 p.main

theorem ProgAt.below {w w' : World} {B : Nat} {P : Value × Value × Value} {p : ProgS} (h : ProgAt w B P p) (hb : Below B w w') : ProgAt w' B P p :=
  ⟨h.1.below hb (Nat.le_refl _) fun _ _ h => h.below hb (Nat.le_refl _), h.2.1.below hb (Nat.le_refl _) fun _ _ h => h.below hb (Nat.le_refl _), h.2.2⟩

/-- What a step keeps. -/
structure Kept (fuel : Int) (s : St) (tp : List V) (lo : List Nat) (ng : Nat) (s' : St) (tp' : List V) : Prop where
  inv : GInv fuel s'
  fr : FrOk (memBase s'.mem) tp' lo ng
  calls : s'.calls = s.calls
  grow : (memBase s.mem).length ≤ (memBase s'.mem).length
  steps : s.steps ≤ s'.steps
  len : tp'.length = tp.length

theorem countsF_append (a b : List ObS) : countsF (a ++ b) = countsF a + countsF b := by
  induction a with
  | nil => simp [countsF]
  | cons o l ih => simp [countsF, ih]; omega
theorem countsF_bd {l : List ObS} (h : ∀ o, o ∈ l → ObOk o) : (l.length : Int) ≤ countsF l ∧ countsF l ≤ 64 * l.length := by
  induction l with
  | nil => simp [countsF]
  | cons o l ih =>
    have h1 := ih fun x hx => h x (List.mem_cons_of_mem _ hx)
    obtain ⟨_, h2, h3, _⟩ := h o (by simp)
    simp only [countsF, List.length_cons]
    omega
theorem makesF_append (M : List MO) (a b : List ObS) : makesF M (a ++ b) = makesF (makesF M a) b := by
  induction a generalizing M with
  | nil => rfl
  | cons o l ih => exact ih _
theorem makeF_length (M : List MO) (o : ObS) : (makeF M o).length = (memBase M).length + 1 := by simp [makeF_eq]
theorem memBase_length (M : List MO) : (memBase M).length = if M = [] then 1 else M.length := by
  unfold memBase; split <;> rfl
theorem makesF_length (M : List MO) (l : List ObS) : (makesF M l).length = if l = [] then M.length else (memBase M).length + l.length := by
  induction l generalizing M with
  | nil => rfl
  | cons o l ih =>
    simp only [makesF, ih]
    have h1 := makeF_length M o
    have h2 : memBase (makeF M o) = makeF M o := by unfold memBase; rw [if_neg (by intro h; rw [h] at h1; simp at h1)]
    rw [h2, h1]
    by_cases h : l = []
    · simp [h]
    · simp [h]; omega
end Go.Proofs.YtlenilbkifofjaaDoor
namespace Go.Proofs.YtlenilbkifofjaaDoor
open Go.RowKit

theorem int_info : (Tryd.prog.info? 3).map (fun i => (i.zero, i.size, i.bytes)) = some (some (.int .i64 0), 1, 8) := by kernel_rfl

theorem memBase_makes (M : List MO) (l : List ObS) : (memBase (makesF M l)).length = (memBase M).length + l.length := by
  have h := makesF_length M l
  by_cases hl : l = []
  · subst hl; rfl
  · rw [if_neg hl] at h
    have hp := memBase_pos M
    rw [memBase_length, if_neg (by intro e; rw [e] at h; simp at h; omega), h]
theorem memBase_makes_take (M : List MO) (l : List ObS) (k : Nat) (hk : k ≤ l.length) : (memBase (makesF M (l.take k))).length = (memBase M).length + k := by rw [memBase_makes, List.length_take, Nat.min_eq_left hk]
theorem numsF_succ (M : List MO) (k : Nat) : numsF M (k + 1) = numsF M k ++ [(memBase M).length + k] := by
  unfold numsF
  rw [List.range_succ, List.map_append, memBase_length]
  rfl
theorem numsF_length (M : List MO) (k : Nat) : (numsF M k).length = k := by simp [numsF]
theorem own_drew0 {w : World} {base : Nat} {e : TypeId} {size : Nat} {v : Value} {n : Nat} {xs : List Value} (h : w.ownsRow base e size v n xs) : w.drew.ownsRow base e size v n xs :=
  ownsRow_wr h (Wr.of_below (F := fun _ => False) (Below.refl _ _).drew) (fun _ _ h => h)
theorem own_one {w : World} {base : Nat} {e : TypeId} {size : Nat} {v : Value} {n : Nat} {xs : List Value} (h : w.ownsRow base e size v n xs) (o : Obj) : (w.alloc o).ownsRow base e size v n xs :=
  ownsRow_wr h (Wr.of_below (F := fun _ => False) (below1 w o)) (fun _ _ h => h)
theorem ValCells.wr1 {F : Nat → Prop} {w w' : World} {b off : Nat} {v : V} (h : ValCells w b off v) (hw : Wr F w w') (hF : ¬ F b) (hlt : b < w.heap.size) : ValCells w' b off v :=
  ⟨(World.cell?_of_block (a := ⟨b, off, none⟩) (hw.block b hlt hF)).trans h.1, (World.cell?_of_block (a := ⟨b, off + 1, none⟩) (hw.block b hlt hF)).trans h.2⟩
theorem ValCells.wr2 {F G : Nat → Prop} {w w1 w2 : World} {b off : Nat} {v : V} (h : ValCells w b off v) (hw : Wr F w w1) (hF : ¬ F b) (hlt : b < w.heap.size) (hw2 : Wr G w1 w2) (hG : ¬ G b) (hlt2 : b < w1.heap.size) : ValCells w2 b off v :=
  (h.wr1 hw hF hlt).wr1 hw2 hG hlt2
theorem start_next {args : List V} {k nt : Nat} {v : V} (hk : k < nt) (hv : args[k]? = some v) (hn : k < args.length) : (args.take k ++ List.replicate (nt - k) (⟨0, 0⟩ : V)).set k v = args.take (k + 1) ++ List.replicate (nt - (k + 1)) (⟨0, 0⟩ : V) := by
  have h1 : (args.take k).length = k := by rw [List.length_take]; omega
  rw [List.take_add_one, hv, List.set_append_right _ _ (by omega), h1, Nat.sub_self]
  rw [show nt - k = (nt - (k + 1)) + 1 by omega, List.replicate_succ]
  simp
theorem cells_new (w : World) (cs : List Value) (t : TypeId) : ∀ (j : Nat) (u : Value), cs[j]? = some u → (w.alloc (.cells cs.toArray t)).cell? ((⟨w.heap.size, 0, none⟩ : Addr).add j) = some u := by
  intro j u hj
  rw [addr0]
  exact (Row.new w cs.toArray t).cell (by simpa using hj)

end Go.Proofs.YtlenilbkifofjaaDoor
namespace Go.Proofs.YtlenilbkifofjaaDoor
open Go.RowKit

theorem TreeAt.shape {w : World} {C : Nat → Nat → Prop} {t : T} {v0 v1 v2 : Value} (h : TreeAt w C t v0 v1 v2) : ∃ a b A n c, v0 = .int .i64 a ∧ v1 = .int .i64 b ∧ v2 = .slice A n c := by
  obtain ⟨op, n, ks⟩ := t
  simp only [TreeAt] at h
  obtain ⟨h0, h1, _, _, _, A, cap, h5, _⟩ := h
  exact ⟨_, _, _, _, _, h0, h1, h5⟩
theorem stepsF_cons_true {R : CallR} {fuel : Int} {lo : List Nat} {s : St} {tp : List V} {x : StepS} {l : List StepS} (h : (doesF R fuel lo s tp x).1 = true) : stepsF R fuel lo s tp (x :: l) = stepsF R fuel lo (doesF R fuel lo s tp x).2.1 (doesF R fuel lo s tp x).2.2 l := by
  simp only [stepsF]
  rcases hd : doesF R fuel lo s tp x with ⟨b, s', tp'⟩
  rw [hd] at h
  simp only at h
  subst h
  rfl
theorem stepsF_cons_false {R : CallR} {fuel : Int} {lo : List Nat} {s : St} {tp : List V} {x : StepS} {l : List StepS} (h : (doesF R fuel lo s tp x).1 = false) : stepsF R fuel lo s tp (x :: l) = (false, (doesF R fuel lo s tp x).2.1, (doesF R fuel lo s tp x).2.2) := by
  simp only [stepsF]
  rcases hd : doesF R fuel lo s tp x with ⟨b, s', tp'⟩
  rw [hd] at h
  simp only at h
  subst h
  rfl
theorem drop_get {α : Type} {l : List α} {j : Nat} {x : α} (h : l[j]? = some x) : l.drop j = x :: l.drop (j + 1) := by
  have hlt : j < l.length := by
    rcases Nat.lt_or_ge j l.length with h' | h'
    · exact h'
    · rw [List.getElem?_eq_none h'] at h; cases h
  rw [List.drop_eq_getElem_cons hlt]
  rw [List.getElem?_eq_getElem hlt] at h
  injection h with h
  rw [h]
theorem blocksF_over {R : CallR} {fuel : Int} {lo : List Nat} {bs : List BlockS} {g k : Nat} {s s' : St} {tp tp' : List V} {b : BlockS} (hb : bs[k]? = some b) (h : blockF R fuel lo s tp b = (.over, s', tp')) : blocksF R fuel lo bs (g + 1) k s tp = (none, s') := by
  simp only [blocksF, Int.toNat_natCast, List.getD_eq_getElem?_getD, hb, Option.getD_some, h]
theorem blocksF_next {R : CallR} {fuel : Int} {lo : List Nat} {bs : List BlockS} {g k : Nat} {k' : Int} {s s' : St} {tp tp' : List V} {b : BlockS} (hb : bs[k]? = some b) (h : blockF R fuel lo s tp b = (.next k', s', tp')) : blocksF R fuel lo bs (g + 1) k s tp = blocksF R fuel lo bs g k' s' tp' := by
  simp only [blocksF, Int.toNat_natCast, List.getD_eq_getElem?_getD, hb, Option.getD_some, h]
theorem blocksF_ret {R : CallR} {fuel : Int} {lo : List Nat} {bs : List BlockS} {g k : Nat} {v : V} {s s' : St} {tp tp' : List V} {b : BlockS} (hb : bs[k]? = some b) (h : blockF R fuel lo s tp b = (.ret v, s', tp')) : blocksF R fuel lo bs (g + 1) k s tp = (some v, { s' with mem := killF s'.mem lo, calls := s'.calls - 1 }) := by
  simp only [blocksF, Int.toNat_natCast, List.getD_eq_getElem?_getD, hb, Option.getD_some, h]
theorem blockF_steps {R : CallR} {fuel : Int} {lo : List Nat} {s s' : St} {tp tp' : List V} {b : BlockS} (h : stepsF R fuel lo s tp b.steps = (false, s', tp')) : blockF R fuel lo s tp b = (.over, s', tp') := by
  simp only [blockF, h]

section
variable {base mc : Nat} {own : Nat → Prop} {P : Value × Value × Value} {fuel d : Int} {ng fb tb nt : Nat} {G : Value × Value × Value × Value} {lv : Value} {lo : List Nat} {gr : Nat} {gc : Array Value} {w wr : World} {own' : Nat → Prop} {st : St} {tp : List V}

end

theorem FrOk.same {M M' : List MO} {tp : List V} {lo : List Nat} {ng : Nat} (h : FrOk M tp lo ng) (e : M' = M) : FrOk M' tp lo ng := e ▸ h
theorem vzero {v : V} (h1 : v.obj = 0) (h2 : v.n = 0) : v = ⟨0, 0⟩ := by
  obtain ⟨a, b⟩ := v
  simp only at h1 h2
  rw [h1, h2]
theorem ownsRow_base {w : World} {base base' : Nat} {e : TypeId} {size : Nat} {v : Value} {n : Nat} {xs : List Value} (h : w.ownsRow base e size v n xs) (hb : base' ≤ base) : w.ownsRow base' e size v n xs := by
  obtain ⟨h1, h2⟩ := h
  refine ⟨h1, ?_⟩
  rcases h2 with h2 | ⟨g, cap, cur, hv, hg, r⟩
  · exact Or.inl h2
  · exact Or.inr ⟨g, cap, cur, hv, Nat.le_trans hb hg, r⟩
end Go.Proofs.YtlenilbkifofjaaDoor
namespace Go.Proofs.YtlenilbkifofjaaDoor
open Go.RowKit

def dead (o : MO) : MO := { o with live := false }

theorem killF_snoc (M : List MO) (l : List Nat) (x : Nat) : killF M (l ++ [x]) = (killF M l).modify x dead := by
  induction l generalizing M with
  | nil => rfl
  | cons a l ih => exact ih _
theorem killF_length (M : List MO) (l : List Nat) : (killF M l).length = M.length := by
  induction l generalizing M with
  | nil => rfl
  | cons a l ih => simp [killF, ih]

theorem modify_get {M : List MO} {j k : Nat} {o : MO} {f : MO → MO} (h : (M.modify j f)[k]? = some o) : ∃ o0, M[k]? = some o0 ∧ o = if j = k then f o0 else o0 := by
  rw [List.getElem?_modify] at h
  cases h0 : M[k]? with
  | none => rw [h0] at h; simp at h
  | some o0 =>
    rw [h0] at h
    refine ⟨o0, rfl, ?_⟩
    simp at h
    split at h <;> simp_all

theorem MemOk.kill {M : List MO} (h : MemOk M) (j : Nat) : MemOk (M.modify j dead) := by
  refine ⟨by simpa using h.many, fun o ho => ?_, fun k o hk ho => ?_, fun o ho v hv => ?_⟩
  · obtain ⟨o0, h0, rfl⟩ := modify_get ho
    have := h.zero o0 h0
    subst this
    split <;> rfl
  · obtain ⟨o0, h0, rfl⟩ := modify_get ho
    have := h.size k o0 hk h0
    split
    · exact this
    · exact this
  · obtain ⟨k, hk⟩ := List.mem_iff_getElem?.1 ho
    obtain ⟨o0, h0, rfl⟩ := modify_get hk
    rw [List.length_modify]
    refine h.vals o0 (List.mem_of_getElem? h0) v ?_
    split at hv
    · exact hv
    · exact hv

theorem ObjIn.kill {xs : List Value} {rb : Nat → Nat} {j k : Nat} {o : MO} (h : ObjIn xs rb k o) (hl : k * 3 + 2 < xs.length) : ObjIn (xs.set (j * 3 + 2) (.bool false)) rb k (if j = k then dead o else o) := by
  obtain ⟨h0, h1, h2⟩ := h
  unfold ObjIn
  rw [List.getElem?_set_ne (by omega), List.getElem?_set_ne (by omega)]
  by_cases e : j = k
  · subst e
    rw [if_pos rfl, List.getElem?_set_self hl]
    exact ⟨h0, h1, rfl⟩
  · rw [if_neg e, List.getElem?_set_ne (by omega)]
    exact ⟨h0, h1, h2⟩

end Go.Proofs.YtlenilbkifofjaaDoor
namespace Go.Proofs.YtlenilbkifofjaaDoor
open Go.RowKit

theorem NumOk.nil : NumOk [] := fun o h => by simp at h
theorem NumOk.make {M : List MO} (h : NumOk M) (o : ObS) : NumOk (makeF M o) := by
  intro x hx hs v hv
  unfold makeF at hx
  rw [List.mem_append] at hx
  rcases hx with hx | hx
  · split at hx
    · simp at hx; subst hx; simp at hv
    · exact h x hx hs v hv
  · simp at hx
    subst hx
    unfold fillF at hv
    simp only [List.mem_map] at hv
    obtain ⟨i, _, rfl⟩ := hv
    rfl
theorem NumOk.makes {M : List MO} (h : NumOk M) : ∀ (l : List ObS), NumOk (makesF M l)
  | [] => h
  | o :: l => (h.make o).makes l
theorem mem_modify {M : List MO} {k : Nat} {f : MO → MO} {x : MO} (h : x ∈ M.modify k f) : x ∈ M ∨ ∃ o, M[k]? = some o ∧ x = f o := by
  obtain ⟨i, hi⟩ := List.getElem?_of_mem h
  obtain ⟨o0, h1, h2⟩ := modify_get hi
  by_cases hki : k = i
  · rw [if_pos hki] at h2
    exact Or.inr ⟨o0, hki ▸ h1, h2⟩
  · rw [if_neg hki] at h2
    exact Or.inl (h2 ▸ List.mem_of_getElem? h1)
theorem NumOk.kill1 {M : List MO} (h : NumOk M) (k : Nat) : NumOk (M.modify k dead) := by
  intro x hx hs v hv
  rcases mem_modify hx with hx | ⟨o, ho, rfl⟩
  · exact h x hx hs v hv
  · exact h o (List.mem_of_getElem? ho) hs v hv
theorem NumOk.kills {M : List MO} (h : NumOk M) : ∀ (l : List Nat), NumOk (killF M l)
  | [] => h
  | k :: l => (h.kill1 k).kills l
theorem NumOk.store {M M' : List MO} (h : NumOk M) {size : Int} {a x : V} (hs : storeF M size a x = some M') (h0 : 0 ≤ size) : NumOk M' := by
  unfold storeF at hs
  cases ha : atF M a size.toNat with
  | none => rw [ha] at hs; simp at hs
  | some j =>
    rw [ha] at hs
    simp only at hs
    split at hs
    · cases hs
    · rename_i hn
      simp only [Option.some.injEq] at hs
      subst hs
      have hsz : (mget M a.obj).size = size := by
        unfold atF at ha
        split at ha
        · rename_i h1; have := h1.2.2.1; omega
        · cases ha
      intro o ho hso v hv
      rcases mem_modify ho with ho | ⟨o0, ho0, rfl⟩
      · exact h o ho hso v hv
      · have hmg : mget M a.obj = o0 := by unfold mget; rw [List.getD_eq_getElem?_getD, ho0]; rfl
        simp only at hso hv
        rw [hmg] at hsz
        rcases List.mem_or_eq_of_mem_set hv with hv | hv
        · exact h o0 (List.mem_of_getElem? ho0) hso v hv
        · have hx : x.obj = 0 := by
            rcases Nat.eq_zero_or_pos x.obj with h1 | h1
            · exact h1
            · exact absurd ⟨h1, by omega⟩ hn
          rw [if_pos hx] at hv
          rw [hv]
theorem loadF_num {M : List MO} (h : NumOk M) {op : Int} {a : V} (h5 : 5 ≤ op) (h11 : op ≤ 11) {j : Nat} (ha : atF M a (sizeL op) = some j) (hl : j < (mget M a.obj).l.length) (hm : a.obj < M.length) :
    loadF M op a = some (if op = 8 then (mget M a.obj).l.getD j ⟨0, 0⟩ else ⟨0, loadedF op ((mget M a.obj).l.getD j ⟨0, 0⟩).n⟩) := by
  unfold loadF
  rw [ha]
  have hmem : (mget M a.obj) ∈ M := List.mem_of_getElem? (mget_of hm)
  have hv : (mget M a.obj).l.getD j ⟨0, 0⟩ ∈ (mget M a.obj).l := by rw [List.getD_eq_getElem?_getD, List.getElem?_eq_getElem hl]; exact List.getElem_mem _
  by_cases h8 : op = 8
  · subst h8
    simp only [if_true]
    split
    · rfl
    · rename_i h0
      have h0' : ((mget M a.obj).l.getD j ⟨0, 0⟩).obj = 0 := by omega
      have e : loadedF 8 ((mget M a.obj).l.getD j ⟨0, 0⟩).n = ((mget M a.obj).l.getD j ⟨0, 0⟩).n := by unfold loadedF; rw [if_pos rfl]
      rw [e]
      congr 1
      generalize (mget M a.obj).l.getD j ⟨0, 0⟩ = v at h0'
      cases v
      simp_all
  · have hsz : (mget M a.obj).size ≠ 8 := by
      unfold atF at ha
      split at ha
      · rename_i h1
        have h2 := h1.2.2.1
        unfold sizeL at h2
        intro h3
        rw [h3] at h2
        split at h2
        · omega
        · split at h2
          · omega
          · split at h2 <;> omega
      · cases ha
    have h0 := h _ hmem hsz _ hv
    simp only
    rw [if_neg (by omega), if_neg h8]
end Go.Proofs.YtlenilbkifofjaaDoor
namespace Go.Proofs.YtlenilbkifofjaaDoor
open Go.RowKit

theorem storeF_base (M : List MO) (size : Int) (a x : V) : storeF (memBase M) size a x = (storeF M size a x).map memBase := by
  by_cases hM : M = []
  · subst hM
    have e : ∀ s, atF [] a s = none := by
      intro s
      unfold atF
      rw [if_neg]
      rintro ⟨_, h, _⟩
      simp [mget] at h
    unfold storeF
    rw [atF_base, e]
    rfl
  · have hb : memBase M = M := by unfold memBase; rw [if_neg hM]
    have hp : 0 < M.length := by cases M with | nil => exact absurd rfl hM | cons a l => simp
    rw [hb]
    unfold storeF
    split
    · rfl
    · split
      · rfl
      · simp only [Option.map_some, Option.some.injEq]
        exact (memBase_of (by simpa using hp)).symm
theorem makeF_base (M : List MO) (o : ObS) : makeF (memBase M) o = makeF M o := by rw [makeF_eq, makeF_eq, memBase_twice]
theorem makeF_based (M : List MO) (o : ObS) : memBase (makeF M o) = makeF M o := memBase_of (by simp [makeF_eq])
theorem makesF_base (M : List MO) (l : List ObS) : makesF (memBase M) l = memBase (makesF M l) := by
  cases l with
  | nil => rfl
  | cons o l =>
    have key : ∀ (l : List ObS) (N : List MO), 0 < N.length → 0 < (makesF N l).length := by
      intro l
      induction l with
      | nil => intro N h; exact h
      | cons o l ih => intro N h; exact ih _ (by simp [makeF_eq])
    show makesF (makeF (memBase M) o) l = memBase (makesF (makeF M o) l)
    rw [makeF_base, memBase_of (key l _ (by simp [makeF_eq]))]
theorem killF_base (M : List MO) (lo : List Nat) : killF (memBase M) lo = memBase (killF M lo) := by
  by_cases hM : M = []
  · subst hM
    have h1 : ∀ lo, killF ([] : List MO) lo = [] := by
      intro lo
      induction lo with
      | nil => rfl
      | cons a l ih =>
        rw [killF]
        have : ([] : List MO).modify a (fun o => { o with live := false }) = [] := by cases a <;> rfl
        rw [this]
        exact ih
    have h2 : ∀ lo, killF [⟨0, [], false⟩] lo = [⟨0, [], false⟩] := by
      intro lo
      induction lo with
      | nil => rfl
      | cons a l ih =>
        rw [killF]
        have : ([⟨0, [], false⟩] : List MO).modify a (fun o => { o with live := false }) = [⟨0, [], false⟩] := by
          cases a with
          | zero => rfl
          | succ n => simp [List.modify_succ_cons]
        rw [this]
        exact ih
    rw [h1]
    exact h2 lo
  · have hb : memBase M = M := by unfold memBase; rw [if_neg hM]
    have hp : 0 < M.length := by cases M with | nil => exact absurd rfl hM | cons a l => simp
    rw [hb, memBase_of (by rw [killF_length]; exact hp)]
theorem numsF_base (M : List MO) (n : Nat) : numsF (memBase M) n = numsF M n := by
  unfold numsF
  have h := memBase_pos M
  rw [if_neg (by intro h'; rw [h'] at h; simp at h), memBase_length]
theorem NumOk.base {M : List MO} (h : NumOk M) : NumOk (memBase M) := by
  unfold memBase
  split
  · intro o ho hs v hv
    simp at ho
    subst ho
    simp at hv
  · exact h
end Go.Proofs.YtlenilbkifofjaaDoor
