/- The page's memory: an object is made. Conditions: as stated. -/
import Derived.Test.YtinmgbodgecoeaaQ02Zz
import Derived.Deep.RegionHeld3
import Derived.Deep.AppendLies
import Derived.Deep.RegionLaw
import Derived.Deep.DrawnRows
set_option linter.unusedVariables false
set_option linter.unusedSimpArgs false
namespace Go.Proofs.Ytinmgbodgecoeaa
open Go.RowKit
attribute [local go_sem ↓] Go.wp_at_zero Go.wp_at_succ

theorem set_same {cs : Array Value} {j : Nat} {v : Value} (h : cs[j]? = some v) : cs.setIfInBounds j v = cs := by
  apply Array.ext_getElem?
  intro i
  by_cases e : j = i
  · subst e
    rw [Array.getElem?_setIfInBounds_self, h]
    have : j < cs.size := by
      rcases Nat.lt_or_ge j cs.size with h' | h'
      · exact h'
      · rw [Array.getElem?_eq_none h'] at h; cases h
    simp [this]
  · rw [Array.getElem?_setIfInBounds_ne e]

theorem lt_of_get {cs : Array Value} {j : Nat} {v : Value} (h : cs[j]? = some v) : j < cs.size := by
  rcases Nat.lt_or_ge j cs.size with h' | h'
  · exact h'
  · rw [Array.getElem?_eq_none h'] at h; cases h
theorem own_drew {w : World} {base : Nat} {e : TypeId} {size : Nat} {v : Value} {n : Nat} {xs : List Value} (h : w.ownsRow base e size v n xs) (o : Obj) : (w.alloc o).drew.ownsRow base e size v n xs :=
  ownsRow_wr h (Wr.of_below (F := fun _ => False) (below1 w o).drew) (fun _ _ h => h)
theorem row_cells (w : World) (cs : List Value) (t : TypeId) (r : Nat) (hr : r = w.heap.size) : ∀ (j : Nat) (u : Value), cs[j]? = some u → (w.alloc (.cells cs.toArray t)).drew.cell? ((⟨r, 0, none⟩ : Addr).add j) = some u := by
  subst hr
  intro j u hj
  rw [addr0]
  exact (Row.new w cs.toArray t).drew.cell (by simpa using hj)
theorem row_cells1 (w : World) (cs : List Value) (t : TypeId) (r : Nat) (hr : r = w.heap.size) : ∀ (j : Nat) (u : Value), cs[j]? = some u → (w.alloc (.cells cs.toArray t)).cell? ((⟨r, 0, none⟩ : Addr).add j) = some u := row_cells w cs t r hr
theorem own_two' {w : World} {base : Nat} {e : TypeId} {size : Nat} {v : Value} {n : Nat} {xs : List Value} (h : w.ownsRow base e size v n xs) (o o' : Obj) : ((w.alloc o).alloc o').ownsRow base e size v n xs :=
  ownsRow_wr h (Wr.of_below (F := fun _ => False) (below2 w o o')) (fun _ _ h => h)
theorem obj_one (a : Int) (v : Option Addr) (n m : Nat) (b : Bool) : ∀ u : Value, u ∈ [Value.int .i64 a, .slice v n m, .bool b] → u.oneCell' = true := by
  intro u hu
  simp at hu
  rcases hu with rfl | rfl | rfl <;> rfl

end Go.Proofs.Ytinmgbodgecoeaa
