/- The page's memory: a number as it is stored; an op of values. Conditions: as stated. -/
import Derived.Test.YtinmgbodgecoeaaMemBinZz
import Derived.Handy
set_option linter.unusedVariables false
set_option linter.unusedSimpArgs false
namespace Go.Proofs.Ytinmgbodgecoeaa
open Go.RowKit

/-- A number as it is stored in so many bytes. -/
def storedF (s : Nat) (n : Int) : Int := if s = 8 then n else cutN (8 * s) true n

/-- An op of values that are ready. -/
def applyF (M : List MO) (op : Int) (l : List V) : Option V :=
  if 5 ≤ op ∧ op ≤ 11 then loadF M op (l.getD 0 ⟨0, 0⟩)
  else if 31 ≤ op ∧ op ≤ 36 then if (l.getD 0 ⟨0, 0⟩).obj = 0 then some ⟨0, unR op (l.getD 0 ⟨0, 0⟩).n⟩ else none
  else binF twoR M op (l.getD 0 ⟨0, 0⟩) (l.getD 1 ⟨0, 0⟩)

theorem below_two {B b : Nat} {w w1 : World} (h : Below B w w1) (hb : B ≤ b) (u v : Value) : Below B w ((w1.setCell ⟨b, 0, none⟩ u).setCell ⟨b, 1, none⟩ v) :=
  Below.setCell (p := ⟨b, 1, none⟩) (Below.setCell (p := ⟨b, 0, none⟩) h hb u) hb v

/-- A value that may be, in a memory of so many objects. -/
def VOk (n : Nat) (v : V) : Prop := v.obj < n ∧ (v.obj ≠ 0 → 0 ≤ v.n ∧ v.n ≤ 512) ∧ In64 v.n
/-- The same, where there may be none. -/
def VOkW (n : Nat) (v : V) : Prop := (v.obj ≠ 0 → v.obj < n) ∧ (v.obj ≠ 0 → 0 ≤ v.n ∧ v.n ≤ 512) ∧ In64 v.n
theorem VOk.weak {n : Nat} {v : V} (h : VOk n v) : VOkW n v := ⟨fun _ => h.1, h.2⟩

/-- An answer of a value and a bool, the value told only where the bool is true. -/
def AnsV (r : Option V) (e : Ending) : Prop := match r with
  | some v => e = .returned (ansV (some v))
  | none => ∃ x y : Int, e = .returned (.tuple #[.agg #[.int .i64 x, .int .i64 y], .bool false])

theorem AnsV.of {r : Option V} {e : Ending} (h : e = .returned (ansV r)) : AnsV r e := by
  cases r with
  | none => exact ⟨0, 0, h⟩
  | some v => exact h

end Go.Proofs.Ytinmgbodgecoeaa
