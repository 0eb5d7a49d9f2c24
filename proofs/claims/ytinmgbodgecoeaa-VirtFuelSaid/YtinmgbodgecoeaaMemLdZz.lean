/- The page's memory: loads. Conditions: as stated. -/
import Derived.Test.YtinmgbodgecoeaaMemAtZz
import Derived.Test.YtinmgbodgecoeaaRefNumZz
import Derived.Deep.RegionWith
set_option linter.unusedVariables false
set_option linter.unusedSimpArgs false
namespace Go.Proofs.Ytinmgbodgecoeaa
open Go.RowKit

/-- A load's bytes. -/
def sizeL (op : Int) : Nat := if op = 5 ∨ op = 9 then 1 else if op = 6 ∨ op = 10 then 2 else if op = 7 ∨ op = 11 then 4 else 8
/-- A number that is loaded. -/
def loadedF (op n : Int) : Int := if op = 8 then n else cutN (8 * sizeL op) (decide (op ≤ 8)) n

theorem loads_seven {op : Int} (h0 : 5 ≤ op) (h1 : op ≤ 11) : op = 5 ∨ op = 6 ∨ op = 7 ∨ op = 8 ∨ op = 9 ∨ op = 10 ∨ op = 11 := by omega

theorem sizeL_bd (op : Int) : 1 ≤ sizeL op ∧ sizeL op ≤ 8 := by unfold sizeL; (repeat' split) <;> omega

/-- A load. -/
def loadF (M : List MO) (op : Int) (a : V) : Option V :=
  match atF M a (sizeL op) with
  | none => none
  | some j =>
    let v := (mget M a.obj).l.getD j ⟨0, 0⟩
    if 0 < v.obj then if op = 8 then some v else none else some ⟨0, loadedF op v.n⟩

end Go.Proofs.Ytinmgbodgecoeaa
