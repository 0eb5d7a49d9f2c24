/- The page's memory: an op of two values. Conditions: as stated. -/
import Derived.Test.YtinmgbodgecoeaaMemCmpZz
import Derived.Test.YtinmgbodgecoeaaMemLdZz
set_option linter.unusedVariables false
set_option linter.unusedSimpArgs false
namespace Go.Proofs.Ytinmgbodgecoeaa
open Go.RowKit

theorem tru_in (t : Bool) : -9223372036854775808 ≤ tru t ∧ tru t ≤ 9223372036854775807 := by cases t <;> decide

theorem V.same {a b : V} (h : a.obj = b.obj) : b = ⟨a.obj, b.n⟩ := by cases a; cases b; simp_all
end Go.Proofs.Ytinmgbodgecoeaa
