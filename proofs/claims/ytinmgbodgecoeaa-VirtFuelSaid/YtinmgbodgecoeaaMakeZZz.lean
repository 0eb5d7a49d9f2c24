/- The page's memory: its first object is made. Conditions: as stated. -/
import Derived.Test.YtinmgbodgecoeaaMakeZz
set_option linter.unusedVariables false
set_option linter.unusedSimpArgs false
namespace Go.Proofs.Ytinmgbodgecoeaa
open Go.RowKit
attribute [local go_sem ↓] Go.wp_at_zero Go.wp_at_succ

end Go.Proofs.Ytinmgbodgecoeaa
