/- The page's memory: whether two places may be compared. Conditions: as stated. -/
import Derived.Test.YtinmgbodgecoeaaMemAtZz
import Derived.Deep.RegionWith
set_option linter.unusedVariables false
set_option linter.unusedSimpArgs false
namespace Go.Proofs.Ytinmgbodgecoeaa
open Go.RowKit

end Go.Proofs.Ytinmgbodgecoeaa
