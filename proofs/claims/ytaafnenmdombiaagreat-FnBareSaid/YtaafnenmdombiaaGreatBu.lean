/- Contracts of the walk through an inner table, and of BareRead and BarePoke, of the program and of the reference. No condition but that the arguments lie in memory. -/
import Derived.Test.YtaafnenmdombiaaGreatBt
import Derived.Test.YtaafnenmdombiaaGreatBo
namespace Go.Proofs.YtaafnenmdombiaaGreat
set_option linter.unusedSimpArgs false
set_option linter.unusedVariables false
open Go.RowKit
end Go.Proofs.YtaafnenmdombiaaGreat
