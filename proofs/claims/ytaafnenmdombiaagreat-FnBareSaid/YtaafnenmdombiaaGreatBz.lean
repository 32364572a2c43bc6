/- Contracts of BareCtl and BareInject, of the program and of the reference. No condition but that the arguments lie in memory. -/
import Derived.Test.YtaafnenmdombiaaGreatBy
namespace Go.Proofs.YtaafnenmdombiaaGreat
set_option linter.unusedSimpArgs false
set_option linter.unusedVariables false
open Go.RowKit
section
variable {w0 w : World} {L : List En} {l l1 l2 : List GV} {k : Nat} {y : GV}
end
end Go.Proofs.YtaafnenmdombiaaGreat
