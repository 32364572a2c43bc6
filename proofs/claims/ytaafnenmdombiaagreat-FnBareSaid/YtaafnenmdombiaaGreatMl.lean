/- Contracts of Interrupted and Plainly, of the program and of the reference. No condition but that the argument lies in memory. -/
import Derived.Test.YtaafnenmdombiaaGreatMk
namespace Go.Proofs.YtaafnenmdombiaaGreat
open Go.RowKit
end Go.Proofs.YtaafnenmdombiaaGreat
