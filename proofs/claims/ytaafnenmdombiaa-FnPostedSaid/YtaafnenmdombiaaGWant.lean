/- Contracts of WantOf and Address, of the program and of the reference. No condition but that the argument lies in memory. -/
import Derived.Test.YtaafnenmdombiaaGRead
namespace Go.Proofs.Ytaafnenmdombiaa
open Go.RowKit
end Go.Proofs.Ytaafnenmdombiaa
