/- Contract of SameGuest, of the reference. No condition but that the arguments lie in memory. -/
import Derived.Test.YtaafnenmdombiaaGreatSamh
namespace Go.Proofs.YtaafnenmdombiaaGreat
open Go.RowKit
end Go.Proofs.YtaafnenmdombiaaGreat
