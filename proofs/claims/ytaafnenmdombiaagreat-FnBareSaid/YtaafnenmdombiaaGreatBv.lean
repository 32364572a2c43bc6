/- Contracts of BareRead, of the program and of the reference. No condition but that the arguments lie in memory. -/
import Derived.Test.YtaafnenmdombiaaGreatBu
namespace Go.Proofs.YtaafnenmdombiaaGreat
set_option linter.unusedSimpArgs false
set_option linter.unusedVariables false
open Go.RowKit
section
variable {P : Program} {ops : Array Oper} {S : World → Prop} {o : Oper} {a : Act} {w0 w : World} {L L' : List En} {α : Type} {enc : α → List Value} {sz e : Nat}
end
end Go.Proofs.YtaafnenmdombiaaGreat
