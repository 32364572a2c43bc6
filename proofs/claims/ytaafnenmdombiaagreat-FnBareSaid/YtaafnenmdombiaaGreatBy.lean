/- Contracts of PostIrq and of the program's ways to change a guest of a bare machine. No condition but that the arguments lie in memory. -/
import Derived.Test.YtaafnenmdombiaaGreatBv
namespace Go.Proofs.YtaafnenmdombiaaGreat
set_option linter.unusedSimpArgs false
set_option linter.unusedVariables false
open Go.RowKit
section
variable {P : Program} {ops : Array Oper} {rest : List Oper} {S : World → Prop} {o : Oper} {a : Act} {w0 w : World} {L L' : List En} {Q : Go.Exit → Act → World → Prop} {K : Act → World → Prop}
theorem Rw.at_ {b e : Nat} {cs : Array Value} (h : Rw w0 b e cs) (H : Hp w0 w L) : Rw w b e cs := h.keep (H.below.block b h.lt)
end
end Go.Proofs.YtaafnenmdombiaaGreat
