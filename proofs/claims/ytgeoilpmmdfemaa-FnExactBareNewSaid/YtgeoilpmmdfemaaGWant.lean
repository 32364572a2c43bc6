/- Contracts of WantOf and Address, of the program and of the reference. No condition but that the argument lies in memory. -/
import Derived.Test.YtgeoilpmmdfemaaGRead
namespace Go.Proofs.Ytgeoilpmmdfemaa
open Go.RowKit
theorem wantM_eq (g : GV) : wantM g.m = (if canRunM g.m then (if takesM g.m then 1 else
    if (insAtM g.prog.xs g.pc).op == 3 then 3 else if (insAtM g.prog.xs g.pc).op == 4 then 4 else if (insAtM g.prog.xs g.pc).op == 5 then 5 else if (insAtM g.prog.xs g.pc).op == 6 then 6 else if (insAtM g.prog.xs g.pc).op == 7 then 7 else 2) else 0) := rfl
theorem addrM_eq (g : GV) : addrM g.m = (if wantM g.m == 3 || wantM g.m == 4 then (insAtM g.prog.xs g.pc).x else -1) := rfl
end Go.Proofs.Ytgeoilpmmdfemaa
