/- The laws' own makers, sizes and comparisons on bare machines. No condition but that the arguments lie in memory. -/
import Derived.Test.YtedjbholpdinkaaBq
namespace Go.Proofs.Ytedjbholpdinkaa
set_option linter.unusedSimpArgs false
set_option linter.unusedVariables false
open Go.RowKit
structure BWide (B : BV) : Prop where
  mem : B.mem.xs.length ≤ maxLen
  memi : ∀ s ∈ B.mem.xs, s.xs.length ≤ maxLen
  gs : B.gs.xs.length ≤ maxLen
  gsi : ∀ g ∈ B.gs.xs, GWide g
  outs : B.outs.xs.length ≤ maxLen
theorem rowsSize_of (s : Sl (Sl Int)) : s.xs.length + (s.xs.map (fun x => x.xs.length)).sum = rowsSize (memOf s) := by simp [rowsSize, memOf, List.map_map, Function.comp_def]
theorem gsSize_of (s : Sl GV) : s.xs.length + (s.xs.map (fun x => x.m.size)).sum = gsSize (gsOf s) := by simp [gsSize, gsOf, List.map_map, Function.comp_def]
theorem szM_split {left : Int} {a b c : Nat} (h : left - a < 0) : szM left (a + b + c) = -1 := szM_neg (by omega)
theorem meqB (B C : BV) : (B.m == C.m) = ((B.mem.xs.map (fun x => x.xs) == C.mem.xs.map (fun x => x.xs)) && (B.gs.xs.map (fun x => x.m) == C.gs.xs.map (fun x => x.m)) && (B.outs.xs == C.outs.xs) && (B.pend == C.pend)) := by
  rw [Bool.eq_iff_iff]
  simp [BV.m, memOf, gsOf, and_assoc]
end Go.Proofs.Ytedjbholpdinkaa
