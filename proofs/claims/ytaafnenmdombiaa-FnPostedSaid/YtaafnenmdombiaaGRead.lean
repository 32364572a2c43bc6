/- Contracts of the functions that only look at a guest, of the program and of the reference: CanRun, TakesIrq, InsAt, WantOf, Address. No condition but that the argument lies in memory. -/
import Derived.Test.YtaafnenmdombiaaCopy
import Derived.Test.YtaafnenmdombiaaIrq
namespace Go.Proofs.Ytaafnenmdombiaa
open Go.RowKit

/-- Whether k is an index of a list of n. -/
def hasB (k : Int) (n : Int) : Bool := decide (0 ≤ k) && decide (k < n)
theorem has_any (x a : Int) (w : World) : Calls Try.prog 30 #[.int .i64 x, .int .i64 a] w fun e w' => e = .returned (.bool (hasB x a)) ∧ w = w' := by
  go_enter Try.func30, Try.ntmps30
  go_wp2
  all_goals (go_ret; refine ⟨?_, rfl⟩; simp [hasB, *])
  all_goals omega

end Go.Proofs.Ytaafnenmdombiaa
