/- Laws over a guest whose functions give back a bool or an integer. -/
import Derived.Test.YtedjbholpdinkaaLGm
import Derived.Test.YtedjbholpdinkaaGWant
import Derived.Deep.RegionHeld3
import Derived.Deep.DrawnRows
import Derived.WalkSpells
namespace Go.Proofs.Ytedjbholpdinkaa
open Go.RowKit
attribute [local go_sem ↓] Go.wp_at_zero Go.wp_at_succ
theorem gbig_of {g d : GV} (h : GBig g) (e : d.m = g.m) : GBig d := by
  simp only [GV.m, MG.mk.injEq] at e
  unfold GBig at *
  rw [e.1, e.2.2.2.1, e.2.2.2.2.1, e.2.2.2.2.2.2.2.2.2]
  exact h

end Go.Proofs.Ytedjbholpdinkaa
