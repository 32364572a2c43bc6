/- Contracts of GuestAt, ExitOf and SeenOf, of the program and of the reference. No condition but that the arguments lie in memory. -/
import Derived.Test.YtaafnenmdombiaaBb
namespace Go.Proofs.Ytaafnenmdombiaa
set_option linter.unusedSimpArgs false
set_option linter.unusedVariables false
open Go.RowKit
def zeroMG : MG := ⟨[], 0, 0, [], [], ⟨0, 0, false⟩, 0, ⟨0, 0, false, 0⟩, false, []⟩
def hasM (m : MB) (g : Int) : Bool := hasB g m.guests.length
def gAtM (m : MB) (g : Int) : MG := if hasM m g then (m.guests[g.toNat]?).getD zeroMG else zeroMG
theorem Hp.gzero {w0 w : World} {L : List En} (H : Hp w0 w L) : Hp w0 w [.gst gzero] := by
  refine ⟨H.below, ?_, by simp [En.gst, GV.blks, Sl.blk, gzero], by simp [En.gst, GV.blks, Sl.blk, gzero]⟩
  intro e he
  rw [List.mem_singleton] at he
  subst he
  exact ⟨Own.none_ _, Own.none_ _, Own.none_ _, Own.none_ _, by simp [GV.blks, Sl.blk, gzero]⟩
theorem gAtM_hit {B : BV} {k : Nat} {y : GV} (hy : B.gs.xs[k]? = some y) : gAtM B.m k = y.m ∧ hasM B.m k = true := by
  have hk : k < B.gs.xs.length := (List.getElem?_eq_some_iff.1 hy).1
  have h1 : hasM B.m k = true := by simp [hasM, hasB, BV.m, gsOf, hk]
  refine ⟨?_, h1⟩
  unfold gAtM
  rw [if_pos h1]
  simp [BV.m, gsOf, hy]
end Go.Proofs.Ytaafnenmdombiaa
