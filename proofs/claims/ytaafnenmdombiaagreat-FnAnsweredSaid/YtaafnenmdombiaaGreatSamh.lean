/- Contract of SameGuest, of the program and of the reference. No condition but that the arguments lie in memory. -/
import Derived.Test.YtaafnenmdombiaaGreatBb
import Derived.Test.YtaafnenmdombiaaGreatLGe
namespace Go.Proofs.YtaafnenmdombiaaGreat
open Go.RowKit
theorem ctl_beq (c d : Ctl) : (c == d) = ((c.traps == d.traps) && (c.post == d.post) && (c.opn == d.opn)) := by
  rw [Bool.eq_iff_iff]; obtain ⟨a1, a2, a3⟩ := c; obtain ⟨b1, b2, b3⟩ := d; simp [and_assoc]
theorem exit_beq (c d : Exit) : (c == d) = ((c.kind == d.kind) && (c.page == d.page) && (c.write == d.write) && (c.n == d.n)) := by
  rw [Bool.eq_iff_iff]; obtain ⟨a1, a2, a3, a4⟩ := c; obtain ⟨b1, b2, b3, b4⟩ := d; simp [and_assoc]
end Go.Proofs.YtaafnenmdombiaaGreat
