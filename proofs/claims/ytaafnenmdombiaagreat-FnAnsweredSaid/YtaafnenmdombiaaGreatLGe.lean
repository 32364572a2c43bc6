/- Contracts of the law's own helpers on flat slices: to, eq, mark, held, sz at instructions, slots and integers. -/
import Derived.Test.YtaafnenmdombiaaGreatCopy
import Derived.Test.YtaafnenmdombiaaGreatIrq
import Derived.Deep.RegionHeld3
import Derived.Deep.DrawnRows
namespace Go.Proofs.YtaafnenmdombiaaGreat
open Go.RowKit
attribute [local go_sem ↓] Go.wp_at_zero Go.wp_at_succ
theorem list_eqIns {xs ys : List Ins} {k : Nat} (h : xs.take k = ys.take k) {x y : Ins} (hx : xs[k]? = some x) (hy : ys[k]? = some y) (hxy : x = y) : xs.take (k + 1) = ys.take (k + 1) := by
  rw [List.take_add_one, List.take_add_one, h, hx, hy, hxy]
theorem list_neIns {xs ys : List Ins} {k : Nat} {x y : Ins} (hx : xs[k]? = some x) (hy : ys[k]? = some y) (hxy : x ≠ y) : false = (xs == ys) := by
  symm
  rw [beq_eq_false_iff_ne]
  rintro rfl
  rw [hx] at hy; injection hy with hy; exact hxy hy
theorem list_eqSlot {xs ys : List Slot} {k : Nat} (h : xs.take k = ys.take k) {x y : Slot} (hx : xs[k]? = some x) (hy : ys[k]? = some y) (hxy : x = y) : xs.take (k + 1) = ys.take (k + 1) := by
  rw [List.take_add_one, List.take_add_one, h, hx, hy, hxy]
theorem list_neSlot {xs ys : List Slot} {k : Nat} {x y : Slot} (hx : xs[k]? = some x) (hy : ys[k]? = some y) (hxy : x ≠ y) : false = (xs == ys) := by
  symm
  rw [beq_eq_false_iff_ne]
  rintro rfl
  rw [hx] at hy; injection hy with hy; exact hxy hy
theorem list_eqInt {xs ys : List Int} {k : Nat} (h : xs.take k = ys.take k) {x y : Int} (hx : xs[k]? = some x) (hy : ys[k]? = some y) (hxy : x = y) : xs.take (k + 1) = ys.take (k + 1) := by
  rw [List.take_add_one, List.take_add_one, h, hx, hy, hxy]
theorem list_neInt {xs ys : List Int} {k : Nat} {x y : Int} (hx : xs[k]? = some x) (hy : ys[k]? = some y) (hxy : x ≠ y) : false = (xs == ys) := by
  symm
  rw [beq_eq_false_iff_ne]
  rintro rfl
  rw [hx] at hy; injection hy with hy; exact hxy hy
end Go.Proofs.YtaafnenmdombiaaGreat

/- Contracts of the law's own helpers on flat slices: mark and held at instructions, slots and integers. -/
namespace Go.Proofs.YtaafnenmdombiaaGreat
open Go.RowKit
attribute [local go_sem ↓] Go.wp_at_zero Go.wp_at_succ

end Go.Proofs.YtaafnenmdombiaaGreat

/- Contracts of the law's own helpers on guests: to, eq, mark, held, sz. -/
namespace Go.Proofs.YtaafnenmdombiaaGreat
open Go.RowKit
end Go.Proofs.YtaafnenmdombiaaGreat

/- Contracts of the law's own helpers on guests: eq, mark, held, sz. -/
namespace Go.Proofs.YtaafnenmdombiaaGreat
open Go.RowKit
theorem meq (g h : GV) : (g.m == h.m) = ((g.prog.xs == h.prog.xs) && (g.a == h.a) && (g.pc == h.pc) && (g.written.xs == h.written.xs) && (g.live.xs == h.live.xs) && (g.ctl == h.ctl) && (g.pending == h.pending) && (g.exit == h.exit) && (g.halted == h.halted) && (g.seen.xs == h.seen.xs)) := by
  rw [Bool.eq_iff_iff]
  simp only [GV.m, beq_iff_eq, Bool.and_eq_true, MG.mk.injEq]
  constructor
  · rintro ⟨h1, h2, h3, h4, h5, h6, h7, h8, h9, h10⟩; exact ⟨⟨⟨⟨⟨⟨⟨⟨⟨h1, h2⟩, h3⟩, h4⟩, h5⟩, h6⟩, h7⟩, h8⟩, h9⟩, h10⟩
  · rintro ⟨⟨⟨⟨⟨⟨⟨⟨⟨h1, h2⟩, h3⟩, h4⟩, h5⟩, h6⟩, h7⟩, h8⟩, h9⟩, h10⟩; exact ⟨h1, h2, h3, h4, h5, h6, h7, h8, h9, h10⟩
def GWide (g : GV) : Prop := g.prog.xs.length ≤ maxLen ∧ g.written.xs.length ≤ maxLen ∧ g.live.xs.length ≤ maxLen ∧ g.seen.xs.length ≤ maxLen
end Go.Proofs.YtaafnenmdombiaaGreat
