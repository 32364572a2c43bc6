/- Contracts of the law's own helpers on guests: mark and held. -/
import Derived.Test.YthpoieoaaikpmaaGreatLGe
namespace Go.Proofs.YthpoieoaaikpmaaGreat
open Go.RowKit
/-- The guest whose lists markGuest has written over, from k on. -/
def GV.marked (g : GV) (k : Int) : GV := { g with
  prog := ⟨g.prog.A, g.prog.c, marksIns k g.prog.xs.length⟩
  written := ⟨g.written.A, g.written.c, marksSlot (k + 2 * g.prog.xs.length) g.written.xs.length⟩
  live := ⟨g.live.A, g.live.c, marksSlot (k + 2 * g.prog.xs.length + 2 * g.written.xs.length) g.live.xs.length⟩
  seen := ⟨g.seen.A, g.seen.c, marksInt (k + 2 * g.prog.xs.length + 2 * g.written.xs.length + 2 * g.live.xs.length) g.seen.xs.length⟩ }
def GV.markEnd (g : GV) (k : Int) : Int := k + 2 * g.prog.xs.length + 2 * g.written.xs.length + 2 * g.live.xs.length + 1 * g.seen.xs.length
theorem GV.marked_blks (g : GV) (k : Int) : (g.marked k).blks = g.blks := rfl
theorem GOwn.apart {w : World} {lo : Nat} {g : GV} (h : GOwn w lo g) : (∀ x, g.prog.blk = some x → ∀ y, g.written.blk = some y → x ≠ y) ∧ (∀ x, g.prog.blk = some x → ∀ y, g.live.blk = some y → x ≠ y) ∧ (∀ x, g.prog.blk = some x → ∀ y, g.seen.blk = some y → x ≠ y) ∧
    (∀ x, g.written.blk = some x → ∀ y, g.live.blk = some y → x ≠ y) ∧ (∀ x, g.written.blk = some x → ∀ y, g.seen.blk = some y → x ≠ y) ∧ (∀ x, g.live.blk = some x → ∀ y, g.seen.blk = some y → x ≠ y) := by
  have h := h.nd
  unfold GV.blks at h
  simp only [List.nodup_append, List.mem_append, Option.mem_toList] at h
  obtain ⟨⟨⟨_, _, h1⟩, _, h2⟩, _, h3⟩ := h
  exact ⟨fun x hx y hy => h1 x hx y hy, fun x hx y hy => h2 x (.inl hx) y hy, fun x hx y hy => h3 x (.inl (.inl hx)) y hy, fun x hx y hy => h2 x (.inr hx) y hy, fun x hx y hy => h3 x (.inl (.inr hx)) y hy, fun x hx y hy => h3 x (.inr hx) y hy⟩
theorem notin_lo {w : World} {lo b : Nat} {g : GV} (h : GOwn w lo g) (hb : b < lo) : b ∉ g.blks := fun hm => by have := (h.blk_lt hm).1; omega
theorem notin_hi {w : World} {lo : Nat} {g : GV} (h : GOwn w lo g) : w.heap.size ∉ g.blks := fun hm => by have := (h.blk_lt hm).2; omega
theorem notin_blk {α : Type} {s : Sl α} {g : Nat} (h : ∀ y, s.blk = some y → g ≠ y) : g ∉ s.blk.toList := fun hm => h g (by simpa using hm) rfl
end Go.Proofs.YthpoieoaaikpmaaGreat
