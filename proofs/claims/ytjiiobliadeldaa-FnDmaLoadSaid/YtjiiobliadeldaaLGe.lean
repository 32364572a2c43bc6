/- Contracts of the law's own helpers on flat slices: to, eq, mark, held, sz at instructions, slots and integers. -/
import Derived.Test.YtjiiobliadeldaaCopy
import Derived.Test.YtjiiobliadeldaaIrq
import Derived.Deep.RegionHeld3
import Derived.Deep.DrawnRows
namespace Go.Proofs.Ytjiiobliadeldaa
open Go.RowKit
attribute [local go_sem ↓] Go.wp_at_zero Go.wp_at_succ
def szM (left : Int) (n : Nat) : Int := if left - n < 0 then -1 else left - n

theorem list_eqIns {xs ys : List Ins} {k : Nat} (h : xs.take k = ys.take k) {x y : Ins} (hx : xs[k]? = some x) (hy : ys[k]? = some y) (hxy : x = y) : xs.take (k + 1) = ys.take (k + 1) := by
  rw [List.take_add_one, List.take_add_one, h, hx, hy, hxy]
theorem list_neIns {xs ys : List Ins} {k : Nat} {x y : Ins} (hx : xs[k]? = some x) (hy : ys[k]? = some y) (hxy : x ≠ y) : false = (xs == ys) := by
  symm
  rw [beq_eq_false_iff_ne]
  rintro rfl
  rw [hx] at hy; injection hy with hy; exact hxy hy
theorem list_eqSlot {xs ys : List Slot} {k : Nat} (h : xs.take k = ys.take k) {x y : Slot} (hx : xs[k]? = some x) (hy : ys[k]? = some y) (hxy : x = y) : xs.take (k + 1) = ys.take (k + 1) := by
  rw [List.take_add_one, List.take_add_one, h, hx, hy, hxy]
theorem list_neSlot {xs ys : List Slot} {k : Nat} {x y : Slot} (hx : xs[k]? = some x) (hy : ys[k]? = some y) (hxy : x ≠ y) : false = (xs == ys) := by
  symm
  rw [beq_eq_false_iff_ne]
  rintro rfl
  rw [hx] at hy; injection hy with hy; exact hxy hy
theorem list_eqInt {xs ys : List Int} {k : Nat} (h : xs.take k = ys.take k) {x y : Int} (hx : xs[k]? = some x) (hy : ys[k]? = some y) (hxy : x = y) : xs.take (k + 1) = ys.take (k + 1) := by
  rw [List.take_add_one, List.take_add_one, h, hx, hy, hxy]
theorem list_neInt {xs ys : List Int} {k : Nat} {x y : Int} (hx : xs[k]? = some x) (hy : ys[k]? = some y) (hxy : x ≠ y) : false = (xs == ys) := by
  symm
  rw [beq_eq_false_iff_ne]
  rintro rfl
  rw [hx] at hy; injection hy with hy; exact hxy hy
end Go.Proofs.Ytjiiobliadeldaa

/- Contracts of the law's own helpers on flat slices: mark and held at instructions, slots and integers. -/
namespace Go.Proofs.Ytjiiobliadeldaa
open Go.RowKit
attribute [local go_sem ↓] Go.wp_at_zero Go.wp_at_succ

def marksIns (k : Int) (n : Nat) : List Ins := (List.range n).map fun (i : Nat) => ⟨k + 2 * i, k + 2 * i + 1⟩
theorem marksIns_len (k : Int) (n : Nat) : (marksIns k n).length = n := by simp [marksIns]
theorem marksIns_get (k : Int) (n i : Nat) (h : i < n) : (marksIns k n)[i]? = some ⟨k + 2 * i, k + 2 * i + 1⟩ := by simp [marksIns, h]

def marksSlot (k : Int) (n : Nat) : List Slot := (List.range n).map fun (i : Nat) => ⟨k + 2 * i, k + 2 * i + 1⟩
theorem marksSlot_len (k : Int) (n : Nat) : (marksSlot k n).length = n := by simp [marksSlot]
theorem marksSlot_get (k : Int) (n i : Nat) (h : i < n) : (marksSlot k n)[i]? = some ⟨k + 2 * i, k + 2 * i + 1⟩ := by simp [marksSlot, h]

def marksInt (k : Int) (n : Nat) : List Int := (List.range n).map fun (i : Nat) => k + i
theorem marksInt_len (k : Int) (n : Nat) : (marksInt k n).length = n := by simp [marksInt]
theorem marksInt_get (k : Int) (n i : Nat) (h : i < n) : (marksInt k n)[i]? = some (k + i) := by simp [marksInt, h]

end Go.Proofs.Ytjiiobliadeldaa

/- Contracts of the law's own helpers on guests: to, eq, mark, held, sz. -/
namespace Go.Proofs.Ytjiiobliadeldaa
open Go.RowKit
end Go.Proofs.Ytjiiobliadeldaa

/- Contracts of the law's own helpers on guests: eq, mark, held, sz. -/
namespace Go.Proofs.Ytjiiobliadeldaa
open Go.RowKit
theorem meq (g h : GV) : (g.m == h.m) = ((g.prog.xs == h.prog.xs) && (g.a == h.a) && (g.pc == h.pc) && (g.written.xs == h.written.xs) && (g.live.xs == h.live.xs) && (g.ctl == h.ctl) && (g.pending == h.pending) && (g.exit == h.exit) && (g.halted == h.halted) && (g.seen.xs == h.seen.xs)) := by
  rw [Bool.eq_iff_iff]
  simp only [GV.m, beq_iff_eq, Bool.and_eq_true, MG.mk.injEq]
  constructor
  · rintro ⟨h1, h2, h3, h4, h5, h6, h7, h8, h9, h10⟩; exact ⟨⟨⟨⟨⟨⟨⟨⟨⟨h1, h2⟩, h3⟩, h4⟩, h5⟩, h6⟩, h7⟩, h8⟩, h9⟩, h10⟩
  · rintro ⟨⟨⟨⟨⟨⟨⟨⟨⟨h1, h2⟩, h3⟩, h4⟩, h5⟩, h6⟩, h7⟩, h8⟩, h9⟩, h10⟩; exact ⟨h1, h2, h3, h4, h5, h6, h7, h8, h9, h10⟩
/-- The lengths that szGuest lets by. -/
def szG (left : Int) (g : MG) : Int :=
  if szM left g.prog.length < 0 then -1 else if szM (szM left g.prog.length) g.written.length < 0 then -1 else if szM (szM (szM left g.prog.length) g.written.length) g.live.length < 0 then -1
  else if szM (szM (szM (szM left g.prog.length) g.written.length) g.live.length) g.seen.length < 0 then -1 else szM (szM (szM (szM left g.prog.length) g.written.length) g.live.length) g.seen.length
theorem szM_le (left : Int) (n : Nat) (h : ¬ szM left n < 0) : 0 ≤ szM left n ∧ szM left n + n = left := by unfold szM at *; split at h <;> simp_all <;> omega
theorem szG_fit (left : Int) (g : MG) (h : ¬ szG left g < 0) : 0 ≤ szG left g ∧ szG left g + g.prog.length + g.written.length + g.live.length + g.seen.length = left := by
  unfold szG at h ⊢
  split at h
  · omega
  rename_i h1
  split at h
  · omega
  rename_i h2
  split at h
  · omega
  rename_i h3
  split at h
  · omega
  rename_i h4
  have a1 := szM_le _ _ h1
  have a2 := szM_le _ _ h2
  have a3 := szM_le _ _ h3
  have a4 := szM_le _ _ h4
  rw [if_neg h1, if_neg h2, if_neg h3, if_neg h4]
  omega
def GWide (g : GV) : Prop := g.prog.xs.length ≤ maxLen ∧ g.written.xs.length ≤ maxLen ∧ g.live.xs.length ≤ maxLen ∧ g.seen.xs.length ≤ maxLen
end Go.Proofs.Ytjiiobliadeldaa
