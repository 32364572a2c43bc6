/- Contracts of the copying functions: copyProg, copyTable, copyInts, copyGuest (program) and l15Copy (reference): the result is in memory of its own and reads as the argument. -/
import Derived.Test.YtaafnenmdombiaaGreatWp
import Derived.Test.YtaafnenmdombiaaGreatProg
import Derived.Outline
import Derived.OwnWalk
import Derived.KernelRfl
namespace Go.Proofs.YtaafnenmdombiaaGreat
open Go.RowKit


theorem info_ins : (Tryz.prog.info? 45).map (fun i => (i.zero, i.size, i.bytes)) = some (some (.agg #[.int .i64 0, .int .i64 0]), 2, 16) := by kernel_rfl
theorem info_slot : (Tryz.prog.info? 56).map (fun i => (i.zero, i.size, i.bytes)) = some (some (.agg #[.int .i64 0, .int .i64 0]), 2, 16) := by kernel_rfl
theorem info_int : (Tryz.prog.info? 3).map (fun i => (i.zero, i.size, i.bytes)) = some (some (.int .i64 0), 1, 8) := by kernel_rfl
theorem eIns : EInfo Tryz.prog Ins.cells 2 16 45 46 :=
  ⟨Tryz.underlying46, by obtain ⟨i, h1, h2, h3, h4⟩ := info_parts info_ins; exact ⟨i, _, h1, h2, h3, h4, rfl⟩, by decide, ins_len, by intro x u hu; simp [Ins.cells] at hu; rcases hu with rfl | rfl <;> rfl⟩
theorem eSlot : EInfo Tryz.prog Slot.cells 2 16 56 49 :=
  ⟨Tryz.underlying49, by obtain ⟨i, h1, h2, h3, h4⟩ := info_parts info_slot; exact ⟨i, _, h1, h2, h3, h4, rfl⟩, by decide, slot_len, by intro x u hu; simp [Slot.cells] at hu; rcases hu with rfl | rfl <;> rfl⟩
theorem eInt : EInfo Tryz.prog icell 1 8 3 26 :=
  ⟨Tryz.underlying26, by obtain ⟨i, h1, h2, h3, h4⟩ := info_parts info_int; exact ⟨i, _, h1, h2, h3, h4, rfl⟩, by decide, int_len, by intro x u hu; simp [icell] at hu; subst hu; rfl⟩

/-! ### a field of a struct that is a value -/
@[go_sem] theorem run_field_ins0 (a b : Value) (w : World) : (Instr.field 45 (.agg #[a, b]) 0).run Tryz.prog w = .ok a w := by kernel_rfl
@[go_sem] theorem run_field_ins1 (a b : Value) (w : World) : (Instr.field 45 (.agg #[a, b]) 1).run Tryz.prog w = .ok b w := by kernel_rfl
@[go_sem] theorem run_field_slot0 (a b : Value) (w : World) : (Instr.field 56 (.agg #[a, b]) 0).run Tryz.prog w = .ok a w := by kernel_rfl
@[go_sem] theorem run_field_slot1 (a b : Value) (w : World) : (Instr.field 56 (.agg #[a, b]) 1).run Tryz.prog w = .ok b w := by kernel_rfl

/-- The length that a walk bears. -/
abbrev big : Nat := 4194304


set_option maxHeartbeats 400000 in
theorem copyProg_any (s : Sl Ins) (w : World) (hs : Rd Ins.cells 2 w s) (hl : s.xs.length ≤ big) :
    Calls Tryz.prog 198 #[.slice s.A s.xs.length s.c] w fun e w' => ∃ d : Sl Ins, e = .returned d.val ∧ d.xs = s.xs ∧ Own Ins.cells 2 45 w' w.heap.size d ∧ Below w.heap.size w w' := by
  unfold big at hl
  have h1 : s.xs.length ≤ maxLen := by unfold maxLen; omega
  go_enter Tryz.func198, Tryz.ntmps198
  go_wp2_with (at_builtin; refine wpList_append_Sl _ eIns rfl _ _ rfl w.heap.size ⟨some ⟨w.heap.size, 0, none⟩, 0, []⟩ rfl (own_nothing _ (Nat.le_refl _)) s rfl (hs.below ((Below.refl _ _).alloc (Nat.le_refl _) _) (Nat.le_refl _)) (by simpa using h1) (by simp; omega) (by simp) ?_; intro d w' hx ho hg hat)
  go_ret
  exact ⟨d, rfl, by simpa using hx.out, ho, ((Below.refl _ _).alloc (Nat.le_refl _) _).grown hg (by simp) (by simp [Sl.blk])⟩

set_option maxHeartbeats 400000 in
theorem copyTable_any (s : Sl Slot) (w : World) (hs : Rd Slot.cells 2 w s) (hl : s.xs.length ≤ big) :
    Calls Tryz.prog 194 #[.slice s.A s.xs.length s.c] w fun e w' => ∃ d : Sl Slot, e = .returned d.val ∧ d.xs = s.xs ∧ Own Slot.cells 2 56 w' w.heap.size d ∧ Below w.heap.size w w' := by
  unfold big at hl
  have h1 : s.xs.length ≤ maxLen := by unfold maxLen; omega
  go_enter Tryz.func194, Tryz.ntmps194
  go_wp2_with (at_builtin; refine wpList_append_Sl _ eSlot rfl _ _ rfl w.heap.size ⟨some ⟨w.heap.size, 0, none⟩, 0, []⟩ rfl (own_nothing _ (Nat.le_refl _)) s rfl (hs.below ((Below.refl _ _).alloc (Nat.le_refl _) _) (Nat.le_refl _)) (by simpa using h1) (by simp; omega) (by simp) ?_; intro d w' hx ho hg hat)
  go_ret
  exact ⟨d, rfl, by simpa using hx.out, ho, ((Below.refl _ _).alloc (Nat.le_refl _) _).grown hg (by simp) (by simp [Sl.blk])⟩

set_option maxHeartbeats 400000 in
theorem copyInts_any (s : Sl Int) (w : World) (hs : Rd icell 1 w s) (hl : s.xs.length ≤ big) :
    Calls Tryz.prog 186 #[.slice s.A s.xs.length s.c] w fun e w' => ∃ d : Sl Int, e = .returned d.val ∧ d.xs = s.xs ∧ Own icell 1 3 w' w.heap.size d ∧ Below w.heap.size w w' := by
  unfold big at hl
  have h1 : s.xs.length ≤ maxLen := by unfold maxLen; omega
  go_enter Tryz.func186, Tryz.ntmps186
  go_wp2_with (at_builtin; refine wpList_append_Sl _ eInt rfl _ _ rfl w.heap.size ⟨some ⟨w.heap.size, 0, none⟩, 0, []⟩ rfl (own_nothing _ (Nat.le_refl _)) s rfl (hs.below ((Below.refl _ _).alloc (Nat.le_refl _) _) (Nat.le_refl _)) (by simpa using h1) (by simp; omega) (by simp) ?_; intro d w' hx ho hg hat)
  go_ret
  exact ⟨d, rfl, by simpa using hx.out, ho, ((Below.refl _ _).alloc (Nat.le_refl _) _).grown hg (by simp) (by simp [Sl.blk])⟩


def GBig (g : GV) : Prop := g.prog.xs.length ≤ big ∧ g.written.xs.length ≤ big ∧ g.live.xs.length ≤ big ∧ g.seen.xs.length ≤ big

end Go.Proofs.YtaafnenmdombiaaGreat
