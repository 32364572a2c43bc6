/- Contracts of the copying functions: copyProg, copyTable, copyInts, copyGuest (program) and l15Copy (reference): the result is in memory of its own and reads as the argument. -/
import Derived.Test.YtjiiobliadeldaaWp
import Derived.Test.YtjiiobliadeldaaProg
import Derived.Outline
import Derived.OwnWalk
import Derived.KernelRfl
namespace Go.Proofs.Ytjiiobliadeldaa
open Go.RowKit


theorem info_ins : (Try.prog.info? 34).map (fun i => (i.zero, i.size, i.bytes)) = some (some (.agg #[.int .i64 0, .int .i64 0]), 2, 16) := by kernel_rfl
theorem info_slot : (Try.prog.info? 27).map (fun i => (i.zero, i.size, i.bytes)) = some (some (.agg #[.int .i64 0, .int .i64 0]), 2, 16) := by kernel_rfl
theorem info_int : (Try.prog.info? 3).map (fun i => (i.zero, i.size, i.bytes)) = some (some (.int .i64 0), 1, 8) := by kernel_rfl
theorem eIns : EInfo Try.prog Ins.cells 2 16 34 35 :=
  ⟨Try.underlying35, by obtain ⟨i, h1, h2, h3, h4⟩ := info_parts info_ins; exact ⟨i, _, h1, h2, h3, h4, rfl⟩, by decide, ins_len, by intro x u hu; simp [Ins.cells] at hu; rcases hu with rfl | rfl <;> rfl⟩
theorem eSlot : EInfo Try.prog Slot.cells 2 16 27 42 :=
  ⟨Try.underlying42, by obtain ⟨i, h1, h2, h3, h4⟩ := info_parts info_slot; exact ⟨i, _, h1, h2, h3, h4, rfl⟩, by decide, slot_len, by intro x u hu; simp [Slot.cells] at hu; rcases hu with rfl | rfl <;> rfl⟩
theorem eInt : EInfo Try.prog icell 1 8 3 24 :=
  ⟨Try.underlying24, by obtain ⟨i, h1, h2, h3, h4⟩ := info_parts info_int; exact ⟨i, _, h1, h2, h3, h4, rfl⟩, by decide, int_len, by intro x u hu; simp [icell] at hu; subst hu; rfl⟩

/-! ### a field of a struct that is a value -/
@[go_sem] theorem run_field_ins0 (a b : Value) (w : World) : (Instr.field 34 (.agg #[a, b]) 0).run Try.prog w = .ok a w := by kernel_rfl
@[go_sem] theorem run_field_ins1 (a b : Value) (w : World) : (Instr.field 34 (.agg #[a, b]) 1).run Try.prog w = .ok b w := by kernel_rfl
@[go_sem] theorem run_field_slot0 (a b : Value) (w : World) : (Instr.field 27 (.agg #[a, b]) 0).run Try.prog w = .ok a w := by kernel_rfl
@[go_sem] theorem run_field_slot1 (a b : Value) (w : World) : (Instr.field 27 (.agg #[a, b]) 1).run Try.prog w = .ok b w := by kernel_rfl

/-- The length that a walk bears. -/
abbrev big : Nat := 4194304


set_option maxHeartbeats 400000 in
theorem copyProg_any (s : Sl Ins) (w : World) (hs : Rd Ins.cells 2 w s) (hl : s.xs.length ≤ big) :
    Calls Try.prog 106 #[.slice s.A s.xs.length s.c] w fun e w' => ∃ d : Sl Ins, e = .returned d.val ∧ d.xs = s.xs ∧ Own Ins.cells 2 34 w' w.heap.size d ∧ Below w.heap.size w w' := by
  unfold big at hl
  have h1 : s.xs.length ≤ maxLen := by unfold maxLen; omega
  go_enter Try.func106, Try.ntmps106
  go_wp2_with (at_builtin; refine wpList_append_Sl _ eIns rfl _ _ rfl w.heap.size ⟨some ⟨w.heap.size, 0, none⟩, 0, []⟩ rfl (own_nothing _ (Nat.le_refl _)) s rfl (hs.below ((Below.refl _ _).alloc (Nat.le_refl _) _) (Nat.le_refl _)) (by simpa using h1) (by simp; omega) (by simp) ?_; intro d w' hx ho hg hat)
  go_ret
  exact ⟨d, rfl, by simpa using hx.out, ho, ((Below.refl _ _).alloc (Nat.le_refl _) _).grown hg (by simp) (by simp [Sl.blk])⟩

set_option maxHeartbeats 400000 in
theorem copyTable_any (s : Sl Slot) (w : World) (hs : Rd Slot.cells 2 w s) (hl : s.xs.length ≤ big) :
    Calls Try.prog 87 #[.slice s.A s.xs.length s.c] w fun e w' => ∃ d : Sl Slot, e = .returned d.val ∧ d.xs = s.xs ∧ Own Slot.cells 2 27 w' w.heap.size d ∧ Below w.heap.size w w' := by
  unfold big at hl
  have h1 : s.xs.length ≤ maxLen := by unfold maxLen; omega
  go_enter Try.func87, Try.ntmps87
  go_wp2_with (at_builtin; refine wpList_append_Sl _ eSlot rfl _ _ rfl w.heap.size ⟨some ⟨w.heap.size, 0, none⟩, 0, []⟩ rfl (own_nothing _ (Nat.le_refl _)) s rfl (hs.below ((Below.refl _ _).alloc (Nat.le_refl _) _) (Nat.le_refl _)) (by simpa using h1) (by simp; omega) (by simp) ?_; intro d w' hx ho hg hat)
  go_ret
  exact ⟨d, rfl, by simpa using hx.out, ho, ((Below.refl _ _).alloc (Nat.le_refl _) _).grown hg (by simp) (by simp [Sl.blk])⟩

set_option maxHeartbeats 400000 in
theorem copyInts_any (s : Sl Int) (w : World) (hs : Rd icell 1 w s) (hl : s.xs.length ≤ big) :
    Calls Try.prog 98 #[.slice s.A s.xs.length s.c] w fun e w' => ∃ d : Sl Int, e = .returned d.val ∧ d.xs = s.xs ∧ Own icell 1 3 w' w.heap.size d ∧ Below w.heap.size w w' := by
  unfold big at hl
  have h1 : s.xs.length ≤ maxLen := by unfold maxLen; omega
  go_enter Try.func98, Try.ntmps98
  go_wp2_with (at_builtin; refine wpList_append_Sl _ eInt rfl _ _ rfl w.heap.size ⟨some ⟨w.heap.size, 0, none⟩, 0, []⟩ rfl (own_nothing _ (Nat.le_refl _)) s rfl (hs.below ((Below.refl _ _).alloc (Nat.le_refl _) _) (Nat.le_refl _)) (by simpa using h1) (by simp; omega) (by simp) ?_; intro d w' hx ho hg hat)
  go_ret
  exact ⟨d, rfl, by simpa using hx.out, ho, ((Below.refl _ _).alloc (Nat.le_refl _) _).grown hg (by simp) (by simp [Sl.blk])⟩


def GBig (g : GV) : Prop := g.prog.xs.length ≤ big ∧ g.written.xs.length ≤ big ∧ g.live.xs.length ≤ big ∧ g.seen.xs.length ≤ big

/-- What a later call leaves of what an earlier one made. -/
theorem GOwn.of4 {w : World} {lo n1 n2 n3 : Nat} {g : GV} (hp : Own Ins.cells 2 34 w lo g.prog) (hw : Own Slot.cells 2 27 w n1 g.written) (hl : Own Slot.cells 2 27 w n2 g.live) (hs : Own icell 1 3 w n3 g.seen)
    (b1 : ∀ x, g.prog.blk = some x → x < n1) (b2 : ∀ x, g.written.blk = some x → x < n2) (b3 : ∀ x, g.live.blk = some x → x < n3) (h1 : lo ≤ n1) (h2 : n1 ≤ n2) (h3 : n2 ≤ n3) : GOwn w lo g :=
  ⟨hp, hw.mono h1, hl.mono (by omega), hs.mono (by omega), nd4 n1 n2 n3 b1 (fun x hx => ⟨(hw.blk_lt hx).1, b2 x hx⟩) (fun x hx => ⟨(hl.blk_lt hx).1, b3 x hx⟩) (fun x hx => (hs.blk_lt hx).1) h2 h3⟩

set_option maxHeartbeats 1000000 in
theorem copyGuest_any (g : GV) (w : World) (hg : GRd w g) (hz : GBig g) :
    Calls Try.prog 90 #[g.val] w fun e w' => ∃ d : GV, e = .returned d.val ∧ d.m = g.m ∧ GOwn w' w.heap.size d ∧ Below w.heap.size w w' := by
  have HG := Lib.hid hg
  have HZ := Lib.hid hz
  clear hg hz
  go_enter Try.func90, Try.ntmps90
  go_wp2_with fail
  go_at_call 106
  refine (copyProg_any g.prog _ (HG.out.prog.below (((Below.refl _ _).alloc (Nat.le_refl _) _).alloc (by simp) _) (Nat.le_refl _)) HZ.out.1).mono ?_
  rintro e w1 ⟨p1, rfl, hp1, ho1, hb1⟩
  have HP1 := Lib.hid hp1; clear hp1
  have b1 : Bx w1 w.heap.size (garr g) := ((Bx.new w _ _).alloc _).below hb1 (by (try simp) <;> omega)
  have c1 : Bx w1 (w.heap.size + 1) (garr gzero) := ((Bx.new (w.alloc _) _ _).at_ (by simp)).below hb1 (by (try simp) <;> omega)
  have B1 : Below w.heap.size w w1 := (((Below.refl _ _).alloc (Nat.le_refl _) _).alloc (by simp) _).trans (hb1.mono (by (try simp) <;> omega))
  have S1 : w.heap.size + 2 ≤ w1.heap.size := by have := hb1.size; simpa using this
  have O1 := ho1.mono (lo' := w.heap.size + 2) (by (try simp) <;> omega)
  clear hb1 ho1
  have bc := b1.c; have bf := b1.f; have cc := c1.c; have cf := c1.f
  go_wp2_with fail
  clear bc bf cc cf
  go_at_call 87
  refine (copyTable_any g.written _ (HG.out.written.below (B1.setCell (by simp) _) (Nat.le_refl _)) HZ.out.2.1).mono ?_
  rintro e w2 ⟨p2, rfl, hp2, ho2, hb2⟩
  have HP2 := Lib.hid hp2; clear hp2
  have b2 : Bx w2 w.heap.size (garr { g with prog := p1 }) := (b1.set_ 0 _).below hb2 (by (try simp) <;> omega)
  have c2 : Bx w2 (w.heap.size + 1) (garr gzero) := (c1.far (by simp) _).below hb2 (by (try simp) <;> omega)
  have B2 : Below w.heap.size w w2 := (B1.setCell (by simp) _).trans (hb2.mono (by (try simp) <;> omega))
  have S2 : w1.heap.size ≤ w2.heap.size := by have := hb2.size; simpa using this
  have K2 : Keeps (w.heap.size + 2) w1.heap.size w1 w2 := ((Keeps.refl _ _ _).setCell (by simp) _).below hb2 (by simp)
  have O2 := ho2.mono (lo' := w1.heap.size) (by simp)
  clear hb2 ho2 b1 c1
  have bc := b2.c; have bf := b2.f; have cc := c2.c; have cf := c2.f
  go_wp2_with fail
  clear bc bf cc cf
  go_at_call 87
  refine (copyTable_any g.live _ (HG.out.live.below (B2.setCell (by simp) _) (Nat.le_refl _)) HZ.out.2.2.1).mono ?_
  rintro e w3 ⟨p3, rfl, hp3, ho3, hb3⟩
  have HP3 := Lib.hid hp3; clear hp3
  have b3 : Bx w3 w.heap.size (garr { g with prog := p1, written := p2 }) := (b2.set_ 3 _).below hb3 (by (try simp) <;> omega)
  have c3 : Bx w3 (w.heap.size + 1) (garr gzero) := (c2.far (by simp) _).below hb3 (by (try simp) <;> omega)
  have B3 : Below w.heap.size w w3 := (B2.setCell (by simp) _).trans (hb3.mono (by (try simp) <;> omega))
  have S3 : w2.heap.size ≤ w3.heap.size := by have := hb3.size; simpa using this
  have K3 : Keeps (w.heap.size + 2) w2.heap.size w2 w3 := ((Keeps.refl _ _ _).setCell (by simp) _).below hb3 (by simp)
  have O3 := ho3.mono (lo' := w2.heap.size) (by simp)
  clear hb3 ho3 b2 c2
  have bc := b3.c; have bf := b3.f; have cc := c3.c; have cf := c3.f
  go_wp2_with fail
  clear bc bf cc cf
  go_at_call 98
  refine (copyInts_any g.seen _ (HG.out.seen.below (B3.setCell (by simp) _) (Nat.le_refl _)) HZ.out.2.2.2).mono ?_
  rintro e w4 ⟨p4, rfl, hp4, ho4, hb4⟩
  have HP4 := Lib.hid hp4; clear hp4
  have b4 : Bx w4 w.heap.size (garr { g with prog := p1, written := p2, live := p3 }) := (b3.set_ 4 _).below hb4 (by (try simp) <;> omega)
  have c4 : Bx w4 (w.heap.size + 1) (garr gzero) := (c3.far (by simp) _).below hb4 (by (try simp) <;> omega)
  have B4 : Below w.heap.size w w4 := (B3.setCell (by simp) _).trans (hb4.mono (by (try simp) <;> omega))
  have S4 : w3.heap.size ≤ w4.heap.size := by have := hb4.size; simpa using this
  have K4 : Keeps (w.heap.size + 2) w3.heap.size w3 w4 := ((Keeps.refl _ _ _).setCell (by simp) _).below hb4 (by simp)
  have O4 := ho4.mono (lo' := w3.heap.size) (by simp)
  clear hb4 ho4 b3 c3
  have bc := b4.c; have bf := b4.f; have cc := c4.c; have cf := c4.f
  go_wp2_with (refine wpList_store_all rfl 48 _ _ rfl (w.heap.size + 1) (garr gzero) (garr { g with prog := p1, written := p2, live := p3, seen := p4 }) rfl rfl (c4.far (by simp) _) rfl (by kernel_rfl) (garr_one _) ?_; intro w5 c5 o5)
  have K5 : Keeps (w.heap.size + 2) w4.heap.size w4 w5 := ((Keeps.refl _ _ _).setCell (by simp) _).only o5 (by simp)
  have B5 : Below w.heap.size w w5 := only_below (B4.setCell (by simp) _) o5 (by simp)
  refine bodyPost_ret (results_all rfl _ _ (w.heap.size + 1) _ _ rfl c5 Try.underlying48 rfl (by kernel_rfl)) rfl ⟨{ g with prog := p1, written := p2, live := p3, seen := p4 }, rfl, ?_, ?_, B5⟩
  · simp only [GV.m, HP1.out, HP2.out, HP3.out, HP4.out]
  · have O1' := O1.keep (((K2.trans (K3.sub (by simp) S2)).trans (K4.sub (by simp) (by omega))).trans (K5.sub (by simp) (by omega)))
    have O2' := O2.keep (((K3.sub (by omega) (by simp)).trans (K4.sub (by omega) (by omega))).trans (K5.sub (by omega) (by omega)))
    have O3' := O3.keep ((K4.sub (by omega) (by omega)).trans (K5.sub (by omega) (by omega)))
    have O4' := O4.keep (K5.sub (by omega) (by omega))
    exact (GOwn.of4 O1' O2' O3' O4' (fun x hx => (O1.blk_lt hx).2) (fun x hx => (O2.blk_lt hx).2) (fun x hx => (O3.blk_lt hx).2) (by omega) (by omega) (by omega)).mono (by omega)
end Go.Proofs.Ytjiiobliadeldaa
