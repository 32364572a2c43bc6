/- Contracts of the law's own helpers on guests: mark and held. -/
import Derived.Test.YtedjbholpdinkaaLGe
namespace Go.Proofs.Ytedjbholpdinkaa
open Go.RowKit
/-- The guest whose lists markGuest has written over, from k on. -/
def GV.marked (g : GV) (k : Int) : GV := { g with
  prog := ⟨g.prog.A, g.prog.c, marksIns k g.prog.xs.length⟩
  written := ⟨g.written.A, g.written.c, marksSlot (k + 2 * g.prog.xs.length) g.written.xs.length⟩
  live := ⟨g.live.A, g.live.c, marksSlot (k + 2 * g.prog.xs.length + 2 * g.written.xs.length) g.live.xs.length⟩
  seen := ⟨g.seen.A, g.seen.c, marksInt (k + 2 * g.prog.xs.length + 2 * g.written.xs.length + 2 * g.live.xs.length) g.seen.xs.length⟩ }
def GV.markEnd (g : GV) (k : Int) : Int := k + 2 * g.prog.xs.length + 2 * g.written.xs.length + 2 * g.live.xs.length + 1 * g.seen.xs.length
theorem GV.marked_blks (g : GV) (k : Int) : (g.marked k).blks = g.blks := rfl
theorem GOwn.apart {w : World} {lo : Nat} {g : GV} (h : GOwn w lo g) : (∀ x, g.prog.blk = some x → ∀ y, g.written.blk = some y → x ≠ y) ∧ (∀ x, g.prog.blk = some x → ∀ y, g.live.blk = some y → x ≠ y) ∧ (∀ x, g.prog.blk = some x → ∀ y, g.seen.blk = some y → x ≠ y) ∧
    (∀ x, g.written.blk = some x → ∀ y, g.live.blk = some y → x ≠ y) ∧ (∀ x, g.written.blk = some x → ∀ y, g.seen.blk = some y → x ≠ y) ∧ (∀ x, g.live.blk = some x → ∀ y, g.seen.blk = some y → x ≠ y) := by
  have h := h.nd
  unfold GV.blks at h
  simp only [List.nodup_append, List.mem_append, Option.mem_toList] at h
  obtain ⟨⟨⟨_, _, h1⟩, _, h2⟩, _, h3⟩ := h
  exact ⟨fun x hx y hy => h1 x hx y hy, fun x hx y hy => h2 x (.inl hx) y hy, fun x hx y hy => h3 x (.inl (.inl hx)) y hy, fun x hx y hy => h2 x (.inr hx) y hy, fun x hx y hy => h3 x (.inl (.inr hx)) y hy, fun x hx y hy => h3 x (.inr hx) y hy⟩
theorem notin_lo {w : World} {lo b : Nat} {g : GV} (h : GOwn w lo g) (hb : b < lo) : b ∉ g.blks := fun hm => by have := (h.blk_lt hm).1; omega
theorem notin_hi {w : World} {lo : Nat} {g : GV} (h : GOwn w lo g) : w.heap.size ∉ g.blks := fun hm => by have := (h.blk_lt hm).2; omega
theorem notin_blk {α : Type} {s : Sl α} {g : Nat} (h : ∀ y, s.blk = some y → g ≠ y) : g ∉ s.blk.toList := fun hm => h g (by simpa using hm) rfl
set_option maxRecDepth 100000 in
set_option maxHeartbeats 2000000 in
theorem markGuest_any (g : GV) (lo : Nat) (k : Int) (w : World) (hg : GOwn w lo g) (hz : GBig g) (h0 : 0 ≤ k) (h1 : k ≤ 100000000000) :
    Calls Try.prog 44 #[g.val, .int .i64 k] w fun e w' => e = .returned (.int .i64 (g.markEnd k)) ∧ GOwn w' lo (g.marked k) ∧ Touch g.blks w w' := by
  have HZ := Lib.hid hz
  have HA := Lib.hid hg.apart
  have hb : ∀ x ∈ g.blks, x < w.heap.size := fun x hx => (hg.blk_lt hx).2
  have HB := Lib.hid hb
  obtain ⟨z1, z2, z3, z4⟩ := hz
  have NB := Lib.hid hg.nd
  have KA := Keeps.refl lo w.heap.size w
  have Op := hg.prog; have Ow := hg.written; have Ol := hg.live; have Os := hg.seen
  unfold big at z1 z2 z3 z4
  clear hg hb
  go_enter Try.func44, Try.ntmps44
  go_wp2_with fail
  have KA := (Keeps.refl lo w.heap.size w).alloc (Nat.le_refl _) (.cells (garr g) 33)
  have Op := Op.keep KA; have Ow := Ow.keep KA; have Ol := Ol.keep KA; have Os := Os.keep KA
  have b0 : Bx (w.alloc (.cells (garr g) 33)) w.heap.size (garr g) := Bx.new _ _ _
  have T0 : Touch g.blks w (w.alloc (.cells (garr g) 33)) := touch_below ((Below.refl _ _).alloc (Nat.le_refl _) _) (Nat.le_refl _) _
  clear KA
  go_at_call 43
  refine (markInsS_any g.prog lo (k) _ Op HZ.out.1 (by omega) (by omega)).mono ?_
  rintro e w1 ⟨rfl, Op', t0⟩
  have Ow := Ow.touch t0 (fun x hx => notin_blk fun y hy => Ne.symm (HA.out.1 y hy x hx))
  have Ol := Ol.touch t0 (fun x hx => notin_blk fun y hy => Ne.symm (HA.out.2.1 y hy x hx))
  have Os := Os.touch t0 (fun x hx => notin_blk fun y hy => Ne.symm (HA.out.2.2.1 y hy x hx))
  have Op := Op'
  have b0 := b0.touch t0 (notin_blk fun y hy => Nat.ne_of_gt (HB.out y (by simp [GV.blks, hy])))
  have T1 := T0.trans (t0.mono (fun x hx => by simp [GV.blks] at hx ⊢; simp [hx]))
  clear t0 T0 Op'
  have bc := b0.c
  go_wp2_with fail
  clear bc
  go_at_call 111
  refine (markSlotS_any g.written lo (k + 2 * (g.prog.xs.length : Int)) _ Ow HZ.out.2.1 (by omega) (by omega)).mono ?_
  rintro e w2 ⟨rfl, Ow', t1⟩
  have Op := Op.touch t1 (fun x hx => notin_blk fun y hy => HA.out.1 x hx y hy)
  have Ol := Ol.touch t1 (fun x hx => notin_blk fun y hy => Ne.symm (HA.out.2.2.2.1 y hy x hx))
  have Os := Os.touch t1 (fun x hx => notin_blk fun y hy => Ne.symm (HA.out.2.2.2.2.1 y hy x hx))
  have Ow := Ow'
  have b0 := b0.touch t1 (notin_blk fun y hy => Nat.ne_of_gt (HB.out y (by simp [GV.blks, hy])))
  have T2 := T1.trans (t1.mono (fun x hx => by simp [GV.blks] at hx ⊢; simp [hx]))
  clear t1 T1 Ow'
  have bc := b0.c
  go_wp2_with fail
  clear bc
  go_at_call 111
  refine (markSlotS_any g.live lo (k + 2 * (g.prog.xs.length : Int) + 2 * (g.written.xs.length : Int)) _ Ol HZ.out.2.2.1 (by omega) (by omega)).mono ?_
  rintro e w3 ⟨rfl, Ol', t2⟩
  have Op := Op.touch t2 (fun x hx => notin_blk fun y hy => HA.out.2.1 x hx y hy)
  have Ow := Ow.touch t2 (fun x hx => notin_blk fun y hy => HA.out.2.2.2.1 x hx y hy)
  have Os := Os.touch t2 (fun x hx => notin_blk fun y hy => Ne.symm (HA.out.2.2.2.2.2 y hy x hx))
  have Ol := Ol'
  have b0 := b0.touch t2 (notin_blk fun y hy => Nat.ne_of_gt (HB.out y (by simp [GV.blks, hy])))
  have T3 := T2.trans (t2.mono (fun x hx => by simp [GV.blks] at hx ⊢; simp [hx]))
  clear t2 T2 Ol'
  have bc := b0.c
  go_wp2_with fail
  clear bc
  go_at_call 112
  refine (markIntS_any g.seen lo (k + 2 * (g.prog.xs.length : Int) + 2 * (g.written.xs.length : Int) + 2 * (g.live.xs.length : Int)) _ Os HZ.out.2.2.2 (by omega) (by omega)).mono ?_
  rintro e w4 ⟨rfl, Os', t3⟩
  have Op := Op.touch t3 (fun x hx => notin_blk fun y hy => HA.out.2.2.1 x hx y hy)
  have Ow := Ow.touch t3 (fun x hx => notin_blk fun y hy => HA.out.2.2.2.2.1 x hx y hy)
  have Ol := Ol.touch t3 (fun x hx => notin_blk fun y hy => HA.out.2.2.2.2.2 x hx y hy)
  have Os := Os'
  have b0 := b0.touch t3 (notin_blk fun y hy => Nat.ne_of_gt (HB.out y (by simp [GV.blks, hy])))
  have T4 := T3.trans (t3.mono (fun x hx => by simp [GV.blks] at hx ⊢; simp [hx]))
  clear t3 T3 Os'
  have bc := b0.c
  go_wp2_with fail
  clear bc
  go_ret
  exact ⟨ret_int (by unfold GV.markEnd; omega), ⟨Op, Ow, Ol, Os, NB.out⟩, T4⟩

set_option maxRecDepth 100000 in
set_option maxHeartbeats 2000000 in
theorem heldGuest_any (g : GV) (k : Int) (w : World) (hg : GRd w g) (hz : GBig g) (m1 : g.prog.xs = marksIns k g.prog.xs.length) (m2 : g.written.xs = marksSlot (k + 2 * g.prog.xs.length) g.written.xs.length)
    (m3 : g.live.xs = marksSlot (k + 2 * g.prog.xs.length + 2 * g.written.xs.length) g.live.xs.length) (m4 : g.seen.xs = marksInt (k + 2 * g.prog.xs.length + 2 * g.written.xs.length + 2 * g.live.xs.length) g.seen.xs.length) (h0 : 0 ≤ k) (h1 : k ≤ 100000000000) :
    Calls Try.prog 45 #[g.val, .int .i64 k] w fun e w' => e = .returned (.int .i64 (g.markEnd k)) ∧ Below w.heap.size w w' := by
  have HZ := Lib.hid hz
  have HG := Lib.hid hg
  have M1 := Lib.hid m1; have M2 := Lib.hid m2; have M3 := Lib.hid m3; have M4 := Lib.hid m4
  obtain ⟨z1, z2, z3, z4⟩ := hz
  unfold big at z1 z2 z3 z4
  clear hg m1 m2 m3 m4
  go_enter Try.func45, Try.ntmps45
  go_wp2_with fail
  go_at_call 113
  refine (heldInsS_any g.prog (k) _ (HG.out.prog.below (by repeat (first | refine Below.alloc ?_ (by (try simp) <;> omega) _ | exact Below.refl _ _)) (Nat.le_refl _)) M1.out HZ.out.1 (by omega) (by omega)).mono ?_
  rintro e w1 ⟨rfl, hb⟩
  have b0_1 : Bx w1 (w.heap.size) (garr g) := (Bx.new _ _ _).below hb (by (try simp) <;> omega)
  have B1 : Below w.heap.size w w1 := Below.trans (by repeat (first | refine Below.alloc ?_ (by (try simp) <;> omega) _ | exact Below.refl _ _)) (hb.mono (by (try simp) <;> omega))
  have S1 : w.heap.size + 1 ≤ w1.heap.size := by have := hb.size; simpa using this
  clear hb
  have bc0 := b0_1.c
  go_wp2_with fail
  clear bc0
  go_at_call 114
  refine (heldSlotS_any g.written (k + 2 * (g.prog.xs.length : Int)) _ (HG.out.written.below (by repeat (first | refine Below.setCell ?_ (by (try simp) <;> omega) _ | exact B1)) (Nat.le_refl _)) M2.out HZ.out.2.1 (by omega) (by omega)).mono ?_
  rintro e w2 ⟨rfl, hb⟩
  have b0_2 : Bx w2 (w.heap.size) (garr g) := b0_1.below hb (by (try simp) <;> omega)
  have B2 : Below w.heap.size w w2 := Below.trans (by repeat (first | refine Below.setCell ?_ (by (try simp) <;> omega) _ | exact B1)) (hb.mono (by (try simp) <;> omega))
  have S2 : w1.heap.size ≤ w2.heap.size := by have := hb.size; simpa using this
  clear hb
  clear b0_1
  have bc0 := b0_2.c
  go_wp2_with fail
  clear bc0
  go_at_call 114
  refine (heldSlotS_any g.live (k + 2 * (g.prog.xs.length : Int) + 2 * (g.written.xs.length : Int)) _ (HG.out.live.below (by repeat (first | refine Below.setCell ?_ (by (try simp) <;> omega) _ | exact B2)) (Nat.le_refl _)) M3.out HZ.out.2.2.1 (by omega) (by omega)).mono ?_
  rintro e w3 ⟨rfl, hb⟩
  have b0_3 : Bx w3 (w.heap.size) (garr g) := b0_2.below hb (by (try simp) <;> omega)
  have B3 : Below w.heap.size w w3 := Below.trans (by repeat (first | refine Below.setCell ?_ (by (try simp) <;> omega) _ | exact B2)) (hb.mono (by (try simp) <;> omega))
  have S3 : w2.heap.size ≤ w3.heap.size := by have := hb.size; simpa using this
  clear hb
  clear b0_2
  have bc0 := b0_3.c
  go_wp2_with fail
  clear bc0
  go_at_call 115
  refine (heldIntS_any g.seen (k + 2 * (g.prog.xs.length : Int) + 2 * (g.written.xs.length : Int) + 2 * (g.live.xs.length : Int)) _ (HG.out.seen.below (by repeat (first | refine Below.setCell ?_ (by (try simp) <;> omega) _ | exact B3)) (Nat.le_refl _)) M4.out HZ.out.2.2.2 (by omega) (by omega)).mono ?_
  rintro e w4 ⟨rfl, hb⟩
  have b0_4 : Bx w4 (w.heap.size) (garr g) := b0_3.below hb (by (try simp) <;> omega)
  have B4 : Below w.heap.size w w4 := Below.trans (by repeat (first | refine Below.setCell ?_ (by (try simp) <;> omega) _ | exact B3)) (hb.mono (by (try simp) <;> omega))
  have S4 : w3.heap.size ≤ w4.heap.size := by have := hb.size; simpa using this
  clear hb
  clear b0_3
  have bc0 := b0_4.c
  go_wp2_with fail
  clear bc0
  go_ret
  exact ⟨ret_int (by unfold GV.markEnd; omega), B4⟩
end Go.Proofs.Ytedjbholpdinkaa
