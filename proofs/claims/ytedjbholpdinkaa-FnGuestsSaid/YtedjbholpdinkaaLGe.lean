/- Contracts of the law's own helpers on guests: eq, mark, held, sz. -/
import Derived.Test.YtedjbholpdinkaaLMk
import Derived.Test.YtedjbholpdinkaaLGt
namespace Go.Proofs.Ytedjbholpdinkaa
open Go.RowKit
theorem meq (g h : GV) : (g.m == h.m) = ((g.prog.xs == h.prog.xs) && (g.a == h.a) && (g.pc == h.pc) && (g.written.xs == h.written.xs) && (g.live.xs == h.live.xs) && (g.ctl == h.ctl) && (g.pending == h.pending) && (g.exit == h.exit) && (g.halted == h.halted) && (g.seen.xs == h.seen.xs)) := by
  rw [Bool.eq_iff_iff]
  simp only [GV.m, beq_iff_eq, Bool.and_eq_true, MG.mk.injEq]
  constructor
  · rintro ⟨h1, h2, h3, h4, h5, h6, h7, h8, h9, h10⟩; exact ⟨⟨⟨⟨⟨⟨⟨⟨⟨h1, h2⟩, h3⟩, h4⟩, h5⟩, h6⟩, h7⟩, h8⟩, h9⟩, h10⟩
  · rintro ⟨⟨⟨⟨⟨⟨⟨⟨⟨h1, h2⟩, h3⟩, h4⟩, h5⟩, h6⟩, h7⟩, h8⟩, h9⟩, h10⟩; exact ⟨h1, h2, h3, h4, h5, h6, h7, h8, h9, h10⟩
set_option maxRecDepth 100000 in
set_option maxHeartbeats 2000000 in
theorem eqGuest_any (g h : GV) (w : World) (hg : GRd w g) (hh : GRd w h) (hz : GBig g) :
    Calls Try.prog 38 #[g.val, h.val] w fun e w' => e = .returned (.bool (g.m == h.m)) ∧ Below w.heap.size w w' := by
  rw [meq]
  have HG := Lib.hid hg
  have HH := Lib.hid hh
  have HZ := Lib.hid hz
  clear hg hh hz
  go_enter Try.func38, Try.ntmps38
  go_wp2_with fail
  go_at_call 42
  refine (eqInsS_any g.prog h.prog _ (HG.out.prog.below (by repeat (first | refine Below.alloc ?_ (by (try simp) <;> omega) _ | exact Below.refl _ _)) (Nat.le_refl _)) (HH.out.prog.below (by repeat (first | refine Below.alloc ?_ (by (try simp) <;> omega) _ | exact Below.refl _ _)) (Nat.le_refl _)) HZ.out.1).mono ?_
  rintro e w1 ⟨rfl, hb⟩
  have b0_1 : Bx w1 (w.heap.size) (garr g) := ((Bx.new _ _ _).alloc _).below hb (by (try simp) <;> omega)
  have b1_1 : Bx w1 (w.heap.size + 1) (garr h) := ((Bx.new _ _ _).at_ (by simp)).below hb (by (try simp) <;> omega)
  have B1 : Below w.heap.size w w1 := Below.trans (by repeat (first | refine Below.alloc ?_ (by (try simp) <;> omega) _ | exact Below.refl _ _)) (hb.mono (by (try simp) <;> omega))
  have S1 : w.heap.size + 2 ≤ w1.heap.size := by have := hb.size; simpa using this
  clear hb
  have bc0 := b0_1.c
  have bc1 := b1_1.c
  go_wp2_with fail
  · go_ret
    exact ⟨ret_bool (by simp_all), B1⟩
  · go_ret
    exact ⟨ret_bool (by simp_all), B1⟩
  · go_ret
    exact ⟨ret_bool (by simp_all), B1⟩
  clear bc0 bc1
  go_at_call 104
  refine (eqSlotS_any g.written h.written _ (HG.out.written.below (by repeat (first | refine Below.setCell ?_ (by (try simp) <;> omega) _ | exact B1)) (Nat.le_refl _)) (HH.out.written.below (by repeat (first | refine Below.setCell ?_ (by (try simp) <;> omega) _ | exact B1)) (Nat.le_refl _)) HZ.out.2.1).mono ?_
  rintro e w2 ⟨rfl, hb⟩
  have b0_2 : Bx w2 (w.heap.size) (garr g) := b0_1.below hb (by (try simp) <;> omega)
  have b1_2 : Bx w2 (w.heap.size + 1) (garr h) := b1_1.below hb (by (try simp) <;> omega)
  have B2 : Below w.heap.size w w2 := Below.trans (by repeat (first | refine Below.setCell ?_ (by (try simp) <;> omega) _ | exact B1)) (hb.mono (by (try simp) <;> omega))
  have S2 : w1.heap.size ≤ w2.heap.size := by have := hb.size; simpa using this
  clear hb
  clear b0_1 b1_1
  have bc0 := b0_2.c
  have bc1 := b1_2.c
  go_wp2_with fail
  · go_ret
    exact ⟨ret_bool (by simp_all), B2⟩
  clear bc0 bc1
  go_at_call 104
  refine (eqSlotS_any g.live h.live _ (HG.out.live.below (by repeat (first | refine Below.setCell ?_ (by (try simp) <;> omega) _ | exact B2)) (Nat.le_refl _)) (HH.out.live.below (by repeat (first | refine Below.setCell ?_ (by (try simp) <;> omega) _ | exact B2)) (Nat.le_refl _)) HZ.out.2.2.1).mono ?_
  rintro e w3 ⟨rfl, hb⟩
  have b0_3 : Bx w3 (w.heap.size) (garr g) := b0_2.below hb (by (try simp) <;> omega)
  have b1_3 : Bx w3 (w.heap.size + 1) (garr h) := b1_2.below hb (by (try simp) <;> omega)
  have B3 : Below w.heap.size w w3 := Below.trans (by repeat (first | refine Below.setCell ?_ (by (try simp) <;> omega) _ | exact B2)) (hb.mono (by (try simp) <;> omega))
  have S3 : w2.heap.size ≤ w3.heap.size := by have := hb.size; simpa using this
  clear hb
  clear b0_2 b1_2
  have bc0 := b0_3.c
  have bc1 := b1_3.c
  go_wp2_with fail
  · go_ret
    exact ⟨ret_bool (by simp_all), B3⟩
  clear bc0 bc1
  go_at_call 105
  refine (eqCtl_any g.ctl h.ctl _).mono ?_
  rintro e w4 ⟨rfl, hb⟩
  have b0_4 : Bx w4 (w.heap.size) (garr g) := b0_3.below hb (by (try simp) <;> omega)
  have b1_4 : Bx w4 (w.heap.size + 1) (garr h) := b1_3.below hb (by (try simp) <;> omega)
  have B4 : Below w.heap.size w w4 := Below.trans (by repeat (first | refine Below.setCell ?_ (by (try simp) <;> omega) _ | exact B3)) (hb.mono (by (try simp) <;> omega))
  have S4 : w3.heap.size ≤ w4.heap.size := by have := hb.size; simpa using this
  clear hb
  clear b0_3 b1_3
  have bc0 := b0_4.c
  have bc1 := b1_4.c
  go_wp2_with fail
  · go_ret
    exact ⟨ret_bool (by simp_all), B4⟩
  · go_ret
    exact ⟨ret_bool (by simp_all), B4⟩
  clear bc0 bc1
  go_at_call 106
  refine (eqExit_any g.exit h.exit _).mono ?_
  rintro e w5 ⟨rfl, hb⟩
  have b0_5 : Bx w5 (w.heap.size) (garr g) := b0_4.below hb (by (try simp) <;> omega)
  have b1_5 : Bx w5 (w.heap.size + 1) (garr h) := b1_4.below hb (by (try simp) <;> omega)
  have B5 : Below w.heap.size w w5 := Below.trans (by repeat (first | refine Below.setCell ?_ (by (try simp) <;> omega) _ | exact B4)) (hb.mono (by (try simp) <;> omega))
  have S5 : w4.heap.size ≤ w5.heap.size := by have := hb.size; simpa using this
  clear hb
  clear b0_4 b1_4
  have bc0 := b0_5.c
  have bc1 := b1_5.c
  go_wp2_with fail
  · go_ret
    exact ⟨ret_bool (by simp_all), B5⟩
  · go_ret
    exact ⟨ret_bool (by simp_all), B5⟩
  clear bc0 bc1
  go_at_call 107
  refine (eqIntS_any g.seen h.seen _ (HG.out.seen.below (by repeat (first | refine Below.setCell ?_ (by (try simp) <;> omega) _ | exact B5)) (Nat.le_refl _)) (HH.out.seen.below (by repeat (first | refine Below.setCell ?_ (by (try simp) <;> omega) _ | exact B5)) (Nat.le_refl _)) HZ.out.2.2.2).mono ?_
  rintro e w6 ⟨rfl, hb⟩
  have b0_6 : Bx w6 (w.heap.size) (garr g) := b0_5.below hb (by (try simp) <;> omega)
  have b1_6 : Bx w6 (w.heap.size + 1) (garr h) := b1_5.below hb (by (try simp) <;> omega)
  have B6 : Below w.heap.size w w6 := Below.trans (by repeat (first | refine Below.setCell ?_ (by (try simp) <;> omega) _ | exact B5)) (hb.mono (by (try simp) <;> omega))
  have S6 : w5.heap.size ≤ w6.heap.size := by have := hb.size; simpa using this
  clear hb
  clear b0_5 b1_5
  go_wp2_with fail
  · go_ret
    exact ⟨ret_bool (by simp_all), B6⟩
  · go_ret
    exact ⟨ret_bool (by simp_all), B6⟩

/-- The lengths that szGuest lets by. -/
def szG (left : Int) (g : MG) : Int :=
  if szM left g.prog.length < 0 then -1 else if szM (szM left g.prog.length) g.written.length < 0 then -1 else if szM (szM (szM left g.prog.length) g.written.length) g.live.length < 0 then -1
  else if szM (szM (szM (szM left g.prog.length) g.written.length) g.live.length) g.seen.length < 0 then -1 else szM (szM (szM (szM left g.prog.length) g.written.length) g.live.length) g.seen.length
theorem szM_le (left : Int) (n : Nat) (h : ¬ szM left n < 0) : 0 ≤ szM left n ∧ szM left n + n = left := by unfold szM at *; split at h <;> simp_all <;> omega
theorem szG_fit (left : Int) (g : MG) (h : ¬ szG left g < 0) : 0 ≤ szG left g ∧ szG left g + g.prog.length + g.written.length + g.live.length + g.seen.length = left := by
  unfold szG at h ⊢
  split at h
  · omega
  rename_i h1
  split at h
  · omega
  rename_i h2
  split at h
  · omega
  rename_i h3
  split at h
  · omega
  rename_i h4
  have a1 := szM_le _ _ h1
  have a2 := szM_le _ _ h2
  have a3 := szM_le _ _ h3
  have a4 := szM_le _ _ h4
  rw [if_neg h1, if_neg h2, if_neg h3, if_neg h4]
  omega
def GWide (g : GV) : Prop := g.prog.xs.length ≤ maxLen ∧ g.written.xs.length ≤ maxLen ∧ g.live.xs.length ≤ maxLen ∧ g.seen.xs.length ≤ maxLen
set_option maxHeartbeats 1000000 in
theorem szGuest_any (g : GV) (left : Int) (w : World) (hz : GWide g) (h0 : 0 ≤ left) (h1 : left ≤ 1048576) :
    Calls Try.prog 34 #[g.val, .int .i64 left] w fun e w' => e = .returned (.int .i64 (szG left g.m)) ∧ Below w.heap.size w w' := by
  have HZ := Lib.hid hz
  clear hz
  go_enter Try.func34, Try.ntmps34
  go_wp2_with fail
  go_at_call 39
  refine (szInsS_any g.prog left _ HZ.out.1 h0 h1).mono ?_
  rintro e w' ⟨rfl, rfl⟩
  go_wp2_with fail
  · go_ret
    refine ⟨ret_int ?_, (Below.refl _ _).alloc (Nat.le_refl _) _⟩
    simp [szG, GV.m, *]
  have a1 := szM_le left g.prog.xs.length (by omega)
  have c1 : (szM left g.prog.xs.length) ≤ 1048576 := by omega
  go_at_call 93
  refine (szSlotS_any g.written (szM left g.prog.xs.length) _ HZ.out.2.1 a1.1 c1).mono ?_
  rintro e w' ⟨rfl, rfl⟩
  go_wp2_with fail
  · go_ret
    refine ⟨ret_int ?_, (Below.refl _ _).alloc (Nat.le_refl _) _⟩
    simp [szG, GV.m, *]
  have a2 := szM_le (szM left g.prog.xs.length) g.written.xs.length (by omega)
  have c2 : (szM (szM left g.prog.xs.length) g.written.xs.length) ≤ 1048576 := by omega
  go_at_call 93
  refine (szSlotS_any g.live (szM (szM left g.prog.xs.length) g.written.xs.length) _ HZ.out.2.2.1 a2.1 c2).mono ?_
  rintro e w' ⟨rfl, rfl⟩
  go_wp2_with fail
  · go_ret
    refine ⟨ret_int ?_, (Below.refl _ _).alloc (Nat.le_refl _) _⟩
    simp [szG, GV.m, *]
  have a3 := szM_le (szM (szM left g.prog.xs.length) g.written.xs.length) g.live.xs.length (by omega)
  have c3 : (szM (szM (szM left g.prog.xs.length) g.written.xs.length) g.live.xs.length) ≤ 1048576 := by omega
  go_at_call 94
  refine (szIntS_any g.seen (szM (szM (szM left g.prog.xs.length) g.written.xs.length) g.live.xs.length) _ HZ.out.2.2.2 a3.1 c3).mono ?_
  rintro e w' ⟨rfl, rfl⟩
  go_wp2_with fail
  · go_ret
    refine ⟨ret_int ?_, (Below.refl _ _).alloc (Nat.le_refl _) _⟩
    have n1 : ¬ szM left g.prog.xs.length < 0 := by omega
    have n2 : ¬ szM (szM left g.prog.xs.length) g.written.xs.length < 0 := by omega
    have n3 : ¬ szM (szM (szM left g.prog.xs.length) g.written.xs.length) g.live.xs.length < 0 := by omega
    simp [szG, GV.m, *]
  · go_ret
    refine ⟨ret_int ?_, (Below.refl _ _).alloc (Nat.le_refl _) _⟩
    have n1 : ¬ szM left g.prog.xs.length < 0 := by omega
    have n2 : ¬ szM (szM left g.prog.xs.length) g.written.xs.length < 0 := by omega
    have n3 : ¬ szM (szM (szM left g.prog.xs.length) g.written.xs.length) g.live.xs.length < 0 := by omega
    have n4 : ¬ szM (szM (szM (szM left g.prog.xs.length) g.written.xs.length) g.live.xs.length) g.seen.xs.length < 0 := by omega
    simp [szG, GV.m, n1, n2, n3, n4]
end Go.Proofs.Ytedjbholpdinkaa
