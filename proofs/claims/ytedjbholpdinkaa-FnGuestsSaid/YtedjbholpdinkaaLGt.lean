/- Contracts of the law's own helpers on guests: to, eq, mark, held, sz. -/
import Derived.Test.YtedjbholpdinkaaLMk
namespace Go.Proofs.Ytedjbholpdinkaa
open Go.RowKit
theorem toCtl_any (c : Ctl) (w : World) : Calls Try.prog 99 #[c.val] w fun e w' => e = .returned c.val ∧ Below w.heap.size w w' := by
  go_enter Try.func99, Try.ntmps99
  go_wp2
  refine bodyPost_ret (v := c.val) (by simp [results, Try.results99, go_sem]) rfl ⟨rfl, ?_⟩
  repeat (first | exact Below.refl _ _ | refine Below.setCell ?_ (by (try simp) <;> omega) _ | refine Below.alloc ?_ (by (try simp) <;> omega) _)
theorem toExit_any (c : Exit) (w : World) : Calls Try.prog 47 #[c.val] w fun e w' => e = .returned c.val ∧ Below w.heap.size w w' := by
  go_enter Try.func47, Try.ntmps47
  go_wp2
  refine bodyPost_ret (v := c.val) (by simp [results, Try.results47, go_sem]) rfl ⟨rfl, ?_⟩
  repeat (first | exact Below.refl _ _ | refine Below.setCell ?_ (by (try simp) <;> omega) _ | refine Below.alloc ?_ (by (try simp) <;> omega) _)
theorem eqCtl_any (x y : Ctl) (w : World) : Calls Try.prog 105 #[x.val, y.val] w fun e w' => e = .returned (.bool (x == y)) ∧ Below w.heap.size w w' := by
  go_enter Try.func105, Try.ntmps105
  go_wp2
  all_goals (go_ret; refine ⟨ret_bool ?_, ((Below.refl _ _).alloc (by simp) _).alloc (by simp) _⟩)
  all_goals (obtain ⟨a, b, c⟩ := x; obtain ⟨d, e, f⟩ := y; simp_all)
theorem eqExit_any (x y : Exit) (w : World) : Calls Try.prog 106 #[x.val, y.val] w fun e w' => e = .returned (.bool (x == y)) ∧ Below w.heap.size w w' := by
  go_enter Try.func106, Try.ntmps106
  go_wp2
  all_goals (go_ret; refine ⟨ret_bool ?_, ((Below.refl _ _).alloc (by simp) _).alloc (by simp) _⟩)
  all_goals (obtain ⟨a, b, c, d⟩ := x; obtain ⟨a', b', c', d'⟩ := y; simp_all)

set_option maxRecDepth 100000 in
set_option maxHeartbeats 1000000 in
theorem toGuest_any (g : GV) (w : World) (hg : GRd w g) (hz : GBig g) :
    Calls Try.prog 36 #[g.val] w fun e w' => ∃ d : GV, e = .returned d.val ∧ d.m = g.m ∧ GOwn w' w.heap.size d ∧ Below w.heap.size w w' := by
  have HG := Lib.hid hg
  have HZ := Lib.hid hz
  clear hg hz
  go_enter Try.func36, Try.ntmps36
  go_wp2_with fail
  go_at_call 41
  refine (toInsS_any g.prog _ (HG.out.prog.below (by repeat (first | refine Below.alloc ?_ (by (try simp) <;> omega) _ | exact Below.refl _ _)) (Nat.le_refl _)) HZ.out.1).mono ?_
  rintro e w1 ⟨p1, rfl, hx, ho, hb⟩
  have Hp1 := Lib.hid hx
  clear hx
  have b0_1 : Bx w1 (w.heap.size) (garr g) := (((Bx.new _ _ _).alloc _).alloc _).below hb (by (try simp) <;> omega)
  have b1_1 : Bx w1 (w.heap.size + 1) (garr gzero) := (((Bx.new _ _ _).at_ (by simp)).alloc _).below hb (by (try simp) <;> omega)
  have b2_1 : Bx w1 (w.heap.size + 2) (garr gzero) := ((Bx.new _ _ _).at_ (by simp)).below hb (by (try simp) <;> omega)
  have B1 : Below w.heap.size w w1 := Below.trans (by repeat (first | refine Below.alloc ?_ (by (try simp) <;> omega) _ | exact Below.refl _ _)) (hb.mono (by (try simp) <;> omega))
  have S1 : w.heap.size + 3 ≤ w1.heap.size := by have := hb.size; simpa using this
  have Op1 := ho.mono (lo' := w.heap.size + 3) (by (try simp) <;> omega)
  have Lp1 : ∀ x, p1.blk = some x → x < w1.heap.size := fun x hx => (Op1.blk_lt hx).2
  clear ho
  clear hb
  have bc0 := b0_1.c
  have bc2 := b2_1.c
  have bf2 := b2_1.f
  go_wp2_with fail
  clear bc0 bc2 bf2
  go_at_call 98
  refine (toSlotS_any g.written _ (HG.out.written.below (by repeat (first | refine Below.setCell ?_ (by (try simp) <;> omega) _ | exact B1)) (Nat.le_refl _)) HZ.out.2.1).mono ?_
  rintro e w2 ⟨p2, rfl, hx, ho, hb⟩
  have Hp2 := Lib.hid hx
  clear hx
  have b0_2 : Bx w2 (w.heap.size) (garr g) := (((b0_1.far (by (try simp) <;> omega) _).far (by (try simp) <;> omega) _).far (by (try simp) <;> omega) _).below hb (by (try simp) <;> omega)
  have b1_2 : Bx w2 (w.heap.size + 1) (garr gzero) := (((b1_1.far (by (try simp) <;> omega) _).far (by (try simp) <;> omega) _).far (by (try simp) <;> omega) _).below hb (by (try simp) <;> omega)
  have b2_2 : Bx w2 (w.heap.size + 2) (garr ⟨p1, g.a, g.pc, ⟨none, 0, []⟩, ⟨none, 0, []⟩, ⟨0, 0, false⟩, 0, ⟨0, 0, false, 0⟩, false, ⟨none, 0, []⟩⟩) := (((b2_1.set_ 0 _).set_ 1 _).set_ 2 _).below hb (by (try simp) <;> omega)
  have B2 : Below w.heap.size w w2 := Below.trans (by repeat (first | refine Below.setCell ?_ (by (try simp) <;> omega) _ | exact B1)) (hb.mono (by (try simp) <;> omega))
  have S2 : w1.heap.size ≤ w2.heap.size := by have := hb.size; simpa using this
  have K2 : Keeps (w.heap.size + 3) w1.heap.size w1 w2 := Keeps.below (by repeat (first | refine Keeps.setCell ?_ (by (try simp) <;> omega) _ | exact Keeps.refl _ _ _)) hb (by (try simp) <;> omega)
  have Op1 := Op1.keep (K2.sub (by (try simp) <;> omega) (Nat.le_refl _))
  have Op2 := ho.mono (lo' := w1.heap.size) (by (try simp) <;> omega)
  have Lp2 : ∀ x, p2.blk = some x → x < w2.heap.size := fun x hx => (Op2.blk_lt hx).2
  clear ho
  clear hb
  clear b0_1 b1_1 b2_1
  have bc0 := b0_2.c
  have bc2 := b2_2.c
  have bf2 := b2_2.f
  go_wp2_with fail
  clear bc0 bc2 bf2
  go_at_call 98
  refine (toSlotS_any g.live _ (HG.out.live.below (by repeat (first | refine Below.setCell ?_ (by (try simp) <;> omega) _ | exact B2)) (Nat.le_refl _)) HZ.out.2.2.1).mono ?_
  rintro e w3 ⟨p3, rfl, hx, ho, hb⟩
  have Hp3 := Lib.hid hx
  clear hx
  have b0_3 : Bx w3 (w.heap.size) (garr g) := (b0_2.far (by (try simp) <;> omega) _).below hb (by (try simp) <;> omega)
  have b1_3 : Bx w3 (w.heap.size + 1) (garr gzero) := (b1_2.far (by (try simp) <;> omega) _).below hb (by (try simp) <;> omega)
  have b2_3 : Bx w3 (w.heap.size + 2) (garr ⟨p1, g.a, g.pc, p2, ⟨none, 0, []⟩, ⟨0, 0, false⟩, 0, ⟨0, 0, false, 0⟩, false, ⟨none, 0, []⟩⟩) := (b2_2.set_ 3 _).below hb (by (try simp) <;> omega)
  have B3 : Below w.heap.size w w3 := Below.trans (by repeat (first | refine Below.setCell ?_ (by (try simp) <;> omega) _ | exact B2)) (hb.mono (by (try simp) <;> omega))
  have S3 : w2.heap.size ≤ w3.heap.size := by have := hb.size; simpa using this
  have K3 : Keeps (w.heap.size + 3) w2.heap.size w2 w3 := Keeps.below (by repeat (first | refine Keeps.setCell ?_ (by (try simp) <;> omega) _ | exact Keeps.refl _ _ _)) hb (by (try simp) <;> omega)
  have Op1 := Op1.keep (K3.sub (by (try simp) <;> omega) (Nat.le_refl _))
  have Op2 := Op2.keep (K3.sub (by (try simp) <;> omega) (Nat.le_refl _))
  have Op3 := ho.mono (lo' := w2.heap.size) (by (try simp) <;> omega)
  have Lp3 : ∀ x, p3.blk = some x → x < w3.heap.size := fun x hx => (Op3.blk_lt hx).2
  clear ho
  clear hb
  clear b0_2 b1_2 b2_2
  have bc0 := b0_3.c
  have bc2 := b2_3.c
  have bf2 := b2_3.f
  go_wp2_with fail
  clear bc0 bc2 bf2
  go_at_call 99
  refine (toCtl_any g.ctl _).mono ?_
  rintro e w4 ⟨rfl, hb⟩
  have b0_4 : Bx w4 (w.heap.size) (garr g) := (b0_3.far (by (try simp) <;> omega) _).below hb (by (try simp) <;> omega)
  have b1_4 : Bx w4 (w.heap.size + 1) (garr gzero) := (b1_3.far (by (try simp) <;> omega) _).below hb (by (try simp) <;> omega)
  have b2_4 : Bx w4 (w.heap.size + 2) (garr ⟨p1, g.a, g.pc, p2, p3, ⟨0, 0, false⟩, 0, ⟨0, 0, false, 0⟩, false, ⟨none, 0, []⟩⟩) := (b2_3.set_ 4 _).below hb (by (try simp) <;> omega)
  have B4 : Below w.heap.size w w4 := Below.trans (by repeat (first | refine Below.setCell ?_ (by (try simp) <;> omega) _ | exact B3)) (hb.mono (by (try simp) <;> omega))
  have S4 : w3.heap.size ≤ w4.heap.size := by have := hb.size; simpa using this
  have K4 : Keeps (w.heap.size + 3) w3.heap.size w3 w4 := Keeps.below (by repeat (first | refine Keeps.setCell ?_ (by (try simp) <;> omega) _ | exact Keeps.refl _ _ _)) hb (by (try simp) <;> omega)
  have Op1 := Op1.keep (K4.sub (by (try simp) <;> omega) (Nat.le_refl _))
  have Op2 := Op2.keep (K4.sub (by (try simp) <;> omega) (Nat.le_refl _))
  have Op3 := Op3.keep (K4.sub (by (try simp) <;> omega) (Nat.le_refl _))
  clear hb
  clear b0_3 b1_3 b2_3
  have bc0 := b0_4.c
  have bc2 := b2_4.c
  have bf2 := b2_4.f
  go_wp2_with fail
  clear bc0 bc2 bf2
  go_at_call 47
  refine (toExit_any g.exit _).mono ?_
  rintro e w5 ⟨rfl, hb⟩
  have b0_5 : Bx w5 (w.heap.size) (garr g) := ((((b0_4.far (by (try simp) <;> omega) _).far (by (try simp) <;> omega) _).far (by (try simp) <;> omega) _).far (by (try simp) <;> omega) _).below hb (by (try simp) <;> omega)
  have b1_5 : Bx w5 (w.heap.size + 1) (garr gzero) := ((((b1_4.far (by (try simp) <;> omega) _).far (by (try simp) <;> omega) _).far (by (try simp) <;> omega) _).far (by (try simp) <;> omega) _).below hb (by (try simp) <;> omega)
  have b2_5 : Bx w5 (w.heap.size + 2) (garr ⟨p1, g.a, g.pc, p2, p3, g.ctl, g.pending, ⟨0, 0, false, 0⟩, false, ⟨none, 0, []⟩⟩) := ((((b2_4.set_ 5 _).set_ 6 _).set_ 7 _).set_ 8 _).below hb (by (try simp) <;> omega)
  have B5 : Below w.heap.size w w5 := Below.trans (by repeat (first | refine Below.setCell ?_ (by (try simp) <;> omega) _ | exact B4)) (hb.mono (by (try simp) <;> omega))
  have S5 : w4.heap.size ≤ w5.heap.size := by have := hb.size; simpa using this
  have K5 : Keeps (w.heap.size + 3) w4.heap.size w4 w5 := Keeps.below (by repeat (first | refine Keeps.setCell ?_ (by (try simp) <;> omega) _ | exact Keeps.refl _ _ _)) hb (by (try simp) <;> omega)
  have Op1 := Op1.keep (K5.sub (by (try simp) <;> omega) (Nat.le_refl _))
  have Op2 := Op2.keep (K5.sub (by (try simp) <;> omega) (Nat.le_refl _))
  have Op3 := Op3.keep (K5.sub (by (try simp) <;> omega) (Nat.le_refl _))
  clear hb
  clear b0_4 b1_4 b2_4
  have bc0 := b0_5.c
  have bc2 := b2_5.c
  have bf2 := b2_5.f
  go_wp2_with fail
  clear bc0 bc2 bf2
  go_at_call 100
  refine (toIntS_any g.seen _ (HG.out.seen.below (by repeat (first | refine Below.setCell ?_ (by (try simp) <;> omega) _ | exact B5)) (Nat.le_refl _)) HZ.out.2.2.2).mono ?_
  rintro e w6 ⟨p4, rfl, hx, ho, hb⟩
  have Hp4 := Lib.hid hx
  clear hx
  have b0_6 : Bx w6 (w.heap.size) (garr g) := (((((b0_5.far (by (try simp) <;> omega) _).far (by (try simp) <;> omega) _).far (by (try simp) <;> omega) _).far (by (try simp) <;> omega) _).far (by (try simp) <;> omega) _).below hb (by (try simp) <;> omega)
  have b1_6 : Bx w6 (w.heap.size + 1) (garr gzero) := (((((b1_5.far (by (try simp) <;> omega) _).far (by (try simp) <;> omega) _).far (by (try simp) <;> omega) _).far (by (try simp) <;> omega) _).far (by (try simp) <;> omega) _).below hb (by (try simp) <;> omega)
  have b2_6 : Bx w6 (w.heap.size + 2) (garr ⟨p1, g.a, g.pc, p2, p3, g.ctl, g.pending, g.exit, g.halted, ⟨none, 0, []⟩⟩) := (((((b2_5.set_ 9 _).set_ 10 _).set_ 11 _).set_ 12 _).set_ 13 _).below hb (by (try simp) <;> omega)
  have B6 : Below w.heap.size w w6 := Below.trans (by repeat (first | refine Below.setCell ?_ (by (try simp) <;> omega) _ | exact B5)) (hb.mono (by (try simp) <;> omega))
  have S6 : w5.heap.size ≤ w6.heap.size := by have := hb.size; simpa using this
  have K6 : Keeps (w.heap.size + 3) w5.heap.size w5 w6 := Keeps.below (by repeat (first | refine Keeps.setCell ?_ (by (try simp) <;> omega) _ | exact Keeps.refl _ _ _)) hb (by (try simp) <;> omega)
  have Op1 := Op1.keep (K6.sub (by (try simp) <;> omega) (Nat.le_refl _))
  have Op2 := Op2.keep (K6.sub (by (try simp) <;> omega) (Nat.le_refl _))
  have Op3 := Op3.keep (K6.sub (by (try simp) <;> omega) (Nat.le_refl _))
  have Op4 := ho.mono (lo' := w5.heap.size) (by (try simp) <;> omega)
  have Lp4 : ∀ x, p4.blk = some x → x < w6.heap.size := fun x hx => (Op4.blk_lt hx).2
  clear ho
  clear hb
  clear b0_5 b1_5 b2_5
  have bc2 := b2_6.c
  have bf2 := b2_6.f
  go_wp2_with (first | (refine wpList_load_all rfl 33 _ rfl (w.heap.size + 2) (garr (⟨p1, g.a, g.pc, p2, p3, g.ctl, g.pending, g.exit, g.halted, p4⟩ : GV)) _ rfl (b2_6.set_ 14 _) Try.underlying33 rfl (by kernel_rfl) ?_) | (refine wpList_store_all rfl 33 _ _ rfl (w.heap.size + 1) (garr gzero) (garr (⟨p1, g.a, g.pc, p2, p3, g.ctl, g.pending, g.exit, g.halted, p4⟩ : GV)) rfl rfl (b1_6.far (by (try simp) <;> omega) _) rfl (by kernel_rfl) (garr_one _) ?_; intro w7 c7 o7))
  clear bc2 bf2
  have K7 : Keeps (w.heap.size + 3) w6.heap.size w6 w7 := Keeps.only (by repeat (first | refine Keeps.setCell ?_ (by (try simp) <;> omega) _ | exact Keeps.refl _ _ _)) o7 (by (try simp) <;> omega)
  have B7 : Below w.heap.size w w7 := only_below (by repeat (first | refine Below.setCell ?_ (by (try simp) <;> omega) _ | exact B6)) o7 (by (try simp) <;> omega)
  refine bodyPost_ret (results_all rfl _ _ (w.heap.size + 1) _ _ rfl c7 Try.underlying33 rfl (by kernel_rfl)) rfl ⟨(⟨p1, g.a, g.pc, p2, p3, g.ctl, g.pending, g.exit, g.halted, p4⟩ : GV), rfl, ?_, ?_, B7⟩
  · simp only [GV.m, Hp1.out, Hp2.out, Hp3.out, Hp4.out]
  · exact (GOwn.of4 (g := (⟨p1, g.a, g.pc, p2, p3, g.ctl, g.pending, g.exit, g.halted, p4⟩ : GV)) (Op1.keep (K7.sub (by (try simp) <;> omega) (by (try simp) <;> omega))) (Op2.keep (K7.sub (by (try simp) <;> omega) (by (try simp) <;> omega))) (Op3.keep (K7.sub (by (try simp) <;> omega) (by (try simp) <;> omega))) (Op4.keep (K7.sub (by (try simp) <;> omega) (by (try simp) <;> omega))) (fun x hx => by have := Lp1 x hx; omega) (fun x hx => by have := Lp2 x hx; omega) (fun x hx => by have := Lp3 x hx; omega) (by (try simp) <;> omega) (by (try simp) <;> omega) (by (try simp) <;> omega)).mono (by (try simp) <;> omega)
end Go.Proofs.Ytedjbholpdinkaa
