/- Laws over a guest whose functions give back a bool or an integer. -/
import Derived.Test.YtglolhdccaabbaaLGm
import Derived.Test.YtglolhdccaabbaaGWant
import Derived.Deep.RegionHeld3
import Derived.Deep.DrawnRows
import Derived.WalkSpells
namespace Go.Proofs.Ytglolhdccaabbaa
open Go.RowKit
attribute [local go_sem ↓] Go.wp_at_zero Go.wp_at_succ
theorem gbig_of {g d : GV} (h : GBig g) (e : d.m = g.m) : GBig d := by
  simp only [GV.m, MG.mk.injEq] at e
  unfold GBig at *
  rw [e.1, e.2.2.2.1, e.2.2.2.2.1, e.2.2.2.2.2.2.2.2.2]
  exact h

set_option maxRecDepth 100000 in
set_option maxHeartbeats 2000000 in
theorem walk_fnExactCanRun (a : GV) (w : World) (ra : GRd w a ∧ GWide a) : Calls Try.prog 9 #[a.val] w fun e w' => e = .returned (.bool true) ∧ Below w.heap.size w w' := by
  have Ra := Lib.hid ra.1
  have Wa := Lib.hid ra.2
  clear ra
  go_enter Try.func9, Try.ntmps9
  go_wp2_with (refine wpList_load_all rfl 51 _ rfl (w.heap.size) (garr a) _ rfl (Bx.new _ _ _) Try.underlying51 rfl (by kernel_rfl) ?_)
  go_at_call 46
  refine (szGuest_any a 1048576 _ Wa.out (by omega) (by omega)).mono ?_
  rintro e w1 ⟨rfl, hb⟩
  have bA : Bx w1 (w.heap.size) (garr a) := (Bx.new _ _ _).below hb (by (try simp) <;> omega)
  have B : Below w.heap.size w w1 := ((Below.refl _ _).alloc (by (try simp) <;> omega) _).trans (hb.mono (by (try simp) <;> omega))
  clear hb
  go_wp2_with (refine wpList_load_all rfl 51 _ rfl (w.heap.size) (garr a) _ rfl bA Try.underlying51 rfl (by kernel_rfl) ?_)
  · go_ret
    exact ⟨rfl, B⟩
  have hfit := szG_fit (1048576) a.m (by omega)
  have Za : Hid (GBig a) := by show GBig a; unfold GBig big; simp only [GV.m] at hfit; omega
  go_at_call 48
  refine (toGuest_any a _ (Ra.out.below B (Nat.le_refl _)) Za.out).mono ?_
  rintro e w2 ⟨d0, rfl, hx, ho, hb⟩
  have Hd0 := Lib.hid hx
  clear hx
  have EAd0 := notin_lo ho bA.lt
  replace bA := bA.below hb bA.lt
  replace B := B.trans (hb.mono B.size)
  have Od0 := ho
  clear ho
  clear hb
  have Zd0 : Hid (GBig d0) := gbig_of Za.out Hd0.out
  go_wp2_with (refine wpList_load_all rfl 51 _ rfl (w.heap.size) (garr a) _ rfl bA Try.underlying51 rfl (by kernel_rfl) ?_)
  go_at_call 47
  refine (specCanRun_any d0 _).mono ?_
  rintro e w3 ⟨rfl, hb⟩
  replace bA := bA.below hb bA.lt
  replace Od0 := Od0.below hb (Nat.le_refl _)
  replace B := B.trans (hb.mono B.size)
  clear hb
  go_wp2_with (refine wpList_load_all rfl 51 _ rfl (w.heap.size) (garr a) _ rfl bA Try.underlying51 rfl (by kernel_rfl) ?_)
  go_at_call 48
  refine (toGuest_any a _ (Ra.out.below B (Nat.le_refl _)) Za.out).mono ?_
  rintro e w4 ⟨x0, rfl, hx, ho, hb⟩
  have Hx0 := Lib.hid hx
  clear hx
  have Dx0d0 : ∀ b ∈ x0.blks, b ∉ d0.blks := fun b hx hy => by have h1 := (Od0.blk_lt hy).2; have h2 := (ho.blk_lt hx).1; omega
  have EAx0 := notin_lo ho bA.lt
  replace bA := bA.below hb bA.lt
  replace Od0 := Od0.below hb (Nat.le_refl _)
  replace B := B.trans (hb.mono B.size)
  have Ox0 := ho
  clear ho
  clear hb
  have Zx0 : Hid (GBig x0) := gbig_of Za.out Hx0.out
  go_wp2_with (first | (refine wpList_load_all rfl 51 _ rfl (w.heap.size) (garr a) _ rfl bA Try.underlying51 rfl (by kernel_rfl) ?_) | (refine wpList_store_all rfl 37 _ _ rfl (w4.heap.size) (garr gzero) (garr x0) rfl rfl (Bx.new _ _ _) rfl (by kernel_rfl) (garr_one _) ?_; intro w5 bX0 o; have hb := only_below ((Below.refl w4.heap.size w4).alloc (Nat.le_refl _) (.cells (garr gzero) 37)) o (Nat.le_refl _); clear o; have EX0d0 := notin_hi Od0; have EX0x0 := notin_hi Ox0; replace bA := bA.below hb bA.lt; replace Od0 := Od0.below hb (Nat.le_refl _); replace Ox0 := Ox0.below hb (Nat.le_refl _); replace B := B.trans (hb.mono B.size); clear hb) | (refine wpList_load_all rfl 37 _ rfl (w4.heap.size) (garr x0) _ rfl bX0 Try.underlying37 rfl (by kernel_rfl) ?_))
  have Q0 : x0.m = d0.m := by rw [Hx0.out, Hd0.out]
  have QH0 := Lib.hid Q0
  clear Q0
  go_at_call 49
  refine (canRun_any x0 _).mono ?_
  rintro e w6 ⟨rfl, hb⟩
  replace bA := bA.below hb bA.lt
  replace bX0 := bX0.below hb bX0.lt
  replace Od0 := Od0.below hb (Nat.le_refl _)
  replace Ox0 := Ox0.below hb (Nat.le_refl _)
  replace B := B.trans (hb.mono B.size)
  clear hb
  rw [QH0.out]
  go_wp2_with (first | (refine wpList_load_all rfl 51 _ rfl (w.heap.size) (garr a) _ rfl bA Try.underlying51 rfl (by kernel_rfl) ?_) | (refine wpList_load_all rfl 37 _ rfl (w4.heap.size) (garr x0) _ rfl bX0 Try.underlying37 rfl (by kernel_rfl) ?_))
  go_region_held3 (fun w' => (∀ o, w'.cell? ⟨w4.heap.size, o, none⟩ = (garr x0)[o]?) ∧ (∀ o, w'.cell? ⟨w.heap.size, o, none⟩ = (garr a)[o]?)) (exact ⟨bX0.c, bA.c⟩)
    ((first | (go_at_call 48; refine (toGuest_any a _ (Ra.out.below B.drew (Nat.le_refl _)) Za.out).mono ?_; rintro e w7 ⟨t6, rfl, hx, ho, hb'⟩; have hb := (Below.refl w6.heap.size w6).drew.trans hb'; clear hb'; replace bA := bA.below hb bA.lt; replace bX0 := bX0.below hb bX0.lt; replace Od0 := Od0.below hb (Nat.le_refl _); replace Ox0 := Ox0.below hb (Nat.le_refl _); replace B := B.trans (hb.mono B.size); have Qt6 : (x0.m == t6.m) = true := (by simp [hx, Hx0.out]); clear hb hx) | (go_at_call 50; refine (eqGuest_any x0 t6 _ Ox0.rd ho.rd Zx0.out).mono ?_; rintro e w8 ⟨rfl, hb⟩; replace bA := bA.below hb bA.lt; replace bX0 := bX0.below hb bX0.lt; replace Od0 := Od0.below hb (Nat.le_refl _); replace Ox0 := Ox0.below hb (Nat.le_refl _); replace B := B.trans (hb.mono B.size); clear hb)))
  go_wp2_with (first | (refine wpList_load_all rfl 51 _ rfl (w.heap.size) (garr a) _ rfl bA Try.underlying51 rfl (by kernel_rfl) ?_) | (refine wpList_load_all rfl 37 _ rfl (w4.heap.size) (garr x0) _ rfl bX0 Try.underlying37 rfl (by kernel_rfl) ?_))
  go_ret
  exact ⟨rfl, B⟩

set_option maxRecDepth 100000 in
set_option maxHeartbeats 2000000 in
theorem walk_fnExactTakesIrq (a : GV) (w : World) (ra : GRd w a ∧ GWide a) : Calls Try.prog 12 #[a.val] w fun e w' => e = .returned (.bool true) ∧ Below w.heap.size w w' := by
  have Ra := Lib.hid ra.1
  have Wa := Lib.hid ra.2
  clear ra
  go_enter Try.func12, Try.ntmps12
  go_wp2_with (refine wpList_load_all rfl 51 _ rfl (w.heap.size) (garr a) _ rfl (Bx.new _ _ _) Try.underlying51 rfl (by kernel_rfl) ?_)
  go_at_call 46
  refine (szGuest_any a 1048576 _ Wa.out (by omega) (by omega)).mono ?_
  rintro e w1 ⟨rfl, hb⟩
  have bA : Bx w1 (w.heap.size) (garr a) := (Bx.new _ _ _).below hb (by (try simp) <;> omega)
  have B : Below w.heap.size w w1 := ((Below.refl _ _).alloc (by (try simp) <;> omega) _).trans (hb.mono (by (try simp) <;> omega))
  clear hb
  go_wp2_with (refine wpList_load_all rfl 51 _ rfl (w.heap.size) (garr a) _ rfl bA Try.underlying51 rfl (by kernel_rfl) ?_)
  · go_ret
    exact ⟨rfl, B⟩
  have hfit := szG_fit (1048576) a.m (by omega)
  have Za : Hid (GBig a) := by show GBig a; unfold GBig big; simp only [GV.m] at hfit; omega
  go_at_call 48
  refine (toGuest_any a _ (Ra.out.below B (Nat.le_refl _)) Za.out).mono ?_
  rintro e w2 ⟨d0, rfl, hx, ho, hb⟩
  have Hd0 := Lib.hid hx
  clear hx
  have EAd0 := notin_lo ho bA.lt
  replace bA := bA.below hb bA.lt
  replace B := B.trans (hb.mono B.size)
  have Od0 := ho
  clear ho
  clear hb
  have Zd0 : Hid (GBig d0) := gbig_of Za.out Hd0.out
  go_wp2_with (refine wpList_load_all rfl 51 _ rfl (w.heap.size) (garr a) _ rfl bA Try.underlying51 rfl (by kernel_rfl) ?_)
  go_at_call 55
  refine (specTakesIrq_any d0 _).mono ?_
  rintro e w3 ⟨rfl, hb⟩
  replace bA := bA.below hb bA.lt
  replace Od0 := Od0.below hb (Nat.le_refl _)
  replace B := B.trans (hb.mono B.size)
  clear hb
  go_wp2_with (refine wpList_load_all rfl 51 _ rfl (w.heap.size) (garr a) _ rfl bA Try.underlying51 rfl (by kernel_rfl) ?_)
  go_at_call 48
  refine (toGuest_any a _ (Ra.out.below B (Nat.le_refl _)) Za.out).mono ?_
  rintro e w4 ⟨x0, rfl, hx, ho, hb⟩
  have Hx0 := Lib.hid hx
  clear hx
  have Dx0d0 : ∀ b ∈ x0.blks, b ∉ d0.blks := fun b hx hy => by have h1 := (Od0.blk_lt hy).2; have h2 := (ho.blk_lt hx).1; omega
  have EAx0 := notin_lo ho bA.lt
  replace bA := bA.below hb bA.lt
  replace Od0 := Od0.below hb (Nat.le_refl _)
  replace B := B.trans (hb.mono B.size)
  have Ox0 := ho
  clear ho
  clear hb
  have Zx0 : Hid (GBig x0) := gbig_of Za.out Hx0.out
  go_wp2_with (first | (refine wpList_load_all rfl 51 _ rfl (w.heap.size) (garr a) _ rfl bA Try.underlying51 rfl (by kernel_rfl) ?_) | (refine wpList_store_all rfl 37 _ _ rfl (w4.heap.size) (garr gzero) (garr x0) rfl rfl (Bx.new _ _ _) rfl (by kernel_rfl) (garr_one _) ?_; intro w5 bX0 o; have hb := only_below ((Below.refl w4.heap.size w4).alloc (Nat.le_refl _) (.cells (garr gzero) 37)) o (Nat.le_refl _); clear o; have EX0d0 := notin_hi Od0; have EX0x0 := notin_hi Ox0; replace bA := bA.below hb bA.lt; replace Od0 := Od0.below hb (Nat.le_refl _); replace Ox0 := Ox0.below hb (Nat.le_refl _); replace B := B.trans (hb.mono B.size); clear hb) | (refine wpList_load_all rfl 37 _ rfl (w4.heap.size) (garr x0) _ rfl bX0 Try.underlying37 rfl (by kernel_rfl) ?_))
  have Q0 : x0.m = d0.m := by rw [Hx0.out, Hd0.out]
  have QH0 := Lib.hid Q0
  clear Q0
  go_at_call 56
  refine (takesIrq_any x0 _).mono ?_
  rintro e w6 ⟨rfl, hb⟩
  replace bA := bA.below hb bA.lt
  replace bX0 := bX0.below hb bX0.lt
  replace Od0 := Od0.below hb (Nat.le_refl _)
  replace Ox0 := Ox0.below hb (Nat.le_refl _)
  replace B := B.trans (hb.mono B.size)
  clear hb
  rw [QH0.out]
  go_wp2_with (first | (refine wpList_load_all rfl 51 _ rfl (w.heap.size) (garr a) _ rfl bA Try.underlying51 rfl (by kernel_rfl) ?_) | (refine wpList_load_all rfl 37 _ rfl (w4.heap.size) (garr x0) _ rfl bX0 Try.underlying37 rfl (by kernel_rfl) ?_))
  go_region_held3 (fun w' => (∀ o, w'.cell? ⟨w4.heap.size, o, none⟩ = (garr x0)[o]?) ∧ (∀ o, w'.cell? ⟨w.heap.size, o, none⟩ = (garr a)[o]?)) (exact ⟨bX0.c, bA.c⟩)
    ((first | (go_at_call 48; refine (toGuest_any a _ (Ra.out.below B.drew (Nat.le_refl _)) Za.out).mono ?_; rintro e w7 ⟨t6, rfl, hx, ho, hb'⟩; have hb := (Below.refl w6.heap.size w6).drew.trans hb'; clear hb'; replace bA := bA.below hb bA.lt; replace bX0 := bX0.below hb bX0.lt; replace Od0 := Od0.below hb (Nat.le_refl _); replace Ox0 := Ox0.below hb (Nat.le_refl _); replace B := B.trans (hb.mono B.size); have Qt6 : (x0.m == t6.m) = true := (by simp [hx, Hx0.out]); clear hb hx) | (go_at_call 50; refine (eqGuest_any x0 t6 _ Ox0.rd ho.rd Zx0.out).mono ?_; rintro e w8 ⟨rfl, hb⟩; replace bA := bA.below hb bA.lt; replace bX0 := bX0.below hb bX0.lt; replace Od0 := Od0.below hb (Nat.le_refl _); replace Ox0 := Ox0.below hb (Nat.le_refl _); replace B := B.trans (hb.mono B.size); clear hb)))
  go_wp2_with (first | (refine wpList_load_all rfl 51 _ rfl (w.heap.size) (garr a) _ rfl bA Try.underlying51 rfl (by kernel_rfl) ?_) | (refine wpList_load_all rfl 37 _ rfl (w4.heap.size) (garr x0) _ rfl bX0 Try.underlying37 rfl (by kernel_rfl) ?_))
  go_ret
  exact ⟨rfl, B⟩

set_option maxRecDepth 100000 in
set_option maxHeartbeats 2000000 in
theorem walk_fnExactWantOf (a : GV) (w : World) (ra : GRd w a ∧ GWide a) : Calls Try.prog 15 #[a.val] w fun e w' => e = .returned (.bool true) ∧ Below w.heap.size w w' := by
  have Ra := Lib.hid ra.1
  have Wa := Lib.hid ra.2
  clear ra
  go_enter Try.func15, Try.ntmps15
  go_wp2_with (refine wpList_load_all rfl 51 _ rfl (w.heap.size) (garr a) _ rfl (Bx.new _ _ _) Try.underlying51 rfl (by kernel_rfl) ?_)
  go_at_call 46
  refine (szGuest_any a 1048576 _ Wa.out (by omega) (by omega)).mono ?_
  rintro e w1 ⟨rfl, hb⟩
  have bA : Bx w1 (w.heap.size) (garr a) := (Bx.new _ _ _).below hb (by (try simp) <;> omega)
  have B : Below w.heap.size w w1 := ((Below.refl _ _).alloc (by (try simp) <;> omega) _).trans (hb.mono (by (try simp) <;> omega))
  clear hb
  go_wp2_with (refine wpList_load_all rfl 51 _ rfl (w.heap.size) (garr a) _ rfl bA Try.underlying51 rfl (by kernel_rfl) ?_)
  · go_ret
    exact ⟨rfl, B⟩
  have hfit := szG_fit (1048576) a.m (by omega)
  have Za : Hid (GBig a) := by show GBig a; unfold GBig big; simp only [GV.m] at hfit; omega
  go_at_call 48
  refine (toGuest_any a _ (Ra.out.below B (Nat.le_refl _)) Za.out).mono ?_
  rintro e w2 ⟨d0, rfl, hx, ho, hb⟩
  have Hd0 := Lib.hid hx
  clear hx
  have EAd0 := notin_lo ho bA.lt
  replace bA := bA.below hb bA.lt
  replace B := B.trans (hb.mono B.size)
  have Od0 := ho
  clear ho
  clear hb
  have Zd0 : Hid (GBig d0) := gbig_of Za.out Hd0.out
  go_wp2_with (refine wpList_load_all rfl 51 _ rfl (w.heap.size) (garr a) _ rfl bA Try.underlying51 rfl (by kernel_rfl) ?_)
  go_at_call 67
  refine (specWantOf_any d0 _ Od0.rd.prog Zd0.out.1).mono ?_
  rintro e w3 ⟨rfl, hb⟩
  replace bA := bA.below hb bA.lt
  replace Od0 := Od0.below hb (Nat.le_refl _)
  replace B := B.trans (hb.mono B.size)
  clear hb
  go_wp2_with (refine wpList_load_all rfl 51 _ rfl (w.heap.size) (garr a) _ rfl bA Try.underlying51 rfl (by kernel_rfl) ?_)
  go_at_call 48
  refine (toGuest_any a _ (Ra.out.below B (Nat.le_refl _)) Za.out).mono ?_
  rintro e w4 ⟨x0, rfl, hx, ho, hb⟩
  have Hx0 := Lib.hid hx
  clear hx
  have Dx0d0 : ∀ b ∈ x0.blks, b ∉ d0.blks := fun b hx hy => by have h1 := (Od0.blk_lt hy).2; have h2 := (ho.blk_lt hx).1; omega
  have EAx0 := notin_lo ho bA.lt
  replace bA := bA.below hb bA.lt
  replace Od0 := Od0.below hb (Nat.le_refl _)
  replace B := B.trans (hb.mono B.size)
  have Ox0 := ho
  clear ho
  clear hb
  have Zx0 : Hid (GBig x0) := gbig_of Za.out Hx0.out
  go_wp2_with (first | (refine wpList_load_all rfl 51 _ rfl (w.heap.size) (garr a) _ rfl bA Try.underlying51 rfl (by kernel_rfl) ?_) | (refine wpList_store_all rfl 37 _ _ rfl (w4.heap.size) (garr gzero) (garr x0) rfl rfl (Bx.new _ _ _) rfl (by kernel_rfl) (garr_one _) ?_; intro w5 bX0 o; have hb := only_below ((Below.refl w4.heap.size w4).alloc (Nat.le_refl _) (.cells (garr gzero) 37)) o (Nat.le_refl _); clear o; have EX0d0 := notin_hi Od0; have EX0x0 := notin_hi Ox0; replace bA := bA.below hb bA.lt; replace Od0 := Od0.below hb (Nat.le_refl _); replace Ox0 := Ox0.below hb (Nat.le_refl _); replace B := B.trans (hb.mono B.size); clear hb) | (refine wpList_load_all rfl 37 _ rfl (w4.heap.size) (garr x0) _ rfl bX0 Try.underlying37 rfl (by kernel_rfl) ?_))
  have Q0 : x0.m = d0.m := by rw [Hx0.out, Hd0.out]
  have QH0 := Lib.hid Q0
  clear Q0
  go_at_call 52
  refine (wantOf_any x0 _ Ox0.rd.prog Zx0.out.1).mono ?_
  rintro e w6 ⟨rfl, hb⟩
  replace bA := bA.below hb bA.lt
  replace bX0 := bX0.below hb bX0.lt
  replace Od0 := Od0.below hb (Nat.le_refl _)
  replace Ox0 := Ox0.below hb (Nat.le_refl _)
  replace B := B.trans (hb.mono B.size)
  clear hb
  rw [QH0.out]
  go_wp2_with (first | (refine wpList_load_all rfl 51 _ rfl (w.heap.size) (garr a) _ rfl bA Try.underlying51 rfl (by kernel_rfl) ?_) | (refine wpList_load_all rfl 37 _ rfl (w4.heap.size) (garr x0) _ rfl bX0 Try.underlying37 rfl (by kernel_rfl) ?_))
  go_region_held3 (fun w' => (∀ o, w'.cell? ⟨w4.heap.size, o, none⟩ = (garr x0)[o]?) ∧ (∀ o, w'.cell? ⟨w.heap.size, o, none⟩ = (garr a)[o]?)) (exact ⟨bX0.c, bA.c⟩)
    ((first | (go_at_call 48; refine (toGuest_any a _ (Ra.out.below B.drew (Nat.le_refl _)) Za.out).mono ?_; rintro e w7 ⟨t6, rfl, hx, ho, hb'⟩; have hb := (Below.refl w6.heap.size w6).drew.trans hb'; clear hb'; replace bA := bA.below hb bA.lt; replace bX0 := bX0.below hb bX0.lt; replace Od0 := Od0.below hb (Nat.le_refl _); replace Ox0 := Ox0.below hb (Nat.le_refl _); replace B := B.trans (hb.mono B.size); have Qt6 : (x0.m == t6.m) = true := (by simp [hx, Hx0.out]); clear hb hx) | (go_at_call 50; refine (eqGuest_any x0 t6 _ Ox0.rd ho.rd Zx0.out).mono ?_; rintro e w8 ⟨rfl, hb⟩; replace bA := bA.below hb bA.lt; replace bX0 := bX0.below hb bX0.lt; replace Od0 := Od0.below hb (Nat.le_refl _); replace Ox0 := Ox0.below hb (Nat.le_refl _); replace B := B.trans (hb.mono B.size); clear hb)))
  go_wp2_with (first | (refine wpList_load_all rfl 51 _ rfl (w.heap.size) (garr a) _ rfl bA Try.underlying51 rfl (by kernel_rfl) ?_) | (refine wpList_load_all rfl 37 _ rfl (w4.heap.size) (garr x0) _ rfl bX0 Try.underlying37 rfl (by kernel_rfl) ?_))
  go_ret
  exact ⟨rfl, B⟩

set_option maxRecDepth 100000 in
set_option maxHeartbeats 2000000 in
theorem walk_fnExactAddress (a : GV) (w : World) (ra : GRd w a ∧ GWide a) : Calls Try.prog 19 #[a.val] w fun e w' => e = .returned (.bool true) ∧ Below w.heap.size w w' := by
  have Ra := Lib.hid ra.1
  have Wa := Lib.hid ra.2
  clear ra
  go_enter Try.func19, Try.ntmps19
  go_wp2_with (refine wpList_load_all rfl 51 _ rfl (w.heap.size) (garr a) _ rfl (Bx.new _ _ _) Try.underlying51 rfl (by kernel_rfl) ?_)
  go_at_call 46
  refine (szGuest_any a 1048576 _ Wa.out (by omega) (by omega)).mono ?_
  rintro e w1 ⟨rfl, hb⟩
  have bA : Bx w1 (w.heap.size) (garr a) := (Bx.new _ _ _).below hb (by (try simp) <;> omega)
  have B : Below w.heap.size w w1 := ((Below.refl _ _).alloc (by (try simp) <;> omega) _).trans (hb.mono (by (try simp) <;> omega))
  clear hb
  go_wp2_with (refine wpList_load_all rfl 51 _ rfl (w.heap.size) (garr a) _ rfl bA Try.underlying51 rfl (by kernel_rfl) ?_)
  · go_ret
    exact ⟨rfl, B⟩
  have hfit := szG_fit (1048576) a.m (by omega)
  have Za : Hid (GBig a) := by show GBig a; unfold GBig big; simp only [GV.m] at hfit; omega
  go_at_call 48
  refine (toGuest_any a _ (Ra.out.below B (Nat.le_refl _)) Za.out).mono ?_
  rintro e w2 ⟨d0, rfl, hx, ho, hb⟩
  have Hd0 := Lib.hid hx
  clear hx
  have EAd0 := notin_lo ho bA.lt
  replace bA := bA.below hb bA.lt
  replace B := B.trans (hb.mono B.size)
  have Od0 := ho
  clear ho
  clear hb
  have Zd0 : Hid (GBig d0) := gbig_of Za.out Hd0.out
  go_wp2_with (refine wpList_load_all rfl 51 _ rfl (w.heap.size) (garr a) _ rfl bA Try.underlying51 rfl (by kernel_rfl) ?_)
  go_at_call 73
  refine (specAddress_any d0 _ Od0.rd.prog Zd0.out.1).mono ?_
  rintro e w3 ⟨rfl, hb⟩
  replace bA := bA.below hb bA.lt
  replace Od0 := Od0.below hb (Nat.le_refl _)
  replace B := B.trans (hb.mono B.size)
  clear hb
  go_wp2_with (refine wpList_load_all rfl 51 _ rfl (w.heap.size) (garr a) _ rfl bA Try.underlying51 rfl (by kernel_rfl) ?_)
  go_at_call 48
  refine (toGuest_any a _ (Ra.out.below B (Nat.le_refl _)) Za.out).mono ?_
  rintro e w4 ⟨x0, rfl, hx, ho, hb⟩
  have Hx0 := Lib.hid hx
  clear hx
  have Dx0d0 : ∀ b ∈ x0.blks, b ∉ d0.blks := fun b hx hy => by have h1 := (Od0.blk_lt hy).2; have h2 := (ho.blk_lt hx).1; omega
  have EAx0 := notin_lo ho bA.lt
  replace bA := bA.below hb bA.lt
  replace Od0 := Od0.below hb (Nat.le_refl _)
  replace B := B.trans (hb.mono B.size)
  have Ox0 := ho
  clear ho
  clear hb
  have Zx0 : Hid (GBig x0) := gbig_of Za.out Hx0.out
  go_wp2_with (first | (refine wpList_load_all rfl 51 _ rfl (w.heap.size) (garr a) _ rfl bA Try.underlying51 rfl (by kernel_rfl) ?_) | (refine wpList_store_all rfl 37 _ _ rfl (w4.heap.size) (garr gzero) (garr x0) rfl rfl (Bx.new _ _ _) rfl (by kernel_rfl) (garr_one _) ?_; intro w5 bX0 o; have hb := only_below ((Below.refl w4.heap.size w4).alloc (Nat.le_refl _) (.cells (garr gzero) 37)) o (Nat.le_refl _); clear o; have EX0d0 := notin_hi Od0; have EX0x0 := notin_hi Ox0; replace bA := bA.below hb bA.lt; replace Od0 := Od0.below hb (Nat.le_refl _); replace Ox0 := Ox0.below hb (Nat.le_refl _); replace B := B.trans (hb.mono B.size); clear hb) | (refine wpList_load_all rfl 37 _ rfl (w4.heap.size) (garr x0) _ rfl bX0 Try.underlying37 rfl (by kernel_rfl) ?_))
  have Q0 : x0.m = d0.m := by rw [Hx0.out, Hd0.out]
  have QH0 := Lib.hid Q0
  clear Q0
  go_at_call 74
  refine (address_any x0 _ Ox0.rd.prog Zx0.out.1).mono ?_
  rintro e w6 ⟨rfl, hb⟩
  replace bA := bA.below hb bA.lt
  replace bX0 := bX0.below hb bX0.lt
  replace Od0 := Od0.below hb (Nat.le_refl _)
  replace Ox0 := Ox0.below hb (Nat.le_refl _)
  replace B := B.trans (hb.mono B.size)
  clear hb
  rw [QH0.out]
  go_wp2_with (first | (refine wpList_load_all rfl 51 _ rfl (w.heap.size) (garr a) _ rfl bA Try.underlying51 rfl (by kernel_rfl) ?_) | (refine wpList_load_all rfl 37 _ rfl (w4.heap.size) (garr x0) _ rfl bX0 Try.underlying37 rfl (by kernel_rfl) ?_))
  go_region_held3 (fun w' => (∀ o, w'.cell? ⟨w4.heap.size, o, none⟩ = (garr x0)[o]?) ∧ (∀ o, w'.cell? ⟨w.heap.size, o, none⟩ = (garr a)[o]?)) (exact ⟨bX0.c, bA.c⟩)
    ((first | (go_at_call 48; refine (toGuest_any a _ (Ra.out.below B.drew (Nat.le_refl _)) Za.out).mono ?_; rintro e w7 ⟨t6, rfl, hx, ho, hb'⟩; have hb := (Below.refl w6.heap.size w6).drew.trans hb'; clear hb'; replace bA := bA.below hb bA.lt; replace bX0 := bX0.below hb bX0.lt; replace Od0 := Od0.below hb (Nat.le_refl _); replace Ox0 := Ox0.below hb (Nat.le_refl _); replace B := B.trans (hb.mono B.size); have Qt6 : (x0.m == t6.m) = true := (by simp [hx, Hx0.out]); clear hb hx) | (go_at_call 50; refine (eqGuest_any x0 t6 _ Ox0.rd ho.rd Zx0.out).mono ?_; rintro e w8 ⟨rfl, hb⟩; replace bA := bA.below hb bA.lt; replace bX0 := bX0.below hb bX0.lt; replace Od0 := Od0.below hb (Nat.le_refl _); replace Ox0 := Ox0.below hb (Nat.le_refl _); replace B := B.trans (hb.mono B.size); clear hb)))
  go_wp2_with (first | (refine wpList_load_all rfl 51 _ rfl (w.heap.size) (garr a) _ rfl bA Try.underlying51 rfl (by kernel_rfl) ?_) | (refine wpList_load_all rfl 37 _ rfl (w4.heap.size) (garr x0) _ rfl bX0 Try.underlying37 rfl (by kernel_rfl) ?_))
  go_ret
  exact ⟨rfl, B⟩
end Go.Proofs.Ytglolhdccaabbaa
