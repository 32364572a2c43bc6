/- Walks of the exact laws FnExactBareSteps. No condition but that the arguments lie in memory. -/
import Derived.Test.YthpoieoaaikpmaaGreatBh
import Derived.Test.YthpoieoaaikpmaaGreatTc
import Derived.Test.YthpoieoaaikpmaaGreatBm
import Derived.Test.YthpoieoaaikpmaaGreatGd
namespace Go.Proofs.YthpoieoaaikpmaaGreat
set_option linter.unusedSimpArgs false
set_option linter.unusedVariables false
open Go.RowKit
attribute [local go_sem ↓] Go.wp_at_zero Go.wp_at_succ
theorem eqBools_H (s t : Sl Bool) {w0 w : World} {L L1 L2 : List En} (H : Hp w0 w L) (ts : Take L (.bools s) L1) (tt : Take L (.bools t) L2) (Z : s.xs.length ≤ 4194304) (e : s.xs = t.xs) : Calls Tryz.prog 15 #[.slice s.A s.xs.length s.c, .slice t.A t.xs.length t.c] w fun e w' => e = .returned (.bool true) ∧ Hp w0 w' L :=
  (eqBoolS_c s t w (H.rd ts bool_len) (H.rd tt bool_len) Z).mono fun _ _ ⟨he, K⟩ => ⟨by rw [he, e]; simp, H.add_all K⟩
theorem heldBM_H (s : Sl Bool) (k0 : Int) (h0 : 0 ≤ k0) (h1 : k0 ≤ 1000000000000) {w0 w : World} {L L' : List En} (H : Hp w0 w L) (t : Take L (.bools ⟨s.A, s.c, marksB k0 s.xs.length⟩) L') (Z : s.xs.length ≤ 4194304) : Calls Tryz.prog 19 #[.slice s.A s.xs.length s.c, .int .i64 k0] w fun e w' => e = .returned (.int .i64 (k0 + 1 * (s.xs.length : Int))) ∧ Hp w0 w' (.bools ⟨s.A, s.c, marksB k0 s.xs.length⟩ :: L') := by
  have hl : (marksB k0 s.xs.length).length = s.xs.length := by simp [marksB]
  have h := heldBoolS_H ⟨s.A, s.c, marksB k0 s.xs.length⟩ k0 h0 h1 H t (by show marksB k0 s.xs.length = marksB k0 (marksB k0 s.xs.length).length; rw [hl]) (by show (marksB k0 s.xs.length).length ≤ _; rw [hl]; exact Z)
  simp only [hl] at h
  exact h
theorem eqI2_H (s t : Sl Int) {w0 w : World} {L L1 L2 : List En} (H : Hp w0 w L) (ts : Take L (.int s) L1) (tt : Take L (.int t) L2) (Z : s.xs.length ≤ 4194304) (e : s.xs = t.xs) : Calls Tryz.prog 16 #[.slice s.A s.xs.length s.c, .slice t.A t.xs.length t.c] w fun e w' => e = .returned (.bool true) ∧ Hp w0 w' L :=
  (eqIntS_any s t w (H.rd ts int_len) (H.rd tt int_len) (by unfold big; exact Z)).mono fun _ _ ⟨he, hb⟩ => ⟨by rw [he, e]; simp, H.still hb⟩
theorem markI2_H (s : Sl Int) (k0 : Int) (h0 : 0 ≤ k0) (h1 : k0 ≤ 1000000000000) {w0 w : World} {L L' : List En} (H : Hp w0 w L) (t : Take L (.int s) L') (Z : s.xs.length ≤ 4194304) : Calls Tryz.prog 17 #[.slice s.A s.xs.length s.c, .int .i64 k0] w fun e w' => e = .returned (.int .i64 (k0 + 1 * (s.xs.length : Int))) ∧ Hp w0 w' (.int ⟨s.A, s.c, marksInt k0 s.xs.length⟩ :: L') :=
  (markIntS_any s 0 k0 w (H.get t) (by unfold big; exact Z) h0 h1).mono fun _ _ ⟨he, ho, ht⟩ => ⟨he, H.swap_at (e' := .int ⟨s.A, s.c, marksInt k0 s.xs.length⟩) t ht ho rfl⟩
theorem markB2_le {B : BV} (Z : BBig B) : B.markEnd 1 ≤ 10000000000 := by
  have h1 := Z.sums.1; have h2 := Z.sums.2; have h3 := Z.outs
  unfold BV.markEnd BV.k2 BV.k1; omega
set_option linter.unusedSimpArgs false in
set_option linter.unusedVariables false in
set_option maxRecDepth 100000 in
set_option maxHeartbeats 8000000 in
theorem walk_fnExactBareSteps (A : BV) (l : Sl Int) (W0 : World) (ra : BRd W0 A ∧ BWide A) (rl : Rd icell 1 W0 l ∧ l.xs.length ≤ maxLen) : Calls Tryz.prog 4 #[A.val, .slice l.A l.xs.length l.c] W0 fun e w' => e = .returned (.bool true) ∧ Below W0.heap.size W0 w' := by
  obtain ⟨R, Wd⟩ := ra
  obtain ⟨Rl, Wl⟩ := rl
  have H := Hp.start W0
  by_cases hbig : 1048576 < l.xs.length
  · have hb : decide (1048576 < l.xs.length) = true := decide_eq_true hbig
    go_enter Tryz.func4, Tryz.ntmps4
    go_wp2_with (first
      | go_skip
      | ((with_reducible refine at_box ?_); first | (refine wpList_box_H (cs := (barr A).toList) rfl rfl H rfl CellsOf.agg ?_; clear H; intro bA w H) | (refine wpList_box_H rfl rfl H rfl (by first | exact CellsOf.agg | exact CellsOf.int | exact CellsOf.bool | exact CellsOf.slice | exact CellsOf.string | exact CellsOf.pointer | exact CellsOf.func) ?_; clear H; intro bQ w H))
      | ((with_reducible refine at_alloc ?_); first | (refine wpList_alloc_H rfl rfl H ?_; clear H; intro b w H))
      | ((with_reducible refine at_load ?_); first | (refine wpList_load_H rfl rfl H rfl (by repeat (first | exact LoadAt.here rfl | apply LoadAt.there)) ?_) | (refine wpList_loads_H rfl rfl H rfl (by repeat (first | (apply LoadsAt.here; repeat (first | exact GetsAt.nil | apply GetsAt.here | apply GetsAt.there)) | apply LoadsAt.there)) ?_))
      | ((with_reducible refine at_store ?_); first | (refine wpList_store_H rfl rfl H rfl rfl (by repeat (first | (apply StoreAt.here; (first | exact CellsOf.agg | exact CellsOf.int | exact CellsOf.bool | exact CellsOf.slice | exact CellsOf.string | exact CellsOf.pointer | exact CellsOf.func); (repeat (first | exact SetsAt.nil | apply SetsAt.here | apply SetsAt.there)); exact rfl; exact rfl) | apply StoreAt.there)) ?_; clear H; intro w H)))
    go_ret
    exact ⟨rfl, H.below⟩
  have hb : decide (1048576 < l.xs.length) = false := decide_eq_false hbig
  have Zl : l.xs.length ≤ 1048576 := by omega
  by_cases hneg : szM 1048576 A.m.size < 0
  · go_enter Tryz.func4, Tryz.ntmps4
    go_wp2_with (first
      | go_skip
      | ((with_reducible refine at_box ?_); first | (refine wpList_box_H (cs := (barr A).toList) rfl rfl H rfl CellsOf.agg ?_; clear H; intro bA w H) | (refine wpList_box_H rfl rfl H rfl (by first | exact CellsOf.agg | exact CellsOf.int | exact CellsOf.bool | exact CellsOf.slice | exact CellsOf.string | exact CellsOf.pointer | exact CellsOf.func) ?_; clear H; intro bQ w H))
      | ((with_reducible refine at_alloc ?_); first | (refine wpList_alloc_H rfl rfl H ?_; clear H; intro b w H))
      | ((with_reducible refine at_load ?_); first | (refine wpList_load_H rfl rfl H rfl (by repeat (first | exact LoadAt.here rfl | apply LoadAt.there)) ?_) | (refine wpList_loads_H rfl rfl H rfl (by repeat (first | (apply LoadsAt.here; repeat (first | exact GetsAt.nil | apply GetsAt.here | apply GetsAt.there)) | apply LoadsAt.there)) ?_))
      | ((with_reducible refine at_store ?_); first | (refine wpList_store_H rfl rfl H rfl rfl (by repeat (first | (apply StoreAt.here; (first | exact CellsOf.agg | exact CellsOf.int | exact CellsOf.bool | exact CellsOf.slice | exact CellsOf.string | exact CellsOf.pointer | exact CellsOf.func); (repeat (first | exact SetsAt.nil | apply SetsAt.here | apply SetsAt.there)); exact rfl; exact rfl) | apply StoreAt.there)) ?_; clear H; intro w H)))
    go_at_call 5
    refine (szB_H A H R Wd).mono ?_
    clear H
    rintro e w ⟨rfl, H⟩
    go_wp2_with (first
      | go_skip
      | ((with_reducible refine at_box ?_); first | (refine wpList_box_H (cs := (barr A).toList) rfl rfl H rfl CellsOf.agg ?_; clear H; intro bA w H) | (refine wpList_box_H rfl rfl H rfl (by first | exact CellsOf.agg | exact CellsOf.int | exact CellsOf.bool | exact CellsOf.slice | exact CellsOf.string | exact CellsOf.pointer | exact CellsOf.func) ?_; clear H; intro bQ w H))
      | ((with_reducible refine at_alloc ?_); first | (refine wpList_alloc_H rfl rfl H ?_; clear H; intro b w H))
      | ((with_reducible refine at_load ?_); first | (refine wpList_load_H rfl rfl H rfl (by repeat (first | exact LoadAt.here rfl | apply LoadAt.there)) ?_) | (refine wpList_loads_H rfl rfl H rfl (by repeat (first | (apply LoadsAt.here; repeat (first | exact GetsAt.nil | apply GetsAt.here | apply GetsAt.there)) | apply LoadsAt.there)) ?_))
      | ((with_reducible refine at_store ?_); first | (refine wpList_store_H rfl rfl H rfl rfl (by repeat (first | (apply StoreAt.here; (first | exact CellsOf.agg | exact CellsOf.int | exact CellsOf.bool | exact CellsOf.slice | exact CellsOf.string | exact CellsOf.pointer | exact CellsOf.func); (repeat (first | exact SetsAt.nil | apply SetsAt.here | apply SetsAt.there)); exact rfl; exact rfl) | apply StoreAt.there)) ?_; clear H; intro w H)))
    go_ret
    exact ⟨rfl, H.below⟩
  have hsz := bbig_sz hneg
  have Z : BBig A := by unfold BBig; omega
  obtain ⟨m, hm⟩ : ∃ m, m = stepsM A.m l.xs := ⟨_, rfl⟩
  have MB : m.size ≤ 4194304 := by rw [hm]; rcases stepsM_size A.m l.xs with h | h <;> omega
  have HM := Lib.hid hm; clear hm
  obtain ⟨tl, htl⟩ : ∃ tl, tl = toldM A.m l.xs := ⟨_, rfl⟩
  have ML : tl.length ≤ 4194304 := by rw [htl, toldM_len]; omega
  have HT := Lib.hid htl; clear htl
  go_enter Tryz.func4, Tryz.ntmps4
  go_wp2_with (first
    | go_skip
    | ((with_reducible refine at_box ?_); first | (refine wpList_box_H (cs := (barr A).toList) rfl rfl H rfl CellsOf.agg ?_; clear H; intro bA w H) | (refine wpList_box_H rfl rfl H rfl (by first | exact CellsOf.agg | exact CellsOf.int | exact CellsOf.bool | exact CellsOf.slice | exact CellsOf.string | exact CellsOf.pointer | exact CellsOf.func) ?_; clear H; intro bQ w H))
    | ((with_reducible refine at_alloc ?_); first | (refine wpList_alloc_H rfl rfl H ?_; clear H; intro b w H))
    | ((with_reducible refine at_load ?_); first | (refine wpList_load_H rfl rfl H rfl (by repeat (first | exact LoadAt.here rfl | apply LoadAt.there)) ?_) | (refine wpList_loads_H rfl rfl H rfl (by repeat (first | (apply LoadsAt.here; repeat (first | exact GetsAt.nil | apply GetsAt.here | apply GetsAt.there)) | apply LoadsAt.there)) ?_))
    | ((with_reducible refine at_store ?_); first | (refine wpList_store_H rfl rfl H rfl rfl (by repeat (first | (apply StoreAt.here; (first | exact CellsOf.agg | exact CellsOf.int | exact CellsOf.bool | exact CellsOf.slice | exact CellsOf.string | exact CellsOf.pointer | exact CellsOf.func); (repeat (first | exact SetsAt.nil | apply SetsAt.here | apply SetsAt.there)); exact rfl; exact rfl) | apply StoreAt.there)) ?_; clear H; intro w H)))
  go_at_call 5
  refine (szB_H A H R Wd).mono ?_
  clear H
  rintro e w ⟨rfl, H⟩
  go_wp2_with (first
    | go_skip
    | ((with_reducible refine at_box ?_); first | (refine wpList_box_H (cs := (barr A).toList) rfl rfl H rfl CellsOf.agg ?_; clear H; intro bA w H) | (refine wpList_box_H rfl rfl H rfl (by first | exact CellsOf.agg | exact CellsOf.int | exact CellsOf.bool | exact CellsOf.slice | exact CellsOf.string | exact CellsOf.pointer | exact CellsOf.func) ?_; clear H; intro bQ w H))
    | ((with_reducible refine at_alloc ?_); first | (refine wpList_alloc_H rfl rfl H ?_; clear H; intro b w H))
    | ((with_reducible refine at_load ?_); first | (refine wpList_load_H rfl rfl H rfl (by repeat (first | exact LoadAt.here rfl | apply LoadAt.there)) ?_) | (refine wpList_loads_H rfl rfl H rfl (by repeat (first | (apply LoadsAt.here; repeat (first | exact GetsAt.nil | apply GetsAt.here | apply GetsAt.there)) | apply LoadsAt.there)) ?_))
    | ((with_reducible refine at_store ?_); first | (refine wpList_store_H rfl rfl H rfl rfl (by repeat (first | (apply StoreAt.here; (first | exact CellsOf.agg | exact CellsOf.int | exact CellsOf.bool | exact CellsOf.slice | exact CellsOf.string | exact CellsOf.pointer | exact CellsOf.func); (repeat (first | exact SetsAt.nil | apply SetsAt.here | apply SetsAt.there)); exact rfl; exact rfl) | apply StoreAt.there)) ?_; clear H; intro w H)))
  clear hneg
  go_at_call 7
  refine (toB_H A H R Z).mono ?_
  clear H
  rintro e w ⟨d0, rfl, Hd0, H⟩
  have Zd0 := bbig_m Z Hd0
  go_wp2_with (first
    | go_skip
    | ((with_reducible refine at_box ?_); first | (refine wpList_box_H (cs := (barr A).toList) rfl rfl H rfl CellsOf.agg ?_; clear H; intro bA w H) | (refine wpList_box_H rfl rfl H rfl (by first | exact CellsOf.agg | exact CellsOf.int | exact CellsOf.bool | exact CellsOf.slice | exact CellsOf.string | exact CellsOf.pointer | exact CellsOf.func) ?_; clear H; intro bQ w H))
    | ((with_reducible refine at_alloc ?_); first | (refine wpList_alloc_H rfl rfl H ?_; clear H; intro b w H))
    | ((with_reducible refine at_load ?_); first | (refine wpList_load_H rfl rfl H rfl (by repeat (first | exact LoadAt.here rfl | apply LoadAt.there)) ?_) | (refine wpList_loads_H rfl rfl H rfl (by repeat (first | (apply LoadsAt.here; repeat (first | exact GetsAt.nil | apply GetsAt.here | apply GetsAt.there)) | apply LoadsAt.there)) ?_))
    | ((with_reducible refine at_store ?_); first | (refine wpList_store_H rfl rfl H rfl rfl (by repeat (first | (apply StoreAt.here; (first | exact CellsOf.agg | exact CellsOf.int | exact CellsOf.bool | exact CellsOf.slice | exact CellsOf.string | exact CellsOf.pointer | exact CellsOf.func); (repeat (first | exact SetsAt.nil | apply SetsAt.here | apply SetsAt.there)); exact rfl; exact rfl) | apply StoreAt.there)) ?_; clear H; intro w H)))
  go_at_call 13
  refine (toIntS_any l _ (Rl.at_ H) (by unfold big; omega)).mono ?_
  rintro e w ⟨i0, rfl, hx, ho, hb⟩
  have Hi0 : Hid (i0.xs = l.xs) := Lib.hid hx
  clear hx
  replace H := H.add_sl ho hb
  clear ho hb
  have Zi0 : i0.xs.length ≤ 1048576 := by rw [Hi0.out]; exact Zl
  go_wp2_with (first
    | go_skip
    | ((with_reducible refine at_box ?_); first | (refine wpList_box_H (cs := (barr A).toList) rfl rfl H rfl CellsOf.agg ?_; clear H; intro bA w H) | (refine wpList_box_H rfl rfl H rfl (by first | exact CellsOf.agg | exact CellsOf.int | exact CellsOf.bool | exact CellsOf.slice | exact CellsOf.string | exact CellsOf.pointer | exact CellsOf.func) ?_; clear H; intro bQ w H))
    | ((with_reducible refine at_alloc ?_); first | (refine wpList_alloc_H rfl rfl H ?_; clear H; intro b w H))
    | ((with_reducible refine at_load ?_); first | (refine wpList_load_H rfl rfl H rfl (by repeat (first | exact LoadAt.here rfl | apply LoadAt.there)) ?_) | (refine wpList_loads_H rfl rfl H rfl (by repeat (first | (apply LoadsAt.here; repeat (first | exact GetsAt.nil | apply GetsAt.here | apply GetsAt.there)) | apply LoadsAt.there)) ?_))
    | ((with_reducible refine at_store ?_); first | (refine wpList_store_H rfl rfl H rfl rfl (by repeat (first | (apply StoreAt.here; (first | exact CellsOf.agg | exact CellsOf.int | exact CellsOf.bool | exact CellsOf.slice | exact CellsOf.string | exact CellsOf.pointer | exact CellsOf.func); (repeat (first | exact SetsAt.nil | apply SetsAt.here | apply SetsAt.there)); exact rfl; exact rfl) | apply StoreAt.there)) ?_; clear H; intro w H)))
  go_at_call 12
  refine (specBareSteps_c d0 i0 _ (H.brd (b := d0) (by repeat (first | exact Take.head | apply Take.tail))) Zd0 (H.rd (s := i0) (by repeat (first | exact Take.head | apply Take.tail)) int_len) Zi0).mono ?_
  rintro e w ⟨s0, u0, rfl, x1, x2, K⟩
  have Hs0 : Hid (s0.m = m) := by show _ = _; rw [x1, Hd0.out, Hi0.out]; exact HM.out.symm
  have Hu0 : Hid (u0.xs = tl) := by show _ = _; rw [x2, Hd0.out, Hi0.out]; exact HT.out.symm
  clear x1 x2
  replace H := H.add_all K
  clear K
  have Zs0 := bbig_mm MB Hs0
  have Zu0 : u0.xs.length ≤ 4194304 := by rw [Hu0.out]; exact ML
  go_wp2_with (first
    | go_skip
    | ((with_reducible refine at_box ?_); first | (refine wpList_box_H (cs := (barr A).toList) rfl rfl H rfl CellsOf.agg ?_; clear H; intro bA w H) | (refine wpList_box_H rfl rfl H rfl (by first | exact CellsOf.agg | exact CellsOf.int | exact CellsOf.bool | exact CellsOf.slice | exact CellsOf.string | exact CellsOf.pointer | exact CellsOf.func) ?_; clear H; intro bQ w H))
    | ((with_reducible refine at_alloc ?_); first | (refine wpList_alloc_H rfl rfl H ?_; clear H; intro bW w H))
    | ((with_reducible refine at_load ?_); first | (refine wpList_load_H rfl rfl H rfl (by repeat (first | exact LoadAt.here rfl | apply LoadAt.there)) ?_) | (refine wpList_loads_H rfl rfl H rfl (by repeat (first | (apply LoadsAt.here; repeat (first | exact GetsAt.nil | apply GetsAt.here | apply GetsAt.there)) | apply LoadsAt.there)) ?_))
    | ((with_reducible refine at_store ?_); first | (refine wpList_store_H rfl rfl H rfl rfl (by repeat (first | (apply StoreAt.here; (first | exact CellsOf.agg | exact CellsOf.int | exact CellsOf.bool | exact CellsOf.slice | exact CellsOf.string | exact CellsOf.pointer | exact CellsOf.func); (repeat (first | exact SetsAt.nil | apply SetsAt.here | apply SetsAt.there)); exact rfl; exact rfl) | apply StoreAt.there)) ?_; clear H; intro w H)))
  go_at_call 7
  refine (toB_H A H R Z).mono ?_
  clear H
  rintro e w ⟨x0, rfl, Hx0, H⟩
  have Zx0 := bbig_m Z Hx0
  go_wp2_with (first
    | go_skip
    | ((with_reducible refine at_box ?_); first | (refine wpList_box_H (cs := (barr A).toList) rfl rfl H rfl CellsOf.agg ?_; clear H; intro bA w H) | (refine wpList_box_H rfl rfl H rfl (by first | exact CellsOf.agg | exact CellsOf.int | exact CellsOf.bool | exact CellsOf.slice | exact CellsOf.string | exact CellsOf.pointer | exact CellsOf.func) ?_; clear H; intro bQ w H))
    | ((with_reducible refine at_alloc ?_); first | (refine wpList_alloc_H rfl rfl H ?_; clear H; intro bX w H))
    | ((with_reducible refine at_load ?_); first | (refine wpList_load_H rfl rfl H rfl (by repeat (first | exact LoadAt.here rfl | apply LoadAt.there)) ?_) | (refine wpList_loads_H rfl rfl H rfl (by repeat (first | (apply LoadsAt.here; repeat (first | exact GetsAt.nil | apply GetsAt.here | apply GetsAt.there)) | apply LoadsAt.there)) ?_))
    | ((with_reducible refine at_store ?_); first | (refine wpList_store_H rfl rfl H rfl rfl (by repeat (first | (apply StoreAt.here; (first | exact CellsOf.agg | exact CellsOf.int | exact CellsOf.bool | exact CellsOf.slice | exact CellsOf.string | exact CellsOf.pointer | exact CellsOf.func); (repeat (first | exact SetsAt.nil | apply SetsAt.here | apply SetsAt.there)); exact rfl; exact rfl) | apply StoreAt.there)) ?_; clear H; intro w H)))
  go_at_call 13
  refine (toIntS_any l _ (Rl.at_ H) (by unfold big; omega)).mono ?_
  rintro e w ⟨i1, rfl, hx, ho, hb⟩
  have Hi1 : Hid (i1.xs = l.xs) := Lib.hid hx
  clear hx
  replace H := H.add_sl ho hb
  clear ho hb
  have Zi1 : i1.xs.length ≤ 1048576 := by rw [Hi1.out]; exact Zl
  go_wp2_with (first
    | go_skip
    | ((with_reducible refine at_box ?_); first | (refine wpList_box_H (cs := (barr A).toList) rfl rfl H rfl CellsOf.agg ?_; clear H; intro bA w H) | (refine wpList_box_H rfl rfl H rfl (by first | exact CellsOf.agg | exact CellsOf.int | exact CellsOf.bool | exact CellsOf.slice | exact CellsOf.string | exact CellsOf.pointer | exact CellsOf.func) ?_; clear H; intro bQ w H))
    | ((with_reducible refine at_alloc ?_); first | (refine wpList_alloc_H rfl rfl H ?_; clear H; intro b w H))
    | ((with_reducible refine at_load ?_); first | (refine wpList_load_H rfl rfl H rfl (by repeat (first | exact LoadAt.here rfl | apply LoadAt.there)) ?_) | (refine wpList_loads_H rfl rfl H rfl (by repeat (first | (apply LoadsAt.here; repeat (first | exact GetsAt.nil | apply GetsAt.here | apply GetsAt.there)) | apply LoadsAt.there)) ?_))
    | ((with_reducible refine at_store ?_); first | (refine wpList_store_H rfl rfl H rfl rfl (by repeat (first | (apply StoreAt.here; (first | exact CellsOf.agg | exact CellsOf.int | exact CellsOf.bool | exact CellsOf.slice | exact CellsOf.string | exact CellsOf.pointer | exact CellsOf.func); (repeat (first | exact SetsAt.nil | apply SetsAt.here | apply SetsAt.there)); exact rfl; exact rfl) | apply StoreAt.there)) ?_; clear H; intro w H)))
  go_at_call 14
  refine (bareSteps_c x0 i1 _ (H.brd (b := x0) (by repeat (first | exact Take.head | apply Take.tail))) Zx0 (H.rd (s := i1) (by repeat (first | exact Take.head | apply Take.tail)) int_len) Zi1).mono ?_
  rintro e w ⟨g0, u1, rfl, x1, x2, K⟩
  have Hg0 : Hid (g0.m = m) := by show _ = _; rw [x1, Hx0.out, Hi1.out]; exact HM.out.symm
  have Hu1 : Hid (u1.xs = tl) := by show _ = _; rw [x2, Hx0.out, Hi1.out]; exact HT.out.symm
  clear x1 x2
  replace H := H.add_all K
  clear K
  have Zg0 := bbig_mm MB Hg0
  have Zu1 : u1.xs.length ≤ 4194304 := by rw [Hu1.out]; exact ML
  go_wp2_with (first
    | go_skip
    | ((with_reducible refine at_box ?_); first | (refine wpList_box_H (cs := (barr A).toList) rfl rfl H rfl CellsOf.agg ?_; clear H; intro bA w H) | (refine wpList_box_H rfl rfl H rfl (by first | exact CellsOf.agg | exact CellsOf.int | exact CellsOf.bool | exact CellsOf.slice | exact CellsOf.string | exact CellsOf.pointer | exact CellsOf.func) ?_; clear H; intro bQ w H))
    | ((with_reducible refine at_alloc ?_); first | (refine wpList_alloc_H rfl rfl H ?_; clear H; intro bG w H))
    | ((with_reducible refine at_load ?_); first | (refine wpList_load_H rfl rfl H rfl (by repeat (first | exact LoadAt.here rfl | apply LoadAt.there)) ?_) | (refine wpList_loads_H rfl rfl H rfl (by repeat (first | (apply LoadsAt.here; repeat (first | exact GetsAt.nil | apply GetsAt.here | apply GetsAt.there)) | apply LoadsAt.there)) ?_))
    | ((with_reducible refine at_store ?_); first | (refine wpList_store_H rfl rfl H rfl rfl (by repeat (first | (apply StoreAt.here; (first | exact CellsOf.agg | exact CellsOf.int | exact CellsOf.bool | exact CellsOf.slice | exact CellsOf.string | exact CellsOf.pointer | exact CellsOf.func); (repeat (first | exact SetsAt.nil | apply SetsAt.here | apply SetsAt.there)); exact rfl; exact rfl) | apply StoreAt.there)) ?_; clear H; intro w H)))
  go_at_call 9
  refine (eqB_H g0 s0 H (by repeat (first | exact Take.head | apply Take.tail)) (by repeat (first | exact Take.head | apply Take.tail)) Zg0 (Hg0.out.trans Hs0.out.symm)).mono ?_
  clear H
  rintro e w ⟨rfl, H⟩
  go_wp2_with (first
    | go_skip
    | ((with_reducible refine at_box ?_); first | (refine wpList_box_H (cs := (barr A).toList) rfl rfl H rfl CellsOf.agg ?_; clear H; intro bA w H) | (refine wpList_box_H rfl rfl H rfl (by first | exact CellsOf.agg | exact CellsOf.int | exact CellsOf.bool | exact CellsOf.slice | exact CellsOf.string | exact CellsOf.pointer | exact CellsOf.func) ?_; clear H; intro bQ w H))
    | ((with_reducible refine at_alloc ?_); first | (refine wpList_alloc_H rfl rfl H ?_; clear H; intro b w H))
    | ((with_reducible refine at_load ?_); first | (refine wpList_load_H rfl rfl H rfl (by repeat (first | exact LoadAt.here rfl | apply LoadAt.there)) ?_) | (refine wpList_loads_H rfl rfl H rfl (by repeat (first | (apply LoadsAt.here; repeat (first | exact GetsAt.nil | apply GetsAt.here | apply GetsAt.there)) | apply LoadsAt.there)) ?_))
    | ((with_reducible refine at_store ?_); first | (refine wpList_store_H rfl rfl H rfl rfl (by repeat (first | (apply StoreAt.here; (first | exact CellsOf.agg | exact CellsOf.int | exact CellsOf.bool | exact CellsOf.slice | exact CellsOf.string | exact CellsOf.pointer | exact CellsOf.func); (repeat (first | exact SetsAt.nil | apply SetsAt.here | apply SetsAt.there)); exact rfl; exact rfl) | apply StoreAt.there)) ?_; clear H; intro w H)))
  go_at_call 15
  refine (eqBools_H u1 u0 H (by repeat (first | exact Take.head | apply Take.tail)) (by repeat (first | exact Take.head | apply Take.tail)) Zu1 (Hu1.out.trans Hu0.out.symm)).mono ?_
  clear H
  rintro e w ⟨rfl, H⟩
  go_wp2_with (first
    | go_skip
    | ((with_reducible refine at_box ?_); first | (refine wpList_box_H (cs := (barr A).toList) rfl rfl H rfl CellsOf.agg ?_; clear H; intro bA w H) | (refine wpList_box_H rfl rfl H rfl (by first | exact CellsOf.agg | exact CellsOf.int | exact CellsOf.bool | exact CellsOf.slice | exact CellsOf.string | exact CellsOf.pointer | exact CellsOf.func) ?_; clear H; intro bQ w H))
    | ((with_reducible refine at_alloc ?_); first | (refine wpList_alloc_H rfl rfl H ?_; clear H; intro b w H))
    | ((with_reducible refine at_load ?_); first | (refine wpList_load_H rfl rfl H rfl (by repeat (first | exact LoadAt.here rfl | apply LoadAt.there)) ?_) | (refine wpList_loads_H rfl rfl H rfl (by repeat (first | (apply LoadsAt.here; repeat (first | exact GetsAt.nil | apply GetsAt.here | apply GetsAt.there)) | apply LoadsAt.there)) ?_))
    | ((with_reducible refine at_store ?_); first | (refine wpList_store_H rfl rfl H rfl rfl (by repeat (first | (apply StoreAt.here; (first | exact CellsOf.agg | exact CellsOf.int | exact CellsOf.bool | exact CellsOf.slice | exact CellsOf.string | exact CellsOf.pointer | exact CellsOf.func); (repeat (first | exact SetsAt.nil | apply SetsAt.here | apply SetsAt.there)); exact rfl; exact rfl) | apply StoreAt.there)) ?_; clear H; intro w H)))
  go_region_held3 (fun w' => (∀ o, w'.cell? ⟨bX, o, none⟩ = (barr x0)[o]?) ∧ (∀ o, w'.cell? ⟨bA, o, none⟩ = (barr A)[o]?)) (exact ⟨H.cells (by repeat (first | exact Take.head | apply Take.tail)), H.cells (by repeat (first | exact Take.head | apply Take.tail))⟩)
    ((first | (go_at_call 7; refine (toB_H A H.drew R Z).mono ?_; clear H; rintro e w ⟨t0, rfl, Ht0, H⟩) | (go_at_call 9; refine (eqB_H x0 t0 H (by repeat (first | exact Take.head | apply Take.tail)) (by repeat (first | exact Take.head | apply Take.tail)) Zx0 (Hx0.out.trans Ht0.out.symm)).mono ?_; clear H; rintro e w ⟨rfl, H⟩)))
  go_wp2_with (first
    | go_skip
    | ((with_reducible refine at_box ?_); first | (refine wpList_box_H (cs := (barr A).toList) rfl rfl H rfl CellsOf.agg ?_; clear H; intro bA w H) | (refine wpList_box_H rfl rfl H rfl (by first | exact CellsOf.agg | exact CellsOf.int | exact CellsOf.bool | exact CellsOf.slice | exact CellsOf.string | exact CellsOf.pointer | exact CellsOf.func) ?_; clear H; intro bQ w H))
    | ((with_reducible refine at_alloc ?_); first | (refine wpList_alloc_H rfl rfl H ?_; clear H; intro b w H))
    | ((with_reducible refine at_load ?_); first | (refine wpList_load_H rfl rfl H rfl (by repeat (first | exact LoadAt.here rfl | apply LoadAt.there)) ?_) | (refine wpList_loads_H rfl rfl H rfl (by repeat (first | (apply LoadsAt.here; repeat (first | exact GetsAt.nil | apply GetsAt.here | apply GetsAt.there)) | apply LoadsAt.there)) ?_))
    | ((with_reducible refine at_store ?_); first | (refine wpList_store_H rfl rfl H rfl rfl (by repeat (first | (apply StoreAt.here; (first | exact CellsOf.agg | exact CellsOf.int | exact CellsOf.bool | exact CellsOf.slice | exact CellsOf.string | exact CellsOf.pointer | exact CellsOf.func); (repeat (first | exact SetsAt.nil | apply SetsAt.here | apply SetsAt.there)); exact rfl; exact rfl) | apply StoreAt.there)) ?_; clear H; intro w H)))
  go_at_call 13
  refine (toIntS_any l _ (Rl.at_ H) (by unfold big; omega)).mono ?_
  rintro e w ⟨i2, rfl, hx, ho, hb⟩
  have Hi2 : Hid (i2.xs = l.xs) := Lib.hid hx
  clear hx
  replace H := H.add_sl ho hb
  clear ho hb
  have Zi2 : i2.xs.length ≤ 1048576 := by rw [Hi2.out]; exact Zl
  go_wp2_with (first
    | go_skip
    | ((with_reducible refine at_box ?_); first | (refine wpList_box_H (cs := (barr A).toList) rfl rfl H rfl CellsOf.agg ?_; clear H; intro bA w H) | (refine wpList_box_H rfl rfl H rfl (by first | exact CellsOf.agg | exact CellsOf.int | exact CellsOf.bool | exact CellsOf.slice | exact CellsOf.string | exact CellsOf.pointer | exact CellsOf.func) ?_; clear H; intro bQ w H))
    | ((with_reducible refine at_alloc ?_); first | (refine wpList_alloc_H rfl rfl H ?_; clear H; intro b w H))
    | ((with_reducible refine at_load ?_); first | (refine wpList_load_H rfl rfl H rfl (by repeat (first | exact LoadAt.here rfl | apply LoadAt.there)) ?_) | (refine wpList_loads_H rfl rfl H rfl (by repeat (first | (apply LoadsAt.here; repeat (first | exact GetsAt.nil | apply GetsAt.here | apply GetsAt.there)) | apply LoadsAt.there)) ?_))
    | ((with_reducible refine at_store ?_); first | (refine wpList_store_H rfl rfl H rfl rfl (by repeat (first | (apply StoreAt.here; (first | exact CellsOf.agg | exact CellsOf.int | exact CellsOf.bool | exact CellsOf.slice | exact CellsOf.string | exact CellsOf.pointer | exact CellsOf.func); (repeat (first | exact SetsAt.nil | apply SetsAt.here | apply SetsAt.there)); exact rfl; exact rfl) | apply StoreAt.there)) ?_; clear H; intro w H)))
  go_at_call 16
  refine (eqI2_H i1 i2 H (by repeat (first | exact Take.head | apply Take.tail)) (by repeat (first | exact Take.head | apply Take.tail)) (Nat.le_trans Zi1 (by decide)) (Hi1.out.trans Hi2.out.symm)).mono ?_
  clear H
  rintro e w ⟨rfl, H⟩
  go_wp2_with (first
    | go_skip
    | ((with_reducible refine at_box ?_); first | (refine wpList_box_H (cs := (barr A).toList) rfl rfl H rfl CellsOf.agg ?_; clear H; intro bA w H) | (refine wpList_box_H rfl rfl H rfl (by first | exact CellsOf.agg | exact CellsOf.int | exact CellsOf.bool | exact CellsOf.slice | exact CellsOf.string | exact CellsOf.pointer | exact CellsOf.func) ?_; clear H; intro bQ w H))
    | ((with_reducible refine at_alloc ?_); first | (refine wpList_alloc_H rfl rfl H ?_; clear H; intro b w H))
    | ((with_reducible refine at_load ?_); first | (refine wpList_load_H rfl rfl H rfl (by repeat (first | exact LoadAt.here rfl | apply LoadAt.there)) ?_) | (refine wpList_loads_H rfl rfl H rfl (by repeat (first | (apply LoadsAt.here; repeat (first | exact GetsAt.nil | apply GetsAt.here | apply GetsAt.there)) | apply LoadsAt.there)) ?_))
    | ((with_reducible refine at_store ?_); first | (refine wpList_store_H rfl rfl H rfl rfl (by repeat (first | (apply StoreAt.here; (first | exact CellsOf.agg | exact CellsOf.int | exact CellsOf.bool | exact CellsOf.slice | exact CellsOf.string | exact CellsOf.pointer | exact CellsOf.func); (repeat (first | exact SetsAt.nil | apply SetsAt.here | apply SetsAt.there)); exact rfl; exact rfl) | apply StoreAt.there)) ?_; clear H; intro w H)))
  go_at_call 10
  refine (markB_H x0 H (by repeat (first | exact Take.head | apply Take.tail)) Zx0).mono ?_
  clear H
  rintro e w ⟨rfl, H⟩
  have ex0 := x0.markEnd_pos
  have ex0l := markB2_le Zx0
  go_wp2_with (first
    | go_skip
    | ((with_reducible refine at_box ?_); first | (refine wpList_box_H (cs := (barr A).toList) rfl rfl H rfl CellsOf.agg ?_; clear H; intro bA w H) | (refine wpList_box_H rfl rfl H rfl (by first | exact CellsOf.agg | exact CellsOf.int | exact CellsOf.bool | exact CellsOf.slice | exact CellsOf.string | exact CellsOf.pointer | exact CellsOf.func) ?_; clear H; intro bQ w H))
    | ((with_reducible refine at_alloc ?_); first | (refine wpList_alloc_H rfl rfl H ?_; clear H; intro b w H))
    | ((with_reducible refine at_load ?_); first | (refine wpList_load_H rfl rfl H rfl (by repeat (first | exact LoadAt.here rfl | apply LoadAt.there)) ?_) | (refine wpList_loads_H rfl rfl H rfl (by repeat (first | (apply LoadsAt.here; repeat (first | exact GetsAt.nil | apply GetsAt.here | apply GetsAt.there)) | apply LoadsAt.there)) ?_))
    | ((with_reducible refine at_store ?_); first | (refine wpList_store_H rfl rfl H rfl rfl (by repeat (first | (apply StoreAt.here; (first | exact CellsOf.agg | exact CellsOf.int | exact CellsOf.bool | exact CellsOf.slice | exact CellsOf.string | exact CellsOf.pointer | exact CellsOf.func); (repeat (first | exact SetsAt.nil | apply SetsAt.here | apply SetsAt.there)); exact rfl; exact rfl) | apply StoreAt.there)) ?_; clear H; intro w H)))
  go_at_call 17
  refine (markI2_H i1 (x0.markEnd 1) ex0 (Int.le_trans ex0l (by decide)) H (by repeat (first | exact Take.head | apply Take.tail)) (Nat.le_trans Zi1 (by decide))).mono ?_
  clear H
  rintro e w ⟨rfl, H⟩
  go_wp2_with (first
    | go_skip
    | ((with_reducible refine at_box ?_); first | (refine wpList_box_H (cs := (barr A).toList) rfl rfl H rfl CellsOf.agg ?_; clear H; intro bA w H) | (refine wpList_box_H rfl rfl H rfl (by first | exact CellsOf.agg | exact CellsOf.int | exact CellsOf.bool | exact CellsOf.slice | exact CellsOf.string | exact CellsOf.pointer | exact CellsOf.func) ?_; clear H; intro bQ w H))
    | ((with_reducible refine at_alloc ?_); first | (refine wpList_alloc_H rfl rfl H ?_; clear H; intro b w H))
    | ((with_reducible refine at_load ?_); first | (refine wpList_load_H rfl rfl H rfl (by repeat (first | exact LoadAt.here rfl | apply LoadAt.there)) ?_) | (refine wpList_loads_H rfl rfl H rfl (by repeat (first | (apply LoadsAt.here; repeat (first | exact GetsAt.nil | apply GetsAt.here | apply GetsAt.there)) | apply LoadsAt.there)) ?_))
    | ((with_reducible refine at_store ?_); first | (refine wpList_store_H rfl rfl H rfl rfl (by repeat (first | (apply StoreAt.here; (first | exact CellsOf.agg | exact CellsOf.int | exact CellsOf.bool | exact CellsOf.slice | exact CellsOf.string | exact CellsOf.pointer | exact CellsOf.func); (repeat (first | exact SetsAt.nil | apply SetsAt.here | apply SetsAt.there)); exact rfl; exact rfl) | apply StoreAt.there)) ?_; clear H; intro w H)))
  go_at_call 9
  refine (eqB_H g0 s0 H (by repeat (first | exact Take.head | apply Take.tail)) (by repeat (first | exact Take.head | apply Take.tail)) Zg0 (Hg0.out.trans Hs0.out.symm)).mono ?_
  clear H
  rintro e w ⟨rfl, H⟩
  go_wp2_with (first
    | go_skip
    | ((with_reducible refine at_box ?_); first | (refine wpList_box_H (cs := (barr A).toList) rfl rfl H rfl CellsOf.agg ?_; clear H; intro bA w H) | (refine wpList_box_H rfl rfl H rfl (by first | exact CellsOf.agg | exact CellsOf.int | exact CellsOf.bool | exact CellsOf.slice | exact CellsOf.string | exact CellsOf.pointer | exact CellsOf.func) ?_; clear H; intro bQ w H))
    | ((with_reducible refine at_alloc ?_); first | (refine wpList_alloc_H rfl rfl H ?_; clear H; intro b w H))
    | ((with_reducible refine at_load ?_); first | (refine wpList_load_H rfl rfl H rfl (by repeat (first | exact LoadAt.here rfl | apply LoadAt.there)) ?_) | (refine wpList_loads_H rfl rfl H rfl (by repeat (first | (apply LoadsAt.here; repeat (first | exact GetsAt.nil | apply GetsAt.here | apply GetsAt.there)) | apply LoadsAt.there)) ?_))
    | ((with_reducible refine at_store ?_); first | (refine wpList_store_H rfl rfl H rfl rfl (by repeat (first | (apply StoreAt.here; (first | exact CellsOf.agg | exact CellsOf.int | exact CellsOf.bool | exact CellsOf.slice | exact CellsOf.string | exact CellsOf.pointer | exact CellsOf.func); (repeat (first | exact SetsAt.nil | apply SetsAt.here | apply SetsAt.there)); exact rfl; exact rfl) | apply StoreAt.there)) ?_; clear H; intro w H)))
  go_at_call 15
  refine (eqBools_H u1 u0 H (by repeat (first | exact Take.head | apply Take.tail)) (by repeat (first | exact Take.head | apply Take.tail)) Zu1 (Hu1.out.trans Hu0.out.symm)).mono ?_
  clear H
  rintro e w ⟨rfl, H⟩
  go_wp2_with (first
    | go_skip
    | ((with_reducible refine at_box ?_); first | (refine wpList_box_H (cs := (barr A).toList) rfl rfl H rfl CellsOf.agg ?_; clear H; intro bA w H) | (refine wpList_box_H rfl rfl H rfl (by first | exact CellsOf.agg | exact CellsOf.int | exact CellsOf.bool | exact CellsOf.slice | exact CellsOf.string | exact CellsOf.pointer | exact CellsOf.func) ?_; clear H; intro bQ w H))
    | ((with_reducible refine at_alloc ?_); first | (refine wpList_alloc_H rfl rfl H ?_; clear H; intro b w H))
    | ((with_reducible refine at_load ?_); first | (refine wpList_load_H rfl rfl H rfl (by repeat (first | exact LoadAt.here rfl | apply LoadAt.there)) ?_) | (refine wpList_loads_H rfl rfl H rfl (by repeat (first | (apply LoadsAt.here; repeat (first | exact GetsAt.nil | apply GetsAt.here | apply GetsAt.there)) | apply LoadsAt.there)) ?_))
    | ((with_reducible refine at_store ?_); first | (refine wpList_store_H rfl rfl H rfl rfl (by repeat (first | (apply StoreAt.here; (first | exact CellsOf.agg | exact CellsOf.int | exact CellsOf.bool | exact CellsOf.slice | exact CellsOf.string | exact CellsOf.pointer | exact CellsOf.func); (repeat (first | exact SetsAt.nil | apply SetsAt.here | apply SetsAt.there)); exact rfl; exact rfl) | apply StoreAt.there)) ?_; clear H; intro w H)))
  go_at_call 10
  refine (markB_H g0 H (by repeat (first | exact Take.head | apply Take.tail)) Zg0).mono ?_
  clear H
  rintro e w ⟨rfl, H⟩
  have eg0 := g0.markEnd_pos
  have eg0l := markB2_le Zg0
  go_wp2_with (first
    | go_skip
    | ((with_reducible refine at_box ?_); first | (refine wpList_box_H (cs := (barr A).toList) rfl rfl H rfl CellsOf.agg ?_; clear H; intro bA w H) | (refine wpList_box_H rfl rfl H rfl (by first | exact CellsOf.agg | exact CellsOf.int | exact CellsOf.bool | exact CellsOf.slice | exact CellsOf.string | exact CellsOf.pointer | exact CellsOf.func) ?_; clear H; intro bQ w H))
    | ((with_reducible refine at_alloc ?_); first | (refine wpList_alloc_H rfl rfl H ?_; clear H; intro b w H))
    | ((with_reducible refine at_load ?_); first | (refine wpList_load_H rfl rfl H rfl (by repeat (first | exact LoadAt.here rfl | apply LoadAt.there)) ?_) | (refine wpList_loads_H rfl rfl H rfl (by repeat (first | (apply LoadsAt.here; repeat (first | exact GetsAt.nil | apply GetsAt.here | apply GetsAt.there)) | apply LoadsAt.there)) ?_))
    | ((with_reducible refine at_store ?_); first | (refine wpList_store_H rfl rfl H rfl rfl (by repeat (first | (apply StoreAt.here; (first | exact CellsOf.agg | exact CellsOf.int | exact CellsOf.bool | exact CellsOf.slice | exact CellsOf.string | exact CellsOf.pointer | exact CellsOf.func); (repeat (first | exact SetsAt.nil | apply SetsAt.here | apply SetsAt.there)); exact rfl; exact rfl) | apply StoreAt.there)) ?_; clear H; intro w H)))
  go_at_call 18
  refine (markBoolS_H u1 (g0.markEnd 1) eg0 (Int.le_trans eg0l (by decide)) H (by repeat (first | exact Take.head | apply Take.tail)) Zu1).mono ?_
  clear H
  rintro e w ⟨rfl, H⟩
  go_wp2_with (first
    | go_skip
    | ((with_reducible refine at_box ?_); first | (refine wpList_box_H (cs := (barr A).toList) rfl rfl H rfl CellsOf.agg ?_; clear H; intro bA w H) | (refine wpList_box_H rfl rfl H rfl (by first | exact CellsOf.agg | exact CellsOf.int | exact CellsOf.bool | exact CellsOf.slice | exact CellsOf.string | exact CellsOf.pointer | exact CellsOf.func) ?_; clear H; intro bQ w H))
    | ((with_reducible refine at_alloc ?_); first | (refine wpList_alloc_H rfl rfl H ?_; clear H; intro b w H))
    | ((with_reducible refine at_load ?_); first | (refine wpList_load_H rfl rfl H rfl (by repeat (first | exact LoadAt.here rfl | apply LoadAt.there)) ?_) | (refine wpList_loads_H rfl rfl H rfl (by repeat (first | (apply LoadsAt.here; repeat (first | exact GetsAt.nil | apply GetsAt.here | apply GetsAt.there)) | apply LoadsAt.there)) ?_))
    | ((with_reducible refine at_store ?_); first | (refine wpList_store_H rfl rfl H rfl rfl (by repeat (first | (apply StoreAt.here; (first | exact CellsOf.agg | exact CellsOf.int | exact CellsOf.bool | exact CellsOf.slice | exact CellsOf.string | exact CellsOf.pointer | exact CellsOf.func); (repeat (first | exact SetsAt.nil | apply SetsAt.here | apply SetsAt.there)); exact rfl; exact rfl) | apply StoreAt.there)) ?_; clear H; intro w H)))
  go_at_call 11
  refine (heldB_H g0 H (by repeat (first | exact Take.head | apply Take.tail)) Zg0).mono ?_
  clear H
  rintro e w ⟨rfl, H⟩
  go_wp2_with (first
    | go_skip
    | ((with_reducible refine at_box ?_); first | (refine wpList_box_H (cs := (barr A).toList) rfl rfl H rfl CellsOf.agg ?_; clear H; intro bA w H) | (refine wpList_box_H rfl rfl H rfl (by first | exact CellsOf.agg | exact CellsOf.int | exact CellsOf.bool | exact CellsOf.slice | exact CellsOf.string | exact CellsOf.pointer | exact CellsOf.func) ?_; clear H; intro bQ w H))
    | ((with_reducible refine at_alloc ?_); first | (refine wpList_alloc_H rfl rfl H ?_; clear H; intro b w H))
    | ((with_reducible refine at_load ?_); first | (refine wpList_load_H rfl rfl H rfl (by repeat (first | exact LoadAt.here rfl | apply LoadAt.there)) ?_) | (refine wpList_loads_H rfl rfl H rfl (by repeat (first | (apply LoadsAt.here; repeat (first | exact GetsAt.nil | apply GetsAt.here | apply GetsAt.there)) | apply LoadsAt.there)) ?_))
    | ((with_reducible refine at_store ?_); first | (refine wpList_store_H rfl rfl H rfl rfl (by repeat (first | (apply StoreAt.here; (first | exact CellsOf.agg | exact CellsOf.int | exact CellsOf.bool | exact CellsOf.slice | exact CellsOf.string | exact CellsOf.pointer | exact CellsOf.func); (repeat (first | exact SetsAt.nil | apply SetsAt.here | apply SetsAt.there)); exact rfl; exact rfl) | apply StoreAt.there)) ?_; clear H; intro w H)))
  go_at_call 19
  refine (heldBM_H u1 (g0.markEnd 1) eg0 (Int.le_trans eg0l (by decide)) H (by repeat (first | exact Take.head | apply Take.tail)) Zu1).mono ?_
  clear H
  rintro e w ⟨rfl, H⟩
  go_wp2_with (first
    | go_skip
    | ((with_reducible refine at_box ?_); first | (refine wpList_box_H (cs := (barr A).toList) rfl rfl H rfl CellsOf.agg ?_; clear H; intro bA w H) | (refine wpList_box_H rfl rfl H rfl (by first | exact CellsOf.agg | exact CellsOf.int | exact CellsOf.bool | exact CellsOf.slice | exact CellsOf.string | exact CellsOf.pointer | exact CellsOf.func) ?_; clear H; intro bQ w H))
    | ((with_reducible refine at_alloc ?_); first | (refine wpList_alloc_H rfl rfl H ?_; clear H; intro b w H))
    | ((with_reducible refine at_load ?_); first | (refine wpList_load_H rfl rfl H rfl (by repeat (first | exact LoadAt.here rfl | apply LoadAt.there)) ?_) | (refine wpList_loads_H rfl rfl H rfl (by repeat (first | (apply LoadsAt.here; repeat (first | exact GetsAt.nil | apply GetsAt.here | apply GetsAt.there)) | apply LoadsAt.there)) ?_))
    | ((with_reducible refine at_store ?_); first | (refine wpList_store_H rfl rfl H rfl rfl (by repeat (first | (apply StoreAt.here; (first | exact CellsOf.agg | exact CellsOf.int | exact CellsOf.bool | exact CellsOf.slice | exact CellsOf.string | exact CellsOf.pointer | exact CellsOf.func); (repeat (first | exact SetsAt.nil | apply SetsAt.here | apply SetsAt.there)); exact rfl; exact rfl) | apply StoreAt.there)) ?_; clear H; intro w H)))
  go_at_call 7
  refine (toB_H A H R Z).mono ?_
  clear H
  rintro e w ⟨y0, rfl, Hy0, H⟩
  have Zy0 := bbig_m Z Hy0
  go_wp2_with (first
    | go_skip
    | ((with_reducible refine at_box ?_); first | (refine wpList_box_H (cs := (barr A).toList) rfl rfl H rfl CellsOf.agg ?_; clear H; intro bA w H) | (refine wpList_box_H rfl rfl H rfl (by first | exact CellsOf.agg | exact CellsOf.int | exact CellsOf.bool | exact CellsOf.slice | exact CellsOf.string | exact CellsOf.pointer | exact CellsOf.func) ?_; clear H; intro bQ w H))
    | ((with_reducible refine at_alloc ?_); first | (refine wpList_alloc_H rfl rfl H ?_; clear H; intro b w H))
    | ((with_reducible refine at_load ?_); first | (refine wpList_load_H rfl rfl H rfl (by repeat (first | exact LoadAt.here rfl | apply LoadAt.there)) ?_) | (refine wpList_loads_H rfl rfl H rfl (by repeat (first | (apply LoadsAt.here; repeat (first | exact GetsAt.nil | apply GetsAt.here | apply GetsAt.there)) | apply LoadsAt.there)) ?_))
    | ((with_reducible refine at_store ?_); first | (refine wpList_store_H rfl rfl H rfl rfl (by repeat (first | (apply StoreAt.here; (first | exact CellsOf.agg | exact CellsOf.int | exact CellsOf.bool | exact CellsOf.slice | exact CellsOf.string | exact CellsOf.pointer | exact CellsOf.func); (repeat (first | exact SetsAt.nil | apply SetsAt.here | apply SetsAt.there)); exact rfl; exact rfl) | apply StoreAt.there)) ?_; clear H; intro w H)))
  go_at_call 13
  refine (toIntS_any l _ (Rl.at_ H) (by unfold big; omega)).mono ?_
  rintro e w ⟨i3, rfl, hx, ho, hb⟩
  have Hi3 : Hid (i3.xs = l.xs) := Lib.hid hx
  clear hx
  replace H := H.add_sl ho hb
  clear ho hb
  have Zi3 : i3.xs.length ≤ 1048576 := by rw [Hi3.out]; exact Zl
  go_wp2_with (first
    | go_skip
    | ((with_reducible refine at_box ?_); first | (refine wpList_box_H (cs := (barr A).toList) rfl rfl H rfl CellsOf.agg ?_; clear H; intro bA w H) | (refine wpList_box_H rfl rfl H rfl (by first | exact CellsOf.agg | exact CellsOf.int | exact CellsOf.bool | exact CellsOf.slice | exact CellsOf.string | exact CellsOf.pointer | exact CellsOf.func) ?_; clear H; intro bQ w H))
    | ((with_reducible refine at_alloc ?_); first | (refine wpList_alloc_H rfl rfl H ?_; clear H; intro b w H))
    | ((with_reducible refine at_load ?_); first | (refine wpList_load_H rfl rfl H rfl (by repeat (first | exact LoadAt.here rfl | apply LoadAt.there)) ?_) | (refine wpList_loads_H rfl rfl H rfl (by repeat (first | (apply LoadsAt.here; repeat (first | exact GetsAt.nil | apply GetsAt.here | apply GetsAt.there)) | apply LoadsAt.there)) ?_))
    | ((with_reducible refine at_store ?_); first | (refine wpList_store_H rfl rfl H rfl rfl (by repeat (first | (apply StoreAt.here; (first | exact CellsOf.agg | exact CellsOf.int | exact CellsOf.bool | exact CellsOf.slice | exact CellsOf.string | exact CellsOf.pointer | exact CellsOf.func); (repeat (first | exact SetsAt.nil | apply SetsAt.here | apply SetsAt.there)); exact rfl; exact rfl) | apply StoreAt.there)) ?_; clear H; intro w H)))
  go_at_call 14
  refine (bareSteps_c y0 i3 _ (H.brd (b := y0) (by repeat (first | exact Take.head | apply Take.tail))) Zy0 (H.rd (s := i3) (by repeat (first | exact Take.head | apply Take.tail)) int_len) Zi3).mono ?_
  rintro e w ⟨h0, u3, rfl, x1, x2, K⟩
  have Hh0 : Hid (h0.m = m) := by show _ = _; rw [x1, Hy0.out, Hi3.out]; exact HM.out.symm
  have Hu3 : Hid (u3.xs = tl) := by show _ = _; rw [x2, Hy0.out, Hi3.out]; exact HT.out.symm
  clear x1 x2
  replace H := H.add_all K
  clear K
  have Zh0 := bbig_mm MB Hh0
  have Zu3 : u3.xs.length ≤ 4194304 := by rw [Hu3.out]; exact ML
  go_wp2_with (first
    | go_skip
    | ((with_reducible refine at_box ?_); first | (refine wpList_box_H (cs := (barr A).toList) rfl rfl H rfl CellsOf.agg ?_; clear H; intro bA w H) | (refine wpList_box_H rfl rfl H rfl (by first | exact CellsOf.agg | exact CellsOf.int | exact CellsOf.bool | exact CellsOf.slice | exact CellsOf.string | exact CellsOf.pointer | exact CellsOf.func) ?_; clear H; intro bQ w H))
    | ((with_reducible refine at_alloc ?_); first | (refine wpList_alloc_H rfl rfl H ?_; clear H; intro bH w H))
    | ((with_reducible refine at_load ?_); first | (refine wpList_load_H rfl rfl H rfl (by repeat (first | exact LoadAt.here rfl | apply LoadAt.there)) ?_) | (refine wpList_loads_H rfl rfl H rfl (by repeat (first | (apply LoadsAt.here; repeat (first | exact GetsAt.nil | apply GetsAt.here | apply GetsAt.there)) | apply LoadsAt.there)) ?_))
    | ((with_reducible refine at_store ?_); first | (refine wpList_store_H rfl rfl H rfl rfl (by repeat (first | (apply StoreAt.here; (first | exact CellsOf.agg | exact CellsOf.int | exact CellsOf.bool | exact CellsOf.slice | exact CellsOf.string | exact CellsOf.pointer | exact CellsOf.func); (repeat (first | exact SetsAt.nil | apply SetsAt.here | apply SetsAt.there)); exact rfl; exact rfl) | apply StoreAt.there)) ?_; clear H; intro w H)))
  go_at_call 9
  refine (eqB_H h0 s0 H (by repeat (first | exact Take.head | apply Take.tail)) (by repeat (first | exact Take.head | apply Take.tail)) Zh0 (Hh0.out.trans Hs0.out.symm)).mono ?_
  clear H
  rintro e w ⟨rfl, H⟩
  go_wp2_with (first
    | go_skip
    | ((with_reducible refine at_box ?_); first | (refine wpList_box_H (cs := (barr A).toList) rfl rfl H rfl CellsOf.agg ?_; clear H; intro bA w H) | (refine wpList_box_H rfl rfl H rfl (by first | exact CellsOf.agg | exact CellsOf.int | exact CellsOf.bool | exact CellsOf.slice | exact CellsOf.string | exact CellsOf.pointer | exact CellsOf.func) ?_; clear H; intro bQ w H))
    | ((with_reducible refine at_alloc ?_); first | (refine wpList_alloc_H rfl rfl H ?_; clear H; intro b w H))
    | ((with_reducible refine at_load ?_); first | (refine wpList_load_H rfl rfl H rfl (by repeat (first | exact LoadAt.here rfl | apply LoadAt.there)) ?_) | (refine wpList_loads_H rfl rfl H rfl (by repeat (first | (apply LoadsAt.here; repeat (first | exact GetsAt.nil | apply GetsAt.here | apply GetsAt.there)) | apply LoadsAt.there)) ?_))
    | ((with_reducible refine at_store ?_); first | (refine wpList_store_H rfl rfl H rfl rfl (by repeat (first | (apply StoreAt.here; (first | exact CellsOf.agg | exact CellsOf.int | exact CellsOf.bool | exact CellsOf.slice | exact CellsOf.string | exact CellsOf.pointer | exact CellsOf.func); (repeat (first | exact SetsAt.nil | apply SetsAt.here | apply SetsAt.there)); exact rfl; exact rfl) | apply StoreAt.there)) ?_; clear H; intro w H)))
  go_at_call 15
  refine (eqBools_H u3 u0 H (by repeat (first | exact Take.head | apply Take.tail)) (by repeat (first | exact Take.head | apply Take.tail)) Zu3 (Hu3.out.trans Hu0.out.symm)).mono ?_
  clear H
  rintro e w ⟨rfl, H⟩
  go_wp2_with (first
    | go_skip
    | ((with_reducible refine at_box ?_); first | (refine wpList_box_H (cs := (barr A).toList) rfl rfl H rfl CellsOf.agg ?_; clear H; intro bA w H) | (refine wpList_box_H rfl rfl H rfl (by first | exact CellsOf.agg | exact CellsOf.int | exact CellsOf.bool | exact CellsOf.slice | exact CellsOf.string | exact CellsOf.pointer | exact CellsOf.func) ?_; clear H; intro bQ w H))
    | ((with_reducible refine at_alloc ?_); first | (refine wpList_alloc_H rfl rfl H ?_; clear H; intro b w H))
    | ((with_reducible refine at_load ?_); first | (refine wpList_load_H rfl rfl H rfl (by repeat (first | exact LoadAt.here rfl | apply LoadAt.there)) ?_) | (refine wpList_loads_H rfl rfl H rfl (by repeat (first | (apply LoadsAt.here; repeat (first | exact GetsAt.nil | apply GetsAt.here | apply GetsAt.there)) | apply LoadsAt.there)) ?_))
    | ((with_reducible refine at_store ?_); first | (refine wpList_store_H rfl rfl H rfl rfl (by repeat (first | (apply StoreAt.here; (first | exact CellsOf.agg | exact CellsOf.int | exact CellsOf.bool | exact CellsOf.slice | exact CellsOf.string | exact CellsOf.pointer | exact CellsOf.func); (repeat (first | exact SetsAt.nil | apply SetsAt.here | apply SetsAt.there)); exact rfl; exact rfl) | apply StoreAt.there)) ?_; clear H; intro w H)))
  go_at_call 11
  refine (heldB_H g0 H (by repeat (first | exact Take.head | apply Take.tail)) Zg0).mono ?_
  clear H
  rintro e w ⟨rfl, H⟩
  go_wp2_with (first
    | go_skip
    | ((with_reducible refine at_box ?_); first | (refine wpList_box_H (cs := (barr A).toList) rfl rfl H rfl CellsOf.agg ?_; clear H; intro bA w H) | (refine wpList_box_H rfl rfl H rfl (by first | exact CellsOf.agg | exact CellsOf.int | exact CellsOf.bool | exact CellsOf.slice | exact CellsOf.string | exact CellsOf.pointer | exact CellsOf.func) ?_; clear H; intro bQ w H))
    | ((with_reducible refine at_alloc ?_); first | (refine wpList_alloc_H rfl rfl H ?_; clear H; intro b w H))
    | ((with_reducible refine at_load ?_); first | (refine wpList_load_H rfl rfl H rfl (by repeat (first | exact LoadAt.here rfl | apply LoadAt.there)) ?_) | (refine wpList_loads_H rfl rfl H rfl (by repeat (first | (apply LoadsAt.here; repeat (first | exact GetsAt.nil | apply GetsAt.here | apply GetsAt.there)) | apply LoadsAt.there)) ?_))
    | ((with_reducible refine at_store ?_); first | (refine wpList_store_H rfl rfl H rfl rfl (by repeat (first | (apply StoreAt.here; (first | exact CellsOf.agg | exact CellsOf.int | exact CellsOf.bool | exact CellsOf.slice | exact CellsOf.string | exact CellsOf.pointer | exact CellsOf.func); (repeat (first | exact SetsAt.nil | apply SetsAt.here | apply SetsAt.there)); exact rfl; exact rfl) | apply StoreAt.there)) ?_; clear H; intro w H)))
  go_at_call 19
  refine (heldBM_H u1 (g0.markEnd 1) eg0 (Int.le_trans eg0l (by decide)) H (by repeat (first | exact Take.head | apply Take.tail)) Zu1).mono ?_
  clear H
  rintro e w ⟨rfl, H⟩
  go_wp2_with (first
    | go_skip
    | ((with_reducible refine at_box ?_); first | (refine wpList_box_H (cs := (barr A).toList) rfl rfl H rfl CellsOf.agg ?_; clear H; intro bA w H) | (refine wpList_box_H rfl rfl H rfl (by first | exact CellsOf.agg | exact CellsOf.int | exact CellsOf.bool | exact CellsOf.slice | exact CellsOf.string | exact CellsOf.pointer | exact CellsOf.func) ?_; clear H; intro bQ w H))
    | ((with_reducible refine at_alloc ?_); first | (refine wpList_alloc_H rfl rfl H ?_; clear H; intro b w H))
    | ((with_reducible refine at_load ?_); first | (refine wpList_load_H rfl rfl H rfl (by repeat (first | exact LoadAt.here rfl | apply LoadAt.there)) ?_) | (refine wpList_loads_H rfl rfl H rfl (by repeat (first | (apply LoadsAt.here; repeat (first | exact GetsAt.nil | apply GetsAt.here | apply GetsAt.there)) | apply LoadsAt.there)) ?_))
    | ((with_reducible refine at_store ?_); first | (refine wpList_store_H rfl rfl H rfl rfl (by repeat (first | (apply StoreAt.here; (first | exact CellsOf.agg | exact CellsOf.int | exact CellsOf.bool | exact CellsOf.slice | exact CellsOf.string | exact CellsOf.pointer | exact CellsOf.func); (repeat (first | exact SetsAt.nil | apply SetsAt.here | apply SetsAt.there)); exact rfl; exact rfl) | apply StoreAt.there)) ?_; clear H; intro w H)))
  go_ret
  exact ⟨rfl, H.below⟩
end Go.Proofs.YthpoieoaaikpmaaGreat
