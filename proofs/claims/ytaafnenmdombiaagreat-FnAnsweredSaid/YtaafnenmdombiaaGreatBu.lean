/- Contracts of the walk through an inner table, and of BareRead and BarePoke, of the program and of the reference. No condition but that the arguments lie in memory. -/
import Derived.Test.YtaafnenmdombiaaGreatBt
import Derived.Test.YtaafnenmdombiaaGreatBo
namespace Go.Proofs.YtaafnenmdombiaaGreat
set_option linter.unusedSimpArgs false
set_option linter.unusedVariables false
set_option linter.unusedSimpArgs false
set_option linter.unusedVariables false
open Go.RowKit
def enoughM (r n : Int) : Bool := inB r 0 3 && inB n 0 3 && (bits .and .i64 r n == n)
def addrPageM (a : Int) : Int := if a < 0 then -1 else a / 4
def addrCellM (a : Int) : Int := if a < 0 then -1 else a % 4
def walkOkM (t : List Slot) (p n : Int) : Bool := !((slotAtM t p).page == -1) && enoughM (slotAtM t p).rights n && inB n 1 3
def walkPageM (t : List Slot) (p n : Int) : Int := if walkOkM t p n then (slotAtM t p).page else -1
set_option maxRecDepth 100000 in
set_option maxHeartbeats 4000000 in
theorem rightsOk_c (r : Int) (w : World) : Calls Tryz.prog 218 #[.int .i64 r] w fun e w' => e = .returned (.bool (inB r 0 3)) ∧ w = w' := by
  go_enter Tryz.func218, Tryz.ntmps218
  go_wp2_with (go_at_call 72; refine (within_any _ _ _ _).mono ?_; rintro e w' ⟨rfl, rfl⟩)
  go_ret
  exact ⟨rfl, rfl⟩
set_option maxRecDepth 100000 in
set_option maxHeartbeats 4000000 in
theorem enough_c (r n : Int) (W0 : World) : Calls Tryz.prog 189 #[.int .i64 r, .int .i64 n] W0 fun e w' => e = .returned (.bool (enoughM r n)) ∧ Hp W0 w' [] := by
  cases e1 : inB r 0 3 <;> cases e2 : inB n 0 3
  all_goals
    try (have hr : 0 ≤ r ∧ r ≤ 3 := by simpa [inB] using e1)
    try (have hn : 0 ≤ n ∧ n ≤ 3 := by simpa [inB] using e2)
    try obtain ⟨hr0, hr3⟩ := hr
    try obtain ⟨hn0, hn3⟩ := hn
    have H := Hp.start W0
    go_enter Tryz.func189, Tryz.ntmps189
    go_wp2_with (first
      | go_skip
      | ((with_reducible refine at_box ?_); first | (refine wpList_box_H rfl rfl H rfl (by constructor) ?_; clear H; intro b w H))
      | ((with_reducible refine at_alloc ?_); first | (refine wpList_alloc_H rfl rfl H ?_; clear H; intro b w H))
      | ((with_reducible refine at_load ?_); first | (refine wpList_load_H rfl rfl H rfl (by repeat constructor) ?_) | (refine wpList_loads_H rfl rfl H rfl (by repeat constructor) ?_))
      | ((with_reducible refine at_store ?_); first | (refine wpList_store_H rfl rfl H rfl rfl (by repeat constructor) ?_; clear H; intro w H))
      | (go_at_call 218; refine (rightsOk_c _ _).mono ?_; rintro e w' ⟨he, hw⟩; subst hw; rw [e1] at he; subst he)
      | (go_at_call 218; refine (rightsOk_c _ _).mono ?_; rintro e w' ⟨he, hw⟩; subst hw; rw [e2] at he; subst he))
    all_goals (go_ret; exact ⟨ret_bool (by simp [enoughM, e1, e2]), H⟩)
set_option maxRecDepth 100000 in
set_option maxHeartbeats 4000000 in
theorem addrPage_c (a : Int) (h : a ≤ 9223372036854775807) (h' : -9223372036854775808 ≤ a) (W0 : World) : Calls Tryz.prog 119 #[.int .i64 a] W0 fun e w' => e = .returned (.int .i64 (addrPageM a)) ∧ Hp W0 w' [] := by
  by_cases hn : a < 0
  all_goals
    have H := Hp.start W0
    go_enter Tryz.func119, Tryz.ntmps119
    go_wp2_with (first
      | go_skip
      | ((with_reducible refine at_box ?_); first | (refine wpList_box_H rfl rfl H rfl (by constructor) ?_; clear H; intro b w H))
      | ((with_reducible refine at_alloc ?_); first | (refine wpList_alloc_H rfl rfl H ?_; clear H; intro b w H))
      | ((with_reducible refine at_load ?_); first | (refine wpList_load_H rfl rfl H rfl (by repeat constructor) ?_) | (refine wpList_loads_H rfl rfl H rfl (by repeat constructor) ?_))
      | ((with_reducible refine at_store ?_); first | (refine wpList_store_H rfl rfl H rfl rfl (by repeat constructor) ?_; clear H; intro w H)))
    go_ret
    exact ⟨ret_int (by unfold addrPageM; split <;> omega), H⟩
set_option maxRecDepth 100000 in
set_option maxHeartbeats 4000000 in
theorem addrCell_c (a : Int) (h : a ≤ 9223372036854775807) (h' : -9223372036854775808 ≤ a) (W0 : World) : Calls Tryz.prog 123 #[.int .i64 a] W0 fun e w' => e = .returned (.int .i64 (addrCellM a)) ∧ Hp W0 w' [] := by
  by_cases hn : a < 0
  all_goals
    have H := Hp.start W0
    go_enter Tryz.func123, Tryz.ntmps123
    go_wp2_with (first
      | go_skip
      | ((with_reducible refine at_box ?_); first | (refine wpList_box_H rfl rfl H rfl (by constructor) ?_; clear H; intro b w H))
      | ((with_reducible refine at_alloc ?_); first | (refine wpList_alloc_H rfl rfl H ?_; clear H; intro b w H))
      | ((with_reducible refine at_load ?_); first | (refine wpList_load_H rfl rfl H rfl (by repeat constructor) ?_) | (refine wpList_loads_H rfl rfl H rfl (by repeat constructor) ?_))
      | ((with_reducible refine at_store ?_); first | (refine wpList_store_H rfl rfl H rfl rfl (by repeat constructor) ?_; clear H; intro w H)))
    go_ret
    exact ⟨ret_int (by unfold addrCellM; split <;> omega), H⟩
set_option maxRecDepth 100000 in
set_option maxHeartbeats 4000000 in
theorem walkInner_c (t : Sl Slot) (p n : Int) (W0 : World) (R : Rd Slot.cells 2 W0 t) (Z : t.xs.length ≤ 4194304) : Calls Tryz.prog 118 #[.slice t.A t.xs.length t.c, .int .i64 p, .int .i64 n] W0 fun e w' => e = .returned (.tuple #[.int .i64 (walkPageM t.xs p n), .bool (walkOkM t.xs p n)]) ∧ Hp W0 w' [] := by
  obtain ⟨s, hs⟩ : ∃ s, s = slotAtM t.xs p := ⟨_, rfl⟩
  have HS : Hid (slotAtM t.xs p = s) := hs.symm
  clear hs
  cases e1 : (s.page == -1) <;> cases e2 : enoughM s.rights n <;> cases e3 : inB n 1 3
  all_goals
    have hw : walkOkM t.xs p n = (!(s.page == -1) && enoughM s.rights n && inB n 1 3) := by unfold walkOkM; rw [HS.out]
    rw [e1, e2, e3] at hw
    have HW := Lib.hid hw
    clear hw
    have H := Hp.start W0
    go_enter Tryz.func118, Tryz.ntmps118
    go_wp2_with (first
      | go_skip
      | ((with_reducible refine at_box ?_); first | (refine wpList_box_H rfl rfl H rfl (by constructor) ?_; clear H; intro b w H))
      | ((with_reducible refine at_alloc ?_); first | (refine wpList_alloc_H rfl rfl H ?_; clear H; intro b w H))
      | ((with_reducible refine at_load ?_); first | (refine wpList_load_H rfl rfl H rfl (by repeat constructor) ?_) | (refine wpList_loads_H rfl rfl H rfl (by repeat constructor) ?_))
      | ((with_reducible refine at_store ?_); first | (refine wpList_store_H rfl rfl H rfl rfl (by repeat constructor) ?_; clear H; intro w H))
      | (go_at_call 140; refine (slotAt_c t p _ (R.at_ H) Z).mono ?_; rintro e w ⟨he, K⟩; rw [HS.out] at he; subst he; replace H := H.add_all K; clear K)
      | (go_at_call 189; refine (enough_c _ _ _).mono ?_; rintro e w ⟨he, K⟩; rw [e2] at he; subst he; replace H := H.add_all K; clear K)
      | (go_at_call 72; refine (within_any _ _ _ _).mono ?_; rintro e w' ⟨he, hw⟩; subst hw; rw [e3] at he; subst he))
    all_goals (go_ret2; refine ⟨?_, H.pick .nil⟩; unfold walkPageM; rw [HW.out]; simp [HS.out])
set_option maxRecDepth 100000 in
set_option maxHeartbeats 4000000 in
theorem specRightsOk_c (r : Int) (w : World) : Calls Tryz.prog 162 #[.int .i64 r] w fun e w' => e = .returned (.bool (inB r 0 3)) ∧ w = w' := by
  go_enter Tryz.func162, Tryz.ntmps162
  go_wp2_with (go_at_call 78; refine (in_any _ _ _ _).mono ?_; rintro e w' ⟨rfl, rfl⟩)
  go_ret
  exact ⟨rfl, rfl⟩
set_option maxRecDepth 100000 in
set_option maxHeartbeats 4000000 in
theorem specEnough_c (r n : Int) (W0 : World) : Calls Tryz.prog 64 #[.int .i64 r, .int .i64 n] W0 fun e w' => e = .returned (.bool (enoughM r n)) ∧ Hp W0 w' [] := by
  cases e1 : inB r 0 3 <;> cases e2 : inB n 0 3
  all_goals
    try (have hr : 0 ≤ r ∧ r ≤ 3 := by simpa [inB] using e1)
    try (have hn : 0 ≤ n ∧ n ≤ 3 := by simpa [inB] using e2)
    try obtain ⟨hr0, hr3⟩ := hr
    try obtain ⟨hn0, hn3⟩ := hn
    have H := Hp.start W0
    go_enter Tryz.func64, Tryz.ntmps64
    go_wp2_with (first
      | go_skip
      | ((with_reducible refine at_box ?_); first | (refine wpList_box_H rfl rfl H rfl (by constructor) ?_; clear H; intro b w H))
      | ((with_reducible refine at_alloc ?_); first | (refine wpList_alloc_H rfl rfl H ?_; clear H; intro b w H))
      | ((with_reducible refine at_load ?_); first | (refine wpList_load_H rfl rfl H rfl (by repeat constructor) ?_) | (refine wpList_loads_H rfl rfl H rfl (by repeat constructor) ?_))
      | ((with_reducible refine at_store ?_); first | (refine wpList_store_H rfl rfl H rfl rfl (by repeat constructor) ?_; clear H; intro w H))
      | (go_at_call 162; refine (specRightsOk_c _ _).mono ?_; rintro e w' ⟨he, hw⟩; subst hw; rw [e1] at he; subst he)
      | (go_at_call 162; refine (specRightsOk_c _ _).mono ?_; rintro e w' ⟨he, hw⟩; subst hw; rw [e2] at he; subst he))
    all_goals (go_ret; exact ⟨ret_bool (by simp [enoughM, e1, e2]), H⟩)
set_option maxRecDepth 100000 in
set_option maxHeartbeats 4000000 in
theorem specAddrPage_c (a : Int) (h : a ≤ 9223372036854775807) (h' : -9223372036854775808 ≤ a) (W0 : World) : Calls Tryz.prog 100 #[.int .i64 a] W0 fun e w' => e = .returned (.int .i64 (addrPageM a)) ∧ Hp W0 w' [] := by
  by_cases hn : a < 0
  all_goals
    have H := Hp.start W0
    go_enter Tryz.func100, Tryz.ntmps100
    go_wp2_with (first
      | go_skip
      | ((with_reducible refine at_box ?_); first | (refine wpList_box_H rfl rfl H rfl (by constructor) ?_; clear H; intro b w H))
      | ((with_reducible refine at_alloc ?_); first | (refine wpList_alloc_H rfl rfl H ?_; clear H; intro b w H))
      | ((with_reducible refine at_load ?_); first | (refine wpList_load_H rfl rfl H rfl (by repeat constructor) ?_) | (refine wpList_loads_H rfl rfl H rfl (by repeat constructor) ?_))
      | ((with_reducible refine at_store ?_); first | (refine wpList_store_H rfl rfl H rfl rfl (by repeat constructor) ?_; clear H; intro w H)))
    go_ret
    exact ⟨ret_int (by unfold addrPageM; split <;> omega), H⟩
set_option maxRecDepth 100000 in
set_option maxHeartbeats 4000000 in
theorem specAddrCell_c (a : Int) (h : a ≤ 9223372036854775807) (h' : -9223372036854775808 ≤ a) (W0 : World) : Calls Tryz.prog 104 #[.int .i64 a] W0 fun e w' => e = .returned (.int .i64 (addrCellM a)) ∧ Hp W0 w' [] := by
  by_cases hn : a < 0
  all_goals
    have H := Hp.start W0
    go_enter Tryz.func104, Tryz.ntmps104
    go_wp2_with (first
      | go_skip
      | ((with_reducible refine at_box ?_); first | (refine wpList_box_H rfl rfl H rfl (by constructor) ?_; clear H; intro b w H))
      | ((with_reducible refine at_alloc ?_); first | (refine wpList_alloc_H rfl rfl H ?_; clear H; intro b w H))
      | ((with_reducible refine at_load ?_); first | (refine wpList_load_H rfl rfl H rfl (by repeat constructor) ?_) | (refine wpList_loads_H rfl rfl H rfl (by repeat constructor) ?_))
      | ((with_reducible refine at_store ?_); first | (refine wpList_store_H rfl rfl H rfl rfl (by repeat constructor) ?_; clear H; intro w H)))
    go_ret
    exact ⟨ret_int (by unfold addrCellM; split <;> omega), H⟩
set_option maxRecDepth 100000 in
set_option maxHeartbeats 4000000 in
theorem specWalkInner_c (t : Sl Slot) (p n : Int) (W0 : World) (R : Rd Slot.cells 2 W0 t) (Z : t.xs.length ≤ 4194304) : Calls Tryz.prog 99 #[.slice t.A t.xs.length t.c, .int .i64 p, .int .i64 n] W0 fun e w' => e = .returned (.tuple #[.int .i64 (walkPageM t.xs p n), .bool (walkOkM t.xs p n)]) ∧ Hp W0 w' [] := by
  obtain ⟨s, hs⟩ : ∃ s, s = slotAtM t.xs p := ⟨_, rfl⟩
  have HS : Hid (slotAtM t.xs p = s) := hs.symm
  clear hs
  cases e1 : (s.page == -1) <;> cases e2 : enoughM s.rights n <;> cases e3 : inB n 1 3
  all_goals
    have hw : walkOkM t.xs p n = (!(s.page == -1) && enoughM s.rights n && inB n 1 3) := by unfold walkOkM; rw [HS.out]
    rw [e1, e2, e3] at hw
    have HW := Lib.hid hw
    clear hw
    try (have hz : (n == 0) = true := (by have h2 : inB n 0 3 = true := (by unfold enoughM at e2; simp only [Bool.and_eq_true] at e2; exact e2.1.2); simp [inB] at h2 e3 ⊢; omega))
    try (have hz : (n == 0) = false := (by simp [inB] at e3 ⊢; omega))
    have H := Hp.start W0
    go_enter Tryz.func99, Tryz.ntmps99
    go_wp2_with (first
      | go_skip
      | ((with_reducible refine at_box ?_); first | (refine wpList_box_H rfl rfl H rfl (by constructor) ?_; clear H; intro b w H))
      | ((with_reducible refine at_alloc ?_); first | (refine wpList_alloc_H rfl rfl H ?_; clear H; intro b w H))
      | ((with_reducible refine at_load ?_); first | (refine wpList_load_H rfl rfl H rfl (by repeat constructor) ?_) | (refine wpList_loads_H rfl rfl H rfl (by repeat constructor) ?_))
      | ((with_reducible refine at_store ?_); first | (refine wpList_store_H rfl rfl H rfl rfl (by repeat constructor) ?_; clear H; intro w H))
      | (go_at_call 34; refine (specSlotAt_c t p _ (R.at_ H) Z).mono ?_; rintro e w ⟨he, K⟩; rw [HS.out] at he; subst he; replace H := H.add_all K; clear K)
      | (go_at_call 64; refine (specEnough_c _ _ _).mono ?_; rintro e w ⟨he, K⟩; rw [e2] at he; subst he; replace H := H.add_all K; clear K))
    all_goals (go_ret2; refine ⟨?_, H.pick .nil⟩; unfold walkPageM; rw [HW.out]; simp [HS.out])
set_option maxRecDepth 100000 in
set_option maxHeartbeats 4000000 in
theorem l19Is_c (B : BV) (g : Int) (W0 : World) (R : BRd W0 B) (Z : BBig B) : Calls Tryz.prog 77 #[B.val, .int .i64 g] W0 fun e w' => e = .returned (.bool (bareOkM B.m && hasM B.m g)) ∧ Hp W0 w' [] := by
  have z2 := Z.gs
  have hm : hasM B.m g = hasB g (B.gs.xs.length : Int) := by simp [hasM, BV.m, gsOf]
  rw [hm]
  clear hm
  cases e1 : bareOkM B.m <;> cases e2 : hasB g (B.gs.xs.length : Int)
  all_goals
    have H := Hp.start W0
    go_enter Tryz.func77, Tryz.ntmps77
    go_wp2_with (first
      | go_skip
      | ((with_reducible refine at_box ?_); first | (refine wpList_box_H rfl rfl H rfl (by constructor) ?_; clear H; intro bB w H))
      | ((with_reducible refine at_alloc ?_); first | (refine wpList_alloc_H rfl rfl H ?_; clear H; intro b w H))
      | ((with_reducible refine at_load ?_); first | (refine wpList_load_H rfl rfl H rfl (by repeat constructor) ?_) | (refine wpList_loads_H rfl rfl H rfl (by repeat constructor) ?_))
      | ((with_reducible refine at_store ?_); first | (refine wpList_store_H rfl rfl H rfl rfl (by repeat constructor) ?_; clear H; intro w H))
      | (go_at_call 51; refine (specBareOk_c B _ (R.at_ H) Z).mono ?_; rintro e w ⟨he, K⟩; rw [e1] at he; subst he; replace H := H.add_all K; clear K)
      | (go_at_call 78; refine (in_any _ _ _ _).mono ?_; rintro e w' ⟨he, hw⟩; subst hw; rw [hasB_in, e2] at he; subst he))
    all_goals (go_ret; exact ⟨rfl, H.pick .nil⟩)
end Go.Proofs.YtaafnenmdombiaaGreat
