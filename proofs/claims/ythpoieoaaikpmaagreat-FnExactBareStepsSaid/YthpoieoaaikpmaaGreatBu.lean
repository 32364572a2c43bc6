/- Contracts of the walk through an inner table, and of BareRead and BarePoke, of the program and of the reference. No condition but that the arguments lie in memory. -/
import Derived.Test.YthpoieoaaikpmaaGreatBt
import Derived.Test.YthpoieoaaikpmaaGreatBo
namespace Go.Proofs.YthpoieoaaikpmaaGreat
set_option linter.unusedSimpArgs false
set_option linter.unusedVariables false
open Go.RowKit
def enoughM (r n : Int) : Bool := inB r 0 3 && inB n 0 3 && (bits .and .i64 r n == n)
def addrPageM (a : Int) : Int := if a < 0 then -1 else a / 4
def addrCellM (a : Int) : Int := if a < 0 then -1 else a % 4
def walkOkM (t : List Slot) (p n : Int) : Bool := !((slotAtM t p).page == -1) && enoughM (slotAtM t p).rights n && inB n 1 3
def walkPageM (t : List Slot) (p n : Int) : Int := if walkOkM t p n then (slotAtM t p).page else -1
set_option linter.unusedSimpArgs false in
set_option linter.unusedVariables false in
set_option maxRecDepth 100000 in
set_option maxHeartbeats 4000000 in
theorem rightsOk_c (r : Int) (w : World) : Calls Tryz.prog 143 #[.int .i64 r] w fun e w' => e = .returned (.bool (inB r 0 3)) ∧ w = w' := by
  go_enter Tryz.func143, Tryz.ntmps143
  go_wp2_with (go_at_call 105; refine (within_any _ _ _ _).mono ?_; rintro e w' ⟨rfl, rfl⟩)
  go_ret
  exact ⟨rfl, rfl⟩
set_option linter.unusedSimpArgs false in
set_option linter.unusedVariables false in
set_option maxRecDepth 100000 in
set_option maxHeartbeats 4000000 in
theorem enough_c (r n : Int) (W0 : World) : Calls Tryz.prog 113 #[.int .i64 r, .int .i64 n] W0 fun e w' => e = .returned (.bool (enoughM r n)) ∧ Hp W0 w' [] := by
  cases e1 : inB r 0 3 <;> cases e2 : inB n 0 3
  all_goals
    try (have hr : 0 ≤ r ∧ r ≤ 3 := by simpa [inB] using e1)
    try (have hn : 0 ≤ n ∧ n ≤ 3 := by simpa [inB] using e2)
    try obtain ⟨hr0, hr3⟩ := hr
    try obtain ⟨hn0, hn3⟩ := hn
    have H := Hp.start W0
    go_enter Tryz.func113, Tryz.ntmps113
    go_wp2_with (first
      | go_skip
      | ((with_reducible refine at_box ?_); first | (refine wpList_box_H rfl rfl H rfl (by first | exact CellsOf.agg | exact CellsOf.int | exact CellsOf.bool | exact CellsOf.slice | exact CellsOf.string | exact CellsOf.pointer | exact CellsOf.func) ?_; clear H; intro b w H))
      | ((with_reducible refine at_alloc ?_); first | (refine wpList_alloc_H rfl rfl H ?_; clear H; intro b w H))
      | ((with_reducible refine at_load ?_); first | (refine wpList_load_H rfl rfl H rfl (by repeat (first | exact LoadAt.here rfl | apply LoadAt.there)) ?_) | (refine wpList_loads_H rfl rfl H rfl (by repeat (first | (apply LoadsAt.here; repeat (first | exact GetsAt.nil | apply GetsAt.here | apply GetsAt.there)) | apply LoadsAt.there)) ?_))
      | ((with_reducible refine at_store ?_); first | (refine wpList_store_H rfl rfl H rfl rfl (by repeat (first | (apply StoreAt.here; (first | exact CellsOf.agg | exact CellsOf.int | exact CellsOf.bool | exact CellsOf.slice | exact CellsOf.string | exact CellsOf.pointer | exact CellsOf.func); (repeat (first | exact SetsAt.nil | apply SetsAt.here | apply SetsAt.there)); exact rfl; exact rfl) | apply StoreAt.there)) ?_; clear H; intro w H))
      | (go_at_call 143; refine (rightsOk_c _ _).mono ?_; rintro e w' ⟨he, hw⟩; subst hw; rw [e1] at he; subst he)
      | (go_at_call 143; refine (rightsOk_c _ _).mono ?_; rintro e w' ⟨he, hw⟩; subst hw; rw [e2] at he; subst he))
    all_goals (go_ret; exact ⟨ret_bool (by simp [enoughM, e1, e2]), H⟩)
set_option linter.unusedSimpArgs false in
set_option linter.unusedVariables false in
set_option maxRecDepth 100000 in
set_option maxHeartbeats 4000000 in
theorem addrPage_c (a : Int) (h : a ≤ 9223372036854775807) (h' : -9223372036854775808 ≤ a) (W0 : World) : Calls Tryz.prog 55 #[.int .i64 a] W0 fun e w' => e = .returned (.int .i64 (addrPageM a)) ∧ Hp W0 w' [] := by
  by_cases hn : a < 0
  all_goals
    have H := Hp.start W0
    go_enter Tryz.func55, Tryz.ntmps55
    go_wp2_with (first
      | go_skip
      | ((with_reducible refine at_box ?_); first | (refine wpList_box_H rfl rfl H rfl (by first | exact CellsOf.agg | exact CellsOf.int | exact CellsOf.bool | exact CellsOf.slice | exact CellsOf.string | exact CellsOf.pointer | exact CellsOf.func) ?_; clear H; intro b w H))
      | ((with_reducible refine at_alloc ?_); first | (refine wpList_alloc_H rfl rfl H ?_; clear H; intro b w H))
      | ((with_reducible refine at_load ?_); first | (refine wpList_load_H rfl rfl H rfl (by repeat (first | exact LoadAt.here rfl | apply LoadAt.there)) ?_) | (refine wpList_loads_H rfl rfl H rfl (by repeat (first | (apply LoadsAt.here; repeat (first | exact GetsAt.nil | apply GetsAt.here | apply GetsAt.there)) | apply LoadsAt.there)) ?_))
      | ((with_reducible refine at_store ?_); first | (refine wpList_store_H rfl rfl H rfl rfl (by repeat (first | (apply StoreAt.here; (first | exact CellsOf.agg | exact CellsOf.int | exact CellsOf.bool | exact CellsOf.slice | exact CellsOf.string | exact CellsOf.pointer | exact CellsOf.func); (repeat (first | exact SetsAt.nil | apply SetsAt.here | apply SetsAt.there)); exact rfl; exact rfl) | apply StoreAt.there)) ?_; clear H; intro w H)))
    go_ret
    exact ⟨ret_int (by unfold addrPageM; split <;> omega), H⟩
set_option linter.unusedSimpArgs false in
set_option linter.unusedVariables false in
set_option maxRecDepth 100000 in
set_option maxHeartbeats 4000000 in
theorem addrCell_c (a : Int) (h : a ≤ 9223372036854775807) (h' : -9223372036854775808 ≤ a) (W0 : World) : Calls Tryz.prog 60 #[.int .i64 a] W0 fun e w' => e = .returned (.int .i64 (addrCellM a)) ∧ Hp W0 w' [] := by
  by_cases hn : a < 0
  all_goals
    have H := Hp.start W0
    go_enter Tryz.func60, Tryz.ntmps60
    go_wp2_with (first
      | go_skip
      | ((with_reducible refine at_box ?_); first | (refine wpList_box_H rfl rfl H rfl (by first | exact CellsOf.agg | exact CellsOf.int | exact CellsOf.bool | exact CellsOf.slice | exact CellsOf.string | exact CellsOf.pointer | exact CellsOf.func) ?_; clear H; intro b w H))
      | ((with_reducible refine at_alloc ?_); first | (refine wpList_alloc_H rfl rfl H ?_; clear H; intro b w H))
      | ((with_reducible refine at_load ?_); first | (refine wpList_load_H rfl rfl H rfl (by repeat (first | exact LoadAt.here rfl | apply LoadAt.there)) ?_) | (refine wpList_loads_H rfl rfl H rfl (by repeat (first | (apply LoadsAt.here; repeat (first | exact GetsAt.nil | apply GetsAt.here | apply GetsAt.there)) | apply LoadsAt.there)) ?_))
      | ((with_reducible refine at_store ?_); first | (refine wpList_store_H rfl rfl H rfl rfl (by repeat (first | (apply StoreAt.here; (first | exact CellsOf.agg | exact CellsOf.int | exact CellsOf.bool | exact CellsOf.slice | exact CellsOf.string | exact CellsOf.pointer | exact CellsOf.func); (repeat (first | exact SetsAt.nil | apply SetsAt.here | apply SetsAt.there)); exact rfl; exact rfl) | apply StoreAt.there)) ?_; clear H; intro w H)))
    go_ret
    exact ⟨ret_int (by unfold addrCellM; split <;> omega), H⟩
set_option linter.unusedSimpArgs false in
set_option linter.unusedVariables false in
set_option maxRecDepth 100000 in
set_option maxHeartbeats 4000000 in
theorem walkInner_c (t : Sl Slot) (p n : Int) (W0 : World) (R : Rd Slot.cells 2 W0 t) (Z : t.xs.length ≤ 4194304) : Calls Tryz.prog 54 #[.slice t.A t.xs.length t.c, .int .i64 p, .int .i64 n] W0 fun e w' => e = .returned (.tuple #[.int .i64 (walkPageM t.xs p n), .bool (walkOkM t.xs p n)]) ∧ Hp W0 w' [] := by
  obtain ⟨s, hs⟩ : ∃ s, s = slotAtM t.xs p := ⟨_, rfl⟩
  have HS : Hid (slotAtM t.xs p = s) := hs.symm
  clear hs
  cases e1 : (s.page == -1) <;> cases e2 : enoughM s.rights n <;> cases e3 : inB n 1 3
  all_goals
    have hw : walkOkM t.xs p n = (!(s.page == -1) && enoughM s.rights n && inB n 1 3) := by unfold walkOkM; rw [HS.out]
    rw [e1, e2, e3] at hw
    have HW := Lib.hid hw
    clear hw
    have H := Hp.start W0
    go_enter Tryz.func54, Tryz.ntmps54
    go_wp2_with (first
      | go_skip
      | ((with_reducible refine at_box ?_); first | (refine wpList_box_H rfl rfl H rfl (by first | exact CellsOf.agg | exact CellsOf.int | exact CellsOf.bool | exact CellsOf.slice | exact CellsOf.string | exact CellsOf.pointer | exact CellsOf.func) ?_; clear H; intro b w H))
      | ((with_reducible refine at_alloc ?_); first | (refine wpList_alloc_H rfl rfl H ?_; clear H; intro b w H))
      | ((with_reducible refine at_load ?_); first | (refine wpList_load_H rfl rfl H rfl (by repeat (first | exact LoadAt.here rfl | apply LoadAt.there)) ?_) | (refine wpList_loads_H rfl rfl H rfl (by repeat (first | (apply LoadsAt.here; repeat (first | exact GetsAt.nil | apply GetsAt.here | apply GetsAt.there)) | apply LoadsAt.there)) ?_))
      | ((with_reducible refine at_store ?_); first | (refine wpList_store_H rfl rfl H rfl rfl (by repeat (first | (apply StoreAt.here; (first | exact CellsOf.agg | exact CellsOf.int | exact CellsOf.bool | exact CellsOf.slice | exact CellsOf.string | exact CellsOf.pointer | exact CellsOf.func); (repeat (first | exact SetsAt.nil | apply SetsAt.here | apply SetsAt.there)); exact rfl; exact rfl) | apply StoreAt.there)) ?_; clear H; intro w H))
      | (go_at_call 112; refine (slotAt_c t p _ (R.at_ H) Z).mono ?_; rintro e w ⟨he, K⟩; rw [HS.out] at he; subst he; replace H := H.add_all K; clear K)
      | (go_at_call 113; refine (enough_c _ _ _).mono ?_; rintro e w ⟨he, K⟩; rw [e2] at he; subst he; replace H := H.add_all K; clear K)
      | (go_at_call 105; refine (within_any _ _ _ _).mono ?_; rintro e w' ⟨he, hw⟩; subst hw; rw [e3] at he; subst he))
    all_goals (go_ret2; refine ⟨?_, H.pick .nil⟩; unfold walkPageM; rw [HW.out]; simp [HS.out])
set_option linter.unusedSimpArgs false in
set_option linter.unusedVariables false in
set_option maxRecDepth 100000 in
set_option maxHeartbeats 4000000 in
theorem specRightsOk_c (r : Int) (w : World) : Calls Tryz.prog 129 #[.int .i64 r] w fun e w' => e = .returned (.bool (inB r 0 3)) ∧ w = w' := by
  go_enter Tryz.func129, Tryz.ntmps129
  go_wp2_with (go_at_call 81; refine (in_any _ _ _ _).mono ?_; rintro e w' ⟨rfl, rfl⟩)
  go_ret
  exact ⟨rfl, rfl⟩
set_option linter.unusedSimpArgs false in
set_option linter.unusedVariables false in
set_option maxRecDepth 100000 in
set_option maxHeartbeats 4000000 in
theorem specEnough_c (r n : Int) (W0 : World) : Calls Tryz.prog 92 #[.int .i64 r, .int .i64 n] W0 fun e w' => e = .returned (.bool (enoughM r n)) ∧ Hp W0 w' [] := by
  cases e1 : inB r 0 3 <;> cases e2 : inB n 0 3
  all_goals
    try (have hr : 0 ≤ r ∧ r ≤ 3 := by simpa [inB] using e1)
    try (have hn : 0 ≤ n ∧ n ≤ 3 := by simpa [inB] using e2)
    try obtain ⟨hr0, hr3⟩ := hr
    try obtain ⟨hn0, hn3⟩ := hn
    have H := Hp.start W0
    go_enter Tryz.func92, Tryz.ntmps92
    go_wp2_with (first
      | go_skip
      | ((with_reducible refine at_box ?_); first | (refine wpList_box_H rfl rfl H rfl (by first | exact CellsOf.agg | exact CellsOf.int | exact CellsOf.bool | exact CellsOf.slice | exact CellsOf.string | exact CellsOf.pointer | exact CellsOf.func) ?_; clear H; intro b w H))
      | ((with_reducible refine at_alloc ?_); first | (refine wpList_alloc_H rfl rfl H ?_; clear H; intro b w H))
      | ((with_reducible refine at_load ?_); first | (refine wpList_load_H rfl rfl H rfl (by repeat (first | exact LoadAt.here rfl | apply LoadAt.there)) ?_) | (refine wpList_loads_H rfl rfl H rfl (by repeat (first | (apply LoadsAt.here; repeat (first | exact GetsAt.nil | apply GetsAt.here | apply GetsAt.there)) | apply LoadsAt.there)) ?_))
      | ((with_reducible refine at_store ?_); first | (refine wpList_store_H rfl rfl H rfl rfl (by repeat (first | (apply StoreAt.here; (first | exact CellsOf.agg | exact CellsOf.int | exact CellsOf.bool | exact CellsOf.slice | exact CellsOf.string | exact CellsOf.pointer | exact CellsOf.func); (repeat (first | exact SetsAt.nil | apply SetsAt.here | apply SetsAt.there)); exact rfl; exact rfl) | apply StoreAt.there)) ?_; clear H; intro w H))
      | (go_at_call 129; refine (specRightsOk_c _ _).mono ?_; rintro e w' ⟨he, hw⟩; subst hw; rw [e1] at he; subst he)
      | (go_at_call 129; refine (specRightsOk_c _ _).mono ?_; rintro e w' ⟨he, hw⟩; subst hw; rw [e2] at he; subst he))
    all_goals (go_ret; exact ⟨ret_bool (by simp [enoughM, e1, e2]), H⟩)
set_option linter.unusedSimpArgs false in
set_option linter.unusedVariables false in
set_option maxRecDepth 100000 in
set_option maxHeartbeats 4000000 in
theorem specAddrPage_c (a : Int) (h : a ≤ 9223372036854775807) (h' : -9223372036854775808 ≤ a) (W0 : World) : Calls Tryz.prog 31 #[.int .i64 a] W0 fun e w' => e = .returned (.int .i64 (addrPageM a)) ∧ Hp W0 w' [] := by
  by_cases hn : a < 0
  all_goals
    have H := Hp.start W0
    go_enter Tryz.func31, Tryz.ntmps31
    go_wp2_with (first
      | go_skip
      | ((with_reducible refine at_box ?_); first | (refine wpList_box_H rfl rfl H rfl (by first | exact CellsOf.agg | exact CellsOf.int | exact CellsOf.bool | exact CellsOf.slice | exact CellsOf.string | exact CellsOf.pointer | exact CellsOf.func) ?_; clear H; intro b w H))
      | ((with_reducible refine at_alloc ?_); first | (refine wpList_alloc_H rfl rfl H ?_; clear H; intro b w H))
      | ((with_reducible refine at_load ?_); first | (refine wpList_load_H rfl rfl H rfl (by repeat (first | exact LoadAt.here rfl | apply LoadAt.there)) ?_) | (refine wpList_loads_H rfl rfl H rfl (by repeat (first | (apply LoadsAt.here; repeat (first | exact GetsAt.nil | apply GetsAt.here | apply GetsAt.there)) | apply LoadsAt.there)) ?_))
      | ((with_reducible refine at_store ?_); first | (refine wpList_store_H rfl rfl H rfl rfl (by repeat (first | (apply StoreAt.here; (first | exact CellsOf.agg | exact CellsOf.int | exact CellsOf.bool | exact CellsOf.slice | exact CellsOf.string | exact CellsOf.pointer | exact CellsOf.func); (repeat (first | exact SetsAt.nil | apply SetsAt.here | apply SetsAt.there)); exact rfl; exact rfl) | apply StoreAt.there)) ?_; clear H; intro w H)))
    go_ret
    exact ⟨ret_int (by unfold addrPageM; split <;> omega), H⟩
set_option linter.unusedSimpArgs false in
set_option linter.unusedVariables false in
set_option maxRecDepth 100000 in
set_option maxHeartbeats 4000000 in
theorem specAddrCell_c (a : Int) (h : a ≤ 9223372036854775807) (h' : -9223372036854775808 ≤ a) (W0 : World) : Calls Tryz.prog 36 #[.int .i64 a] W0 fun e w' => e = .returned (.int .i64 (addrCellM a)) ∧ Hp W0 w' [] := by
  by_cases hn : a < 0
  all_goals
    have H := Hp.start W0
    go_enter Tryz.func36, Tryz.ntmps36
    go_wp2_with (first
      | go_skip
      | ((with_reducible refine at_box ?_); first | (refine wpList_box_H rfl rfl H rfl (by first | exact CellsOf.agg | exact CellsOf.int | exact CellsOf.bool | exact CellsOf.slice | exact CellsOf.string | exact CellsOf.pointer | exact CellsOf.func) ?_; clear H; intro b w H))
      | ((with_reducible refine at_alloc ?_); first | (refine wpList_alloc_H rfl rfl H ?_; clear H; intro b w H))
      | ((with_reducible refine at_load ?_); first | (refine wpList_load_H rfl rfl H rfl (by repeat (first | exact LoadAt.here rfl | apply LoadAt.there)) ?_) | (refine wpList_loads_H rfl rfl H rfl (by repeat (first | (apply LoadsAt.here; repeat (first | exact GetsAt.nil | apply GetsAt.here | apply GetsAt.there)) | apply LoadsAt.there)) ?_))
      | ((with_reducible refine at_store ?_); first | (refine wpList_store_H rfl rfl H rfl rfl (by repeat (first | (apply StoreAt.here; (first | exact CellsOf.agg | exact CellsOf.int | exact CellsOf.bool | exact CellsOf.slice | exact CellsOf.string | exact CellsOf.pointer | exact CellsOf.func); (repeat (first | exact SetsAt.nil | apply SetsAt.here | apply SetsAt.there)); exact rfl; exact rfl) | apply StoreAt.there)) ?_; clear H; intro w H)))
    go_ret
    exact ⟨ret_int (by unfold addrCellM; split <;> omega), H⟩
set_option linter.unusedSimpArgs false in
set_option linter.unusedVariables false in
set_option maxRecDepth 100000 in
set_option maxHeartbeats 4000000 in
theorem specWalkInner_c (t : Sl Slot) (p n : Int) (W0 : World) (R : Rd Slot.cells 2 W0 t) (Z : t.xs.length ≤ 4194304) : Calls Tryz.prog 30 #[.slice t.A t.xs.length t.c, .int .i64 p, .int .i64 n] W0 fun e w' => e = .returned (.tuple #[.int .i64 (walkPageM t.xs p n), .bool (walkOkM t.xs p n)]) ∧ Hp W0 w' [] := by
  obtain ⟨s, hs⟩ : ∃ s, s = slotAtM t.xs p := ⟨_, rfl⟩
  have HS : Hid (slotAtM t.xs p = s) := hs.symm
  clear hs
  cases e1 : (s.page == -1) <;> cases e2 : enoughM s.rights n <;> cases e3 : inB n 1 3
  all_goals
    have hw : walkOkM t.xs p n = (!(s.page == -1) && enoughM s.rights n && inB n 1 3) := by unfold walkOkM; rw [HS.out]
    rw [e1, e2, e3] at hw
    have HW := Lib.hid hw
    clear hw
    try (have hz : (n == 0) = true := (by have h2 : inB n 0 3 = true := (by unfold enoughM at e2; simp only [Bool.and_eq_true] at e2; exact e2.1.2); simp [inB] at h2 e3 ⊢; omega))
    try (have hz : (n == 0) = false := (by simp [inB] at e3 ⊢; omega))
    have H := Hp.start W0
    go_enter Tryz.func30, Tryz.ntmps30
    go_wp2_with (first
      | go_skip
      | ((with_reducible refine at_box ?_); first | (refine wpList_box_H rfl rfl H rfl (by first | exact CellsOf.agg | exact CellsOf.int | exact CellsOf.bool | exact CellsOf.slice | exact CellsOf.string | exact CellsOf.pointer | exact CellsOf.func) ?_; clear H; intro b w H))
      | ((with_reducible refine at_alloc ?_); first | (refine wpList_alloc_H rfl rfl H ?_; clear H; intro b w H))
      | ((with_reducible refine at_load ?_); first | (refine wpList_load_H rfl rfl H rfl (by repeat (first | exact LoadAt.here rfl | apply LoadAt.there)) ?_) | (refine wpList_loads_H rfl rfl H rfl (by repeat (first | (apply LoadsAt.here; repeat (first | exact GetsAt.nil | apply GetsAt.here | apply GetsAt.there)) | apply LoadsAt.there)) ?_))
      | ((with_reducible refine at_store ?_); first | (refine wpList_store_H rfl rfl H rfl rfl (by repeat (first | (apply StoreAt.here; (first | exact CellsOf.agg | exact CellsOf.int | exact CellsOf.bool | exact CellsOf.slice | exact CellsOf.string | exact CellsOf.pointer | exact CellsOf.func); (repeat (first | exact SetsAt.nil | apply SetsAt.here | apply SetsAt.there)); exact rfl; exact rfl) | apply StoreAt.there)) ?_; clear H; intro w H))
      | (go_at_call 91; refine (specSlotAt_c t p _ (R.at_ H) Z).mono ?_; rintro e w ⟨he, K⟩; rw [HS.out] at he; subst he; replace H := H.add_all K; clear K)
      | (go_at_call 92; refine (specEnough_c _ _ _).mono ?_; rintro e w ⟨he, K⟩; rw [e2] at he; subst he; replace H := H.add_all K; clear K))
    all_goals (go_ret2; refine ⟨?_, H.pick .nil⟩; unfold walkPageM; rw [HW.out]; simp [HS.out])
def reachOkM (m : MB) (g a : Int) : Bool := bareOkM m && hasM m g && inB a 0 15
def readOkM (m : MB) (g a : Int) : Bool := reachOkM m g a && walkOkM (gAtM m g).live (addrPageM a) 1
def readM (m : MB) (g a : Int) : Int := if readOkM m g a then cellAtM m.memory (walkPageM (gAtM m g).live (addrPageM a) 1) (addrCellM a) else 0
theorem glive_big {B : BV} (Z : BBig B) (g : Int) : (gAtM B.m g).live.length ≤ 4194304 := by
  have h := gAtM_size B.m g
  have e : (gAtM B.m g).size = (gAtM B.m g).prog.length + (gAtM B.m g).written.length + (gAtM B.m g).live.length + (gAtM B.m g).seen.length := rfl
  unfold BBig at Z; omega
def pokeOkM (m : MB) (p c v : Int) : Bool := bareOkM m && hasB p 8 && hasB c 4 && inB v 0 99
def pokeM (m : MB) (p c v : Int) : MB := if pokeOkM m p c v then { m with memory := withCellM m.memory p c v } else m
theorem in8 (x : Int) : inB x 0 7 = hasB x 8 := hasB_in x 8
theorem in4 (x : Int) : inB x 0 3 = hasB x 4 := hasB_in x 4
def reachPM (m : MB) (g a n : Int) : Int := if reachOkM m g a then walkPageM (gAtM m g).live (addrPageM a) n else 0
def reachCM (m : MB) (g a : Int) : Int := if reachOkM m g a then addrCellM a else 0
def reachBM (m : MB) (g a n : Int) : Bool := reachOkM m g a && walkOkM (gAtM m g).live (addrPageM a) n
theorem results_3 {fn : Func} {p q r : Tmp} (h : fn.results = #[.tmp p, .tmp q, .tmp r]) (P : Program) (tmps : Array Value) (w : World) : (results fn tmps).run P w = .ok (.tuple #[tmps.getD p undef, tmps.getD q undef, tmps.getD r undef]) w := by
  simp [results, h, Sem.run_bind, Sem.run_pure]
end Go.Proofs.YthpoieoaaikpmaaGreat
