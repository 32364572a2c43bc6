/- Contracts of the walk through an inner table, and of BareRead and BarePoke, of the program and of the reference. No condition but that the arguments lie in memory. -/
import Derived.Test.YtgeoilpmmdfemaaBt
import Derived.Test.YtgeoilpmmdfemaaBo
namespace Go.Proofs.Ytgeoilpmmdfemaa
set_option linter.unusedSimpArgs false
set_option linter.unusedVariables false
open Go.RowKit
def enoughM (r n : Int) : Bool := inB r 0 3 && inB n 0 3 && (bits .and .i64 r n == n)
def addrPageM (a : Int) : Int := if a < 0 then -1 else a / 4
def addrCellM (a : Int) : Int := if a < 0 then -1 else a % 4
def walkOkM (t : List Slot) (p n : Int) : Bool := !((slotAtM t p).page == -1) && enoughM (slotAtM t p).rights n && inB n 1 3
def walkPageM (t : List Slot) (p n : Int) : Int := if walkOkM t p n then (slotAtM t p).page else -1
set_option linter.unusedSimpArgs false in
set_option linter.unusedVariables false in
set_option maxRecDepth 100000 in
set_option maxHeartbeats 4000000 in
theorem rightsOk_c (r : Int) (w : World) : Calls Try.prog 209 #[.int .i64 r] w fun e w' => e = .returned (.bool (inB r 0 3)) ∧ w = w' := by
  go_enter Try.func209, Try.ntmps209
  go_wp2_with (go_at_call 114; refine (within_any _ _ _ _).mono ?_; rintro e w' ⟨rfl, rfl⟩)
  go_ret
  exact ⟨rfl, rfl⟩
set_option linter.unusedSimpArgs false in
set_option linter.unusedVariables false in
set_option maxRecDepth 100000 in
set_option maxHeartbeats 4000000 in
theorem enough_c (r n : Int) (W0 : World) : Calls Try.prog 206 #[.int .i64 r, .int .i64 n] W0 fun e w' => e = .returned (.bool (enoughM r n)) ∧ Hp W0 w' [] := by
  cases e1 : inB r 0 3 <;> cases e2 : inB n 0 3
  all_goals
    try (have hr : 0 ≤ r ∧ r ≤ 3 := by simpa [inB] using e1)
    try (have hn : 0 ≤ n ∧ n ≤ 3 := by simpa [inB] using e2)
    try obtain ⟨hr0, hr3⟩ := hr
    try obtain ⟨hn0, hn3⟩ := hn
    have H := Hp.start W0
    go_enter Try.func206, Try.ntmps206
    go_wp2_with (first
      | go_skip
      | ((with_reducible refine at_box ?_); first | (refine wpList_box_H rfl rfl H rfl (by first | exact CellsOf.agg | exact CellsOf.int | exact CellsOf.bool | exact CellsOf.slice | exact CellsOf.string | exact CellsOf.pointer | exact CellsOf.func) ?_; clear H; intro b w H))
      | ((with_reducible refine at_alloc ?_); first | (refine wpList_alloc_H rfl rfl H ?_; clear H; intro b w H))
      | ((with_reducible refine at_load ?_); first | (refine wpList_load_H rfl rfl H rfl (by repeat (first | exact LoadAt.here rfl | apply LoadAt.there)) ?_) | (refine wpList_loads_H rfl rfl H rfl (by repeat (first | (apply LoadsAt.here; repeat (first | exact GetsAt.nil | apply GetsAt.here | apply GetsAt.there)) | apply LoadsAt.there)) ?_))
      | ((with_reducible refine at_store ?_); first | (refine wpList_store_H rfl rfl H rfl rfl (by repeat (first | (apply StoreAt.here; (first | exact CellsOf.agg | exact CellsOf.int | exact CellsOf.bool | exact CellsOf.slice | exact CellsOf.string | exact CellsOf.pointer | exact CellsOf.func); (repeat (first | exact SetsAt.nil | apply SetsAt.here | apply SetsAt.there)); exact rfl; exact rfl) | apply StoreAt.there)) ?_; clear H; intro w H))
      | (go_at_call 209; refine (rightsOk_c _ _).mono ?_; rintro e w' ⟨he, hw⟩; subst hw; rw [e1] at he; subst he)
      | (go_at_call 209; refine (rightsOk_c _ _).mono ?_; rintro e w' ⟨he, hw⟩; subst hw; rw [e2] at he; subst he))
    all_goals (go_ret; exact ⟨ret_bool (by simp [enoughM, e1, e2]), H⟩)
set_option linter.unusedSimpArgs false in
set_option linter.unusedVariables false in
set_option maxRecDepth 100000 in
set_option maxHeartbeats 4000000 in
theorem addrPage_c (a : Int) (h : a ≤ 9223372036854775807) (h' : -9223372036854775808 ≤ a) (W0 : World) : Calls Try.prog 192 #[.int .i64 a] W0 fun e w' => e = .returned (.int .i64 (addrPageM a)) ∧ Hp W0 w' [] := by
  by_cases hn : a < 0
  all_goals
    have H := Hp.start W0
    go_enter Try.func192, Try.ntmps192
    go_wp2_with (first
      | go_skip
      | ((with_reducible refine at_box ?_); first | (refine wpList_box_H rfl rfl H rfl (by first | exact CellsOf.agg | exact CellsOf.int | exact CellsOf.bool | exact CellsOf.slice | exact CellsOf.string | exact CellsOf.pointer | exact CellsOf.func) ?_; clear H; intro b w H))
      | ((with_reducible refine at_alloc ?_); first | (refine wpList_alloc_H rfl rfl H ?_; clear H; intro b w H))
      | ((with_reducible refine at_load ?_); first | (refine wpList_load_H rfl rfl H rfl (by repeat (first | exact LoadAt.here rfl | apply LoadAt.there)) ?_) | (refine wpList_loads_H rfl rfl H rfl (by repeat (first | (apply LoadsAt.here; repeat (first | exact GetsAt.nil | apply GetsAt.here | apply GetsAt.there)) | apply LoadsAt.there)) ?_))
      | ((with_reducible refine at_store ?_); first | (refine wpList_store_H rfl rfl H rfl rfl (by repeat (first | (apply StoreAt.here; (first | exact CellsOf.agg | exact CellsOf.int | exact CellsOf.bool | exact CellsOf.slice | exact CellsOf.string | exact CellsOf.pointer | exact CellsOf.func); (repeat (first | exact SetsAt.nil | apply SetsAt.here | apply SetsAt.there)); exact rfl; exact rfl) | apply StoreAt.there)) ?_; clear H; intro w H)))
    go_ret
    exact ⟨ret_int (by unfold addrPageM; split <;> omega), H⟩
set_option linter.unusedSimpArgs false in
set_option linter.unusedVariables false in
set_option maxRecDepth 100000 in
set_option maxHeartbeats 4000000 in
theorem addrCell_c (a : Int) (h : a ≤ 9223372036854775807) (h' : -9223372036854775808 ≤ a) (W0 : World) : Calls Try.prog 193 #[.int .i64 a] W0 fun e w' => e = .returned (.int .i64 (addrCellM a)) ∧ Hp W0 w' [] := by
  by_cases hn : a < 0
  all_goals
    have H := Hp.start W0
    go_enter Try.func193, Try.ntmps193
    go_wp2_with (first
      | go_skip
      | ((with_reducible refine at_box ?_); first | (refine wpList_box_H rfl rfl H rfl (by first | exact CellsOf.agg | exact CellsOf.int | exact CellsOf.bool | exact CellsOf.slice | exact CellsOf.string | exact CellsOf.pointer | exact CellsOf.func) ?_; clear H; intro b w H))
      | ((with_reducible refine at_alloc ?_); first | (refine wpList_alloc_H rfl rfl H ?_; clear H; intro b w H))
      | ((with_reducible refine at_load ?_); first | (refine wpList_load_H rfl rfl H rfl (by repeat (first | exact LoadAt.here rfl | apply LoadAt.there)) ?_) | (refine wpList_loads_H rfl rfl H rfl (by repeat (first | (apply LoadsAt.here; repeat (first | exact GetsAt.nil | apply GetsAt.here | apply GetsAt.there)) | apply LoadsAt.there)) ?_))
      | ((with_reducible refine at_store ?_); first | (refine wpList_store_H rfl rfl H rfl rfl (by repeat (first | (apply StoreAt.here; (first | exact CellsOf.agg | exact CellsOf.int | exact CellsOf.bool | exact CellsOf.slice | exact CellsOf.string | exact CellsOf.pointer | exact CellsOf.func); (repeat (first | exact SetsAt.nil | apply SetsAt.here | apply SetsAt.there)); exact rfl; exact rfl) | apply StoreAt.there)) ?_; clear H; intro w H)))
    go_ret
    exact ⟨ret_int (by unfold addrCellM; split <;> omega), H⟩
set_option linter.unusedSimpArgs false in
set_option linter.unusedVariables false in
set_option maxRecDepth 100000 in
set_option maxHeartbeats 4000000 in
theorem walkInner_c (t : Sl Slot) (p n : Int) (W0 : World) (R : Rd Slot.cells 2 W0 t) (Z : t.xs.length ≤ 4194304) : Calls Try.prog 191 #[.slice t.A t.xs.length t.c, .int .i64 p, .int .i64 n] W0 fun e w' => e = .returned (.tuple #[.int .i64 (walkPageM t.xs p n), .bool (walkOkM t.xs p n)]) ∧ Hp W0 w' [] := by
  obtain ⟨s, hs⟩ : ∃ s, s = slotAtM t.xs p := ⟨_, rfl⟩
  have HS : Hid (slotAtM t.xs p = s) := hs.symm
  clear hs
  cases e1 : (s.page == -1) <;> cases e2 : enoughM s.rights n <;> cases e3 : inB n 1 3
  all_goals
    have hw : walkOkM t.xs p n = (!(s.page == -1) && enoughM s.rights n && inB n 1 3) := by unfold walkOkM; rw [HS.out]
    rw [e1, e2, e3] at hw
    have HW := Lib.hid hw
    clear hw
    have H := Hp.start W0
    go_enter Try.func191, Try.ntmps191
    go_wp2_with (first
      | go_skip
      | ((with_reducible refine at_box ?_); first | (refine wpList_box_H rfl rfl H rfl (by first | exact CellsOf.agg | exact CellsOf.int | exact CellsOf.bool | exact CellsOf.slice | exact CellsOf.string | exact CellsOf.pointer | exact CellsOf.func) ?_; clear H; intro b w H))
      | ((with_reducible refine at_alloc ?_); first | (refine wpList_alloc_H rfl rfl H ?_; clear H; intro b w H))
      | ((with_reducible refine at_load ?_); first | (refine wpList_load_H rfl rfl H rfl (by repeat (first | exact LoadAt.here rfl | apply LoadAt.there)) ?_) | (refine wpList_loads_H rfl rfl H rfl (by repeat (first | (apply LoadsAt.here; repeat (first | exact GetsAt.nil | apply GetsAt.here | apply GetsAt.there)) | apply LoadsAt.there)) ?_))
      | ((with_reducible refine at_store ?_); first | (refine wpList_store_H rfl rfl H rfl rfl (by repeat (first | (apply StoreAt.here; (first | exact CellsOf.agg | exact CellsOf.int | exact CellsOf.bool | exact CellsOf.slice | exact CellsOf.string | exact CellsOf.pointer | exact CellsOf.func); (repeat (first | exact SetsAt.nil | apply SetsAt.here | apply SetsAt.there)); exact rfl; exact rfl) | apply StoreAt.there)) ?_; clear H; intro w H))
      | (go_at_call 151; refine (slotAt_c t p _ (R.at_ H) Z).mono ?_; rintro e w ⟨he, K⟩; rw [HS.out] at he; subst he; replace H := H.add_all K; clear K)
      | (go_at_call 206; refine (enough_c _ _ _).mono ?_; rintro e w ⟨he, K⟩; rw [e2] at he; subst he; replace H := H.add_all K; clear K)
      | (go_at_call 114; refine (within_any _ _ _ _).mono ?_; rintro e w' ⟨he, hw⟩; subst hw; rw [e3] at he; subst he))
    all_goals (go_ret2; refine ⟨?_, H.pick .nil⟩; unfold walkPageM; rw [HW.out]; simp [HS.out])
set_option linter.unusedSimpArgs false in
set_option linter.unusedVariables false in
set_option maxRecDepth 100000 in
set_option maxHeartbeats 4000000 in
theorem specRightsOk_c (r : Int) (w : World) : Calls Try.prog 208 #[.int .i64 r] w fun e w' => e = .returned (.bool (inB r 0 3)) ∧ w = w' := by
  go_enter Try.func208, Try.ntmps208
  go_wp2_with (go_at_call 98; refine (in_any _ _ _ _).mono ?_; rintro e w' ⟨rfl, rfl⟩)
  go_ret
  exact ⟨rfl, rfl⟩
set_option linter.unusedSimpArgs false in
set_option linter.unusedVariables false in
set_option maxRecDepth 100000 in
set_option maxHeartbeats 4000000 in
theorem specEnough_c (r n : Int) (W0 : World) : Calls Try.prog 205 #[.int .i64 r, .int .i64 n] W0 fun e w' => e = .returned (.bool (enoughM r n)) ∧ Hp W0 w' [] := by
  cases e1 : inB r 0 3 <;> cases e2 : inB n 0 3
  all_goals
    try (have hr : 0 ≤ r ∧ r ≤ 3 := by simpa [inB] using e1)
    try (have hn : 0 ≤ n ∧ n ≤ 3 := by simpa [inB] using e2)
    try obtain ⟨hr0, hr3⟩ := hr
    try obtain ⟨hn0, hn3⟩ := hn
    have H := Hp.start W0
    go_enter Try.func205, Try.ntmps205
    go_wp2_with (first
      | go_skip
      | ((with_reducible refine at_box ?_); first | (refine wpList_box_H rfl rfl H rfl (by first | exact CellsOf.agg | exact CellsOf.int | exact CellsOf.bool | exact CellsOf.slice | exact CellsOf.string | exact CellsOf.pointer | exact CellsOf.func) ?_; clear H; intro b w H))
      | ((with_reducible refine at_alloc ?_); first | (refine wpList_alloc_H rfl rfl H ?_; clear H; intro b w H))
      | ((with_reducible refine at_load ?_); first | (refine wpList_load_H rfl rfl H rfl (by repeat (first | exact LoadAt.here rfl | apply LoadAt.there)) ?_) | (refine wpList_loads_H rfl rfl H rfl (by repeat (first | (apply LoadsAt.here; repeat (first | exact GetsAt.nil | apply GetsAt.here | apply GetsAt.there)) | apply LoadsAt.there)) ?_))
      | ((with_reducible refine at_store ?_); first | (refine wpList_store_H rfl rfl H rfl rfl (by repeat (first | (apply StoreAt.here; (first | exact CellsOf.agg | exact CellsOf.int | exact CellsOf.bool | exact CellsOf.slice | exact CellsOf.string | exact CellsOf.pointer | exact CellsOf.func); (repeat (first | exact SetsAt.nil | apply SetsAt.here | apply SetsAt.there)); exact rfl; exact rfl) | apply StoreAt.there)) ?_; clear H; intro w H))
      | (go_at_call 208; refine (specRightsOk_c _ _).mono ?_; rintro e w' ⟨he, hw⟩; subst hw; rw [e1] at he; subst he)
      | (go_at_call 208; refine (specRightsOk_c _ _).mono ?_; rintro e w' ⟨he, hw⟩; subst hw; rw [e2] at he; subst he))
    all_goals (go_ret; exact ⟨ret_bool (by simp [enoughM, e1, e2]), H⟩)
set_option linter.unusedSimpArgs false in
set_option linter.unusedVariables false in
set_option maxRecDepth 100000 in
set_option maxHeartbeats 4000000 in
theorem specAddrPage_c (a : Int) (h : a ≤ 9223372036854775807) (h' : -9223372036854775808 ≤ a) (W0 : World) : Calls Try.prog 189 #[.int .i64 a] W0 fun e w' => e = .returned (.int .i64 (addrPageM a)) ∧ Hp W0 w' [] := by
  by_cases hn : a < 0
  all_goals
    have H := Hp.start W0
    go_enter Try.func189, Try.ntmps189
    go_wp2_with (first
      | go_skip
      | ((with_reducible refine at_box ?_); first | (refine wpList_box_H rfl rfl H rfl (by first | exact CellsOf.agg | exact CellsOf.int | exact CellsOf.bool | exact CellsOf.slice | exact CellsOf.string | exact CellsOf.pointer | exact CellsOf.func) ?_; clear H; intro b w H))
      | ((with_reducible refine at_alloc ?_); first | (refine wpList_alloc_H rfl rfl H ?_; clear H; intro b w H))
      | ((with_reducible refine at_load ?_); first | (refine wpList_load_H rfl rfl H rfl (by repeat (first | exact LoadAt.here rfl | apply LoadAt.there)) ?_) | (refine wpList_loads_H rfl rfl H rfl (by repeat (first | (apply LoadsAt.here; repeat (first | exact GetsAt.nil | apply GetsAt.here | apply GetsAt.there)) | apply LoadsAt.there)) ?_))
      | ((with_reducible refine at_store ?_); first | (refine wpList_store_H rfl rfl H rfl rfl (by repeat (first | (apply StoreAt.here; (first | exact CellsOf.agg | exact CellsOf.int | exact CellsOf.bool | exact CellsOf.slice | exact CellsOf.string | exact CellsOf.pointer | exact CellsOf.func); (repeat (first | exact SetsAt.nil | apply SetsAt.here | apply SetsAt.there)); exact rfl; exact rfl) | apply StoreAt.there)) ?_; clear H; intro w H)))
    go_ret
    exact ⟨ret_int (by unfold addrPageM; split <;> omega), H⟩
set_option linter.unusedSimpArgs false in
set_option linter.unusedVariables false in
set_option maxRecDepth 100000 in
set_option maxHeartbeats 4000000 in
theorem specAddrCell_c (a : Int) (h : a ≤ 9223372036854775807) (h' : -9223372036854775808 ≤ a) (W0 : World) : Calls Try.prog 131 #[.int .i64 a] W0 fun e w' => e = .returned (.int .i64 (addrCellM a)) ∧ Hp W0 w' [] := by
  by_cases hn : a < 0
  all_goals
    have H := Hp.start W0
    go_enter Try.func131, Try.ntmps131
    go_wp2_with (first
      | go_skip
      | ((with_reducible refine at_box ?_); first | (refine wpList_box_H rfl rfl H rfl (by first | exact CellsOf.agg | exact CellsOf.int | exact CellsOf.bool | exact CellsOf.slice | exact CellsOf.string | exact CellsOf.pointer | exact CellsOf.func) ?_; clear H; intro b w H))
      | ((with_reducible refine at_alloc ?_); first | (refine wpList_alloc_H rfl rfl H ?_; clear H; intro b w H))
      | ((with_reducible refine at_load ?_); first | (refine wpList_load_H rfl rfl H rfl (by repeat (first | exact LoadAt.here rfl | apply LoadAt.there)) ?_) | (refine wpList_loads_H rfl rfl H rfl (by repeat (first | (apply LoadsAt.here; repeat (first | exact GetsAt.nil | apply GetsAt.here | apply GetsAt.there)) | apply LoadsAt.there)) ?_))
      | ((with_reducible refine at_store ?_); first | (refine wpList_store_H rfl rfl H rfl rfl (by repeat (first | (apply StoreAt.here; (first | exact CellsOf.agg | exact CellsOf.int | exact CellsOf.bool | exact CellsOf.slice | exact CellsOf.string | exact CellsOf.pointer | exact CellsOf.func); (repeat (first | exact SetsAt.nil | apply SetsAt.here | apply SetsAt.there)); exact rfl; exact rfl) | apply StoreAt.there)) ?_; clear H; intro w H)))
    go_ret
    exact ⟨ret_int (by unfold addrCellM; split <;> omega), H⟩
set_option linter.unusedSimpArgs false in
set_option linter.unusedVariables false in
set_option maxRecDepth 100000 in
set_option maxHeartbeats 4000000 in
theorem specWalkInner_c (t : Sl Slot) (p n : Int) (W0 : World) (R : Rd Slot.cells 2 W0 t) (Z : t.xs.length ≤ 4194304) : Calls Try.prog 188 #[.slice t.A t.xs.length t.c, .int .i64 p, .int .i64 n] W0 fun e w' => e = .returned (.tuple #[.int .i64 (walkPageM t.xs p n), .bool (walkOkM t.xs p n)]) ∧ Hp W0 w' [] := by
  obtain ⟨s, hs⟩ : ∃ s, s = slotAtM t.xs p := ⟨_, rfl⟩
  have HS : Hid (slotAtM t.xs p = s) := hs.symm
  clear hs
  cases e1 : (s.page == -1) <;> cases e2 : enoughM s.rights n <;> cases e3 : inB n 1 3
  all_goals
    have hw : walkOkM t.xs p n = (!(s.page == -1) && enoughM s.rights n && inB n 1 3) := by unfold walkOkM; rw [HS.out]
    rw [e1, e2, e3] at hw
    have HW := Lib.hid hw
    clear hw
    try (have hz : (n == 0) = true := (by have h2 : inB n 0 3 = true := (by unfold enoughM at e2; simp only [Bool.and_eq_true] at e2; exact e2.1.2); simp [inB] at h2 e3 ⊢; omega))
    try (have hz : (n == 0) = false := (by simp [inB] at e3 ⊢; omega))
    have H := Hp.start W0
    go_enter Try.func188, Try.ntmps188
    go_wp2_with (first
      | go_skip
      | ((with_reducible refine at_box ?_); first | (refine wpList_box_H rfl rfl H rfl (by first | exact CellsOf.agg | exact CellsOf.int | exact CellsOf.bool | exact CellsOf.slice | exact CellsOf.string | exact CellsOf.pointer | exact CellsOf.func) ?_; clear H; intro b w H))
      | ((with_reducible refine at_alloc ?_); first | (refine wpList_alloc_H rfl rfl H ?_; clear H; intro b w H))
      | ((with_reducible refine at_load ?_); first | (refine wpList_load_H rfl rfl H rfl (by repeat (first | exact LoadAt.here rfl | apply LoadAt.there)) ?_) | (refine wpList_loads_H rfl rfl H rfl (by repeat (first | (apply LoadsAt.here; repeat (first | exact GetsAt.nil | apply GetsAt.here | apply GetsAt.there)) | apply LoadsAt.there)) ?_))
      | ((with_reducible refine at_store ?_); first | (refine wpList_store_H rfl rfl H rfl rfl (by repeat (first | (apply StoreAt.here; (first | exact CellsOf.agg | exact CellsOf.int | exact CellsOf.bool | exact CellsOf.slice | exact CellsOf.string | exact CellsOf.pointer | exact CellsOf.func); (repeat (first | exact SetsAt.nil | apply SetsAt.here | apply SetsAt.there)); exact rfl; exact rfl) | apply StoreAt.there)) ?_; clear H; intro w H))
      | (go_at_call 149; refine (specSlotAt_c t p _ (R.at_ H) Z).mono ?_; rintro e w ⟨he, K⟩; rw [HS.out] at he; subst he; replace H := H.add_all K; clear K)
      | (go_at_call 205; refine (specEnough_c _ _ _).mono ?_; rintro e w ⟨he, K⟩; rw [e2] at he; subst he; replace H := H.add_all K; clear K))
    all_goals (go_ret2; refine ⟨?_, H.pick .nil⟩; unfold walkPageM; rw [HW.out]; simp [HS.out])
def reachOkM (m : MB) (g a : Int) : Bool := bareOkM m && hasM m g && inB a 0 15
def readOkM (m : MB) (g a : Int) : Bool := reachOkM m g a && walkOkM (gAtM m g).live (addrPageM a) 1
def readM (m : MB) (g a : Int) : Int := if readOkM m g a then cellAtM m.memory (walkPageM (gAtM m g).live (addrPageM a) 1) (addrCellM a) else 0
theorem glive_big {B : BV} (Z : BBig B) (g : Int) : (gAtM B.m g).live.length ≤ 4194304 := by
  have h := gAtM_size B.m g
  have e : (gAtM B.m g).size = (gAtM B.m g).prog.length + (gAtM B.m g).written.length + (gAtM B.m g).live.length + (gAtM B.m g).seen.length := rfl
  unfold BBig at Z; omega
set_option linter.unusedSimpArgs false in
set_option linter.unusedVariables false in
set_option maxRecDepth 100000 in
set_option maxHeartbeats 4000000 in
theorem l19Is_c (B : BV) (g : Int) (W0 : World) (R : BRd W0 B) (Z : BBig B) : Calls Try.prog 136 #[B.val, .int .i64 g] W0 fun e w' => e = .returned (.bool (bareOkM B.m && hasM B.m g)) ∧ Hp W0 w' [] := by
  have z2 := Z.gs
  have hm : hasM B.m g = hasB g (B.gs.xs.length : Int) := by simp [hasM, BV.m, gsOf]
  rw [hm]
  clear hm
  cases e1 : bareOkM B.m <;> cases e2 : hasB g (B.gs.xs.length : Int)
  all_goals
    have H := Hp.start W0
    go_enter Try.func136, Try.ntmps136
    go_wp2_with (first
      | go_skip
      | ((with_reducible refine at_box ?_); first | (refine wpList_box_H rfl rfl H rfl (by first | exact CellsOf.agg | exact CellsOf.int | exact CellsOf.bool | exact CellsOf.slice | exact CellsOf.string | exact CellsOf.pointer | exact CellsOf.func) ?_; clear H; intro bB w H))
      | ((with_reducible refine at_alloc ?_); first | (refine wpList_alloc_H rfl rfl H ?_; clear H; intro b w H))
      | ((with_reducible refine at_load ?_); first | (refine wpList_load_H rfl rfl H rfl (by repeat (first | exact LoadAt.here rfl | apply LoadAt.there)) ?_) | (refine wpList_loads_H rfl rfl H rfl (by repeat (first | (apply LoadsAt.here; repeat (first | exact GetsAt.nil | apply GetsAt.here | apply GetsAt.there)) | apply LoadsAt.there)) ?_))
      | ((with_reducible refine at_store ?_); first | (refine wpList_store_H rfl rfl H rfl rfl (by repeat (first | (apply StoreAt.here; (first | exact CellsOf.agg | exact CellsOf.int | exact CellsOf.bool | exact CellsOf.slice | exact CellsOf.string | exact CellsOf.pointer | exact CellsOf.func); (repeat (first | exact SetsAt.nil | apply SetsAt.here | apply SetsAt.there)); exact rfl; exact rfl) | apply StoreAt.there)) ?_; clear H; intro w H))
      | (go_at_call 44; refine (specBareOk_c B _ (R.at_ H) Z).mono ?_; rintro e w ⟨he, K⟩; rw [e1] at he; subst he; replace H := H.add_all K; clear K)
      | (go_at_call 98; refine (in_any _ _ _ _).mono ?_; rintro e w' ⟨he, hw⟩; subst hw; rw [hasB_in, e2] at he; subst he))
    all_goals (go_ret; exact ⟨rfl, H.pick .nil⟩)
def pokeOkM (m : MB) (p c v : Int) : Bool := bareOkM m && hasB p 8 && hasB c 4 && inB v 0 99
def pokeM (m : MB) (p c v : Int) : MB := if pokeOkM m p c v then { m with memory := withCellM m.memory p c v } else m
theorem in8 (x : Int) : inB x 0 7 = hasB x 8 := hasB_in x 8
theorem in4 (x : Int) : inB x 0 3 = hasB x 4 := hasB_in x 4
set_option linter.unusedSimpArgs false in
set_option linter.unusedVariables false in
set_option maxRecDepth 100000 in
set_option maxHeartbeats 4000000 in
theorem poke_c (B : BV) (p c v : Int) (W0 : World) (R : BRd W0 B) (Z : BBig B) : Calls Try.prog 62 #[B.val, .int .i64 p, .int .i64 c, .int .i64 v] W0 fun e w' => ∃ d : BV, e = .returned (.tuple #[d.val, .bool (pokeOkM B.m p c v)]) ∧ d.m = pokeM B.m p c v ∧ Hp W0 w' [.bare d] := by
  cases e1 : bareOkM B.m <;> cases e2 : hasB p 8 <;> cases e3 : hasB c 4 <;> cases e4 : inB v 0 99
  all_goals
    have HO : Hid (pokeOkM B.m p c v = _) := Lib.hid (show pokeOkM B.m p c v = _ by unfold pokeOkM; rw [e1, e2, e3, e4])
    have HOV := HO.out
    simp only [Bool.and_true, Bool.and_false, Bool.true_and, Bool.false_and] at HOV
    clear HO
    have HO := Lib.hid HOV
    clear HOV
    have H := Hp.start W0
    go_enter Try.func62, Try.ntmps62
    go_wp2_with (first
      | go_skip
      | ((with_reducible refine at_box ?_); first | (refine wpList_box_H rfl rfl H rfl (by first | exact CellsOf.agg | exact CellsOf.int | exact CellsOf.bool | exact CellsOf.slice | exact CellsOf.string | exact CellsOf.pointer | exact CellsOf.func) ?_; clear H; intro bB w H))
      | ((with_reducible refine at_alloc ?_); first | ((with_reducible refine at_dst 8 ?_); refine wpList_alloc_H rfl rfl H ?_; clear H; intro bR w H) | (refine wpList_alloc_H rfl rfl H ?_; clear H; intro bO w H))
      | ((with_reducible refine at_load ?_); first | (refine wpList_load_H rfl rfl H rfl (by repeat (first | exact LoadAt.here rfl | apply LoadAt.there)) ?_) | (refine wpList_loads_H rfl rfl H rfl (by repeat (first | (apply LoadsAt.here; repeat (first | exact GetsAt.nil | apply GetsAt.here | apply GetsAt.there)) | apply LoadsAt.there)) ?_))
      | ((with_reducible refine at_store ?_); first | (refine wpList_store_H rfl rfl H rfl rfl (by repeat (first | (apply StoreAt.here; (first | exact CellsOf.agg | exact CellsOf.int | exact CellsOf.bool | exact CellsOf.slice | exact CellsOf.string | exact CellsOf.pointer | exact CellsOf.func); (repeat (first | exact SetsAt.nil | apply SetsAt.here | apply SetsAt.there)); exact rfl; exact rfl) | apply StoreAt.there)) ?_; clear H; intro w H))
      | (go_at_call 125; refine (copyBare_c B _ (R.at_ H) Z).mono ?_; rintro e w ⟨d, rfl, x1, K⟩; have HD := Lib.hid x1; clear x1; have Zd := m_big HD Z; replace H := H.add_all K; clear K)
      | (go_at_call 45; refine (bareOk_c B _ (R.at_ H) Z).mono ?_; rintro e w ⟨he, K⟩; rw [e1] at he; subst he; replace H := H.add_all K; clear K)
      | (go_at_call 100; refine (has_any _ _ _).mono ?_; rintro e w' ⟨he, hw⟩; subst hw; rw [e2] at he; subst he)
      | (go_at_call 100; refine (has_any _ _ _).mono ?_; rintro e w' ⟨he, hw⟩; subst hw; rw [e3] at he; subst he)
      | (go_at_call 114; refine (within_any _ _ _ _).mono ?_; rintro e w' ⟨he, hw⟩; subst hw; rw [e4] at he; subst he)
      | (go_at_call 135; refine (withCell_c B.mem p c v _ (R.mem.at_ H) (fun x hx => (R.memi x hx).at_ H) Z.mem Z.memi).mono ?_; rintro e w ⟨q, rfl, x1, K⟩; have HQ := Lib.hid x1; clear x1; replace H := H.add_all K; clear K; replace H := (H.take (e := .bare d) (by repeat (first | exact Take.head | apply Take.tail))).bparts))
    first
      | (refine bodyPost_ret (results_H2 rfl H rfl (by repeat (first | (apply LoadsAt.here; repeat (first | exact GetsAt.nil | apply GetsAt.here | apply GetsAt.there)) | apply LoadsAt.there))) rfl ⟨d, by rw [HO.out]; rfl, by unfold pokeM; rw [HO.out]; exact HD.out, H.pick (.cons (by repeat (first | exact Take.head | apply Take.tail)) .nil)⟩)
      | (refine bodyPost_ret (results_H2 rfl H rfl (by repeat (first | (apply LoadsAt.here; repeat (first | exact GetsAt.nil | apply GetsAt.here | apply GetsAt.there)) | apply LoadsAt.there))) rfl ⟨⟨q, d.gs, d.outs, d.pend⟩, by rw [HO.out]; rfl, ?_, H.bare5 (.cons (by repeat (first | exact Take.head | apply Take.tail)) (.cons (by repeat (first | exact Take.head | apply Take.tail)) (.cons (by repeat (first | exact Take.head | apply Take.tail)) (.cons (by repeat (first | exact Take.head | apply Take.tail)) (.cons (by repeat (first | exact Take.head | apply Take.tail)) .nil))))) rfl rfl⟩
         unfold pokeM; rw [HO.out]; simp only [BV.m, memOf, if_true]; rw [HQ.out]
         have h := HD.out
         simp only [BV.m, MB.mk.injEq, memOf] at h
         obtain ⟨h1, h2, h3, h4⟩ := h
         simp only [memOf, h1, h2, h3, h4])
set_option linter.unusedSimpArgs false in
set_option linter.unusedVariables false in
set_option maxRecDepth 100000 in
set_option maxHeartbeats 4000000 in
theorem specPoke_c (B : BV) (p c v : Int) (W0 : World) (R : BRd W0 B) (Z : BBig B) : Calls Try.prog 61 #[B.val, .int .i64 p, .int .i64 c, .int .i64 v] W0 fun e w' => ∃ d : BV, e = .returned (.tuple #[d.val, .bool (pokeOkM B.m p c v)]) ∧ d.m = pokeM B.m p c v ∧ Hp W0 w' [.bare d] := by
  cases e1 : bareOkM B.m <;> cases e2 : hasB p 8 <;> cases e3 : hasB c 4 <;> cases e4 : inB v 0 99
  all_goals
    have HO : Hid (pokeOkM B.m p c v = _) := Lib.hid (show pokeOkM B.m p c v = _ by unfold pokeOkM; rw [e1, e2, e3, e4])
    have HOV := HO.out
    simp only [Bool.and_true, Bool.and_false, Bool.true_and, Bool.false_and] at HOV
    clear HO
    have HO := Lib.hid HOV
    clear HOV
    have H := Hp.start W0
    go_enter Try.func61, Try.ntmps61
    go_wp2_with (first
      | go_skip
      | ((with_reducible refine at_box ?_); first | (refine wpList_box_H rfl rfl H rfl (by first | exact CellsOf.agg | exact CellsOf.int | exact CellsOf.bool | exact CellsOf.slice | exact CellsOf.string | exact CellsOf.pointer | exact CellsOf.func) ?_; clear H; intro bB w H))
      | ((with_reducible refine at_alloc ?_); first | ((with_reducible refine at_dst 8 ?_); refine wpList_alloc_H rfl rfl H ?_; clear H; intro bR w H) | (refine wpList_alloc_H rfl rfl H ?_; clear H; intro bO w H))
      | ((with_reducible refine at_load ?_); first | (refine wpList_load_H rfl rfl H rfl (by repeat (first | exact LoadAt.here rfl | apply LoadAt.there)) ?_) | (refine wpList_loads_H rfl rfl H rfl (by repeat (first | (apply LoadsAt.here; repeat (first | exact GetsAt.nil | apply GetsAt.here | apply GetsAt.there)) | apply LoadsAt.there)) ?_))
      | ((with_reducible refine at_store ?_); first | (refine wpList_store_H rfl rfl H rfl rfl (by repeat (first | (apply StoreAt.here; (first | exact CellsOf.agg | exact CellsOf.int | exact CellsOf.bool | exact CellsOf.slice | exact CellsOf.string | exact CellsOf.pointer | exact CellsOf.func); (repeat (first | exact SetsAt.nil | apply SetsAt.here | apply SetsAt.there)); exact rfl; exact rfl) | apply StoreAt.there)) ?_; clear H; intro w H))
      | (go_at_call 124; refine (l17Copy_c B _ (R.at_ H) Z).mono ?_; rintro e w ⟨d, rfl, x1, K⟩; have HD := Lib.hid x1; clear x1; have Zd := m_big HD Z; replace H := H.add_all K; clear K)
      | (go_at_call 44; refine (specBareOk_c d _ (H.brd (by repeat (first | exact Take.head | apply Take.tail))) Zd).mono ?_; rintro e w ⟨he, K⟩; rw [HD.out, e1] at he; subst he; replace H := H.add_all K; clear K)
      | (go_at_call 98; refine (in_any _ _ _ _).mono ?_; rintro e w' ⟨he, hw⟩; subst hw; rw [in8, e2] at he; subst he)
      | (go_at_call 98; refine (in_any _ _ _ _).mono ?_; rintro e w' ⟨he, hw⟩; subst hw; rw [in4, e3] at he; subst he)
      | (go_at_call 98; refine (in_any _ _ _ _).mono ?_; rintro e w' ⟨he, hw⟩; subst hw; rw [e4] at he; subst he)
      | (go_at_call 134; refine (specWithCell_c d.mem p c v _ (H.brd (b := d) (by repeat (first | exact Take.head | apply Take.tail))).mem (H.brd (b := d) (by repeat (first | exact Take.head | apply Take.tail))).memi Zd.mem Zd.memi).mono ?_; rintro e w ⟨q, rfl, x1, K⟩; have HQ := Lib.hid x1; clear x1; replace H := H.add_all K; clear K; replace H := (H.take (e := .bare d) (by repeat (first | exact Take.head | apply Take.tail))).bparts))
    first
      | (refine bodyPost_ret (results_H2 rfl H rfl (by repeat (first | (apply LoadsAt.here; repeat (first | exact GetsAt.nil | apply GetsAt.here | apply GetsAt.there)) | apply LoadsAt.there))) rfl ⟨d, by rw [HO.out]; rfl, by unfold pokeM; rw [HO.out]; exact HD.out, H.pick (.cons (by repeat (first | exact Take.head | apply Take.tail)) .nil)⟩)
      | (refine bodyPost_ret (results_H2 rfl H rfl (by repeat (first | (apply LoadsAt.here; repeat (first | exact GetsAt.nil | apply GetsAt.here | apply GetsAt.there)) | apply LoadsAt.there))) rfl ⟨⟨q, d.gs, d.outs, d.pend⟩, by rw [HO.out]; rfl, ?_, H.bare5 (.cons (by repeat (first | exact Take.head | apply Take.tail)) (.cons (by repeat (first | exact Take.head | apply Take.tail)) (.cons (by repeat (first | exact Take.head | apply Take.tail)) (.cons (by repeat (first | exact Take.head | apply Take.tail)) (.cons (by repeat (first | exact Take.head | apply Take.tail)) .nil))))) rfl rfl⟩
         unfold pokeM; rw [HO.out]; simp only [BV.m, memOf, if_true]; rw [HQ.out]
         have h := HD.out
         simp only [BV.m, MB.mk.injEq, memOf] at h
         obtain ⟨h1, h2, h3, h4⟩ := h
         simp only [memOf, h1, h2, h3, h4])
def reachPM (m : MB) (g a n : Int) : Int := if reachOkM m g a then walkPageM (gAtM m g).live (addrPageM a) n else 0
def reachCM (m : MB) (g a : Int) : Int := if reachOkM m g a then addrCellM a else 0
def reachBM (m : MB) (g a n : Int) : Bool := reachOkM m g a && walkOkM (gAtM m g).live (addrPageM a) n
theorem results_3 {fn : Func} {p q r : Tmp} (h : fn.results = #[.tmp p, .tmp q, .tmp r]) (P : Program) (tmps : Array Value) (w : World) : (results fn tmps).run P w = .ok (.tuple #[tmps.getD p undef, tmps.getD q undef, tmps.getD r undef]) w := by
  simp [results, h, Sem.run_bind, Sem.run_pure]
set_option linter.unusedSimpArgs false in
set_option linter.unusedVariables false in
set_option maxRecDepth 100000 in
set_option maxHeartbeats 4000000 in
theorem reach_c (B : BV) (g a n : Int) (ha : a ≤ 9223372036854775807) (ha' : -9223372036854775808 ≤ a) (W0 : World) (R : BRd W0 B) (Z : BBig B) : Calls Try.prog 132 #[B.val, .int .i64 g, .int .i64 a, .int .i64 n] W0 fun e w' => e = .returned (.tuple #[.int .i64 (reachPM B.m g a n), .int .i64 (reachCM B.m g a), .bool (reachBM B.m g a n)]) ∧ Hp W0 w' [] := by
  obtain ⟨pg, hpg⟩ : ∃ pg, pg = addrPageM a := ⟨_, rfl⟩
  have HPG : Hid (addrPageM a = pg) := hpg.symm
  clear hpg
  cases e1 : bareOkM B.m <;> cases e2 : hasM B.m g <;> cases e3 : inB a 0 15
  all_goals
    have HO : Hid (reachOkM B.m g a = _) := Lib.hid (show reachOkM B.m g a = _ by unfold reachOkM; rw [e1, e2, e3])
    have H := Hp.start W0
    go_enter Try.func132, Try.ntmps132
    go_wp2_with (first
      | go_skip
      | ((with_reducible refine at_box ?_); first | (refine wpList_box_H rfl rfl H rfl (by first | exact CellsOf.agg | exact CellsOf.int | exact CellsOf.bool | exact CellsOf.slice | exact CellsOf.string | exact CellsOf.pointer | exact CellsOf.func) ?_; clear H; intro bB w H))
      | ((with_reducible refine at_alloc ?_); first | (refine wpList_alloc_H rfl rfl H ?_; clear H; intro bG w H))
      | ((with_reducible refine at_load ?_); first | (refine wpList_load_H rfl rfl H rfl (by repeat (first | exact LoadAt.here rfl | apply LoadAt.there)) ?_) | (refine wpList_loads_H rfl rfl H rfl (by repeat (first | (apply LoadsAt.here; repeat (first | exact GetsAt.nil | apply GetsAt.here | apply GetsAt.there)) | apply LoadsAt.there)) ?_))
      | ((with_reducible refine at_store ?_); first | (refine wpList_store_H rfl rfl H rfl rfl (by repeat (first | (apply StoreAt.here; (first | exact CellsOf.agg | exact CellsOf.int | exact CellsOf.bool | exact CellsOf.slice | exact CellsOf.string | exact CellsOf.pointer | exact CellsOf.func); (repeat (first | exact SetsAt.nil | apply SetsAt.here | apply SetsAt.there)); exact rfl; exact rfl) | apply StoreAt.there)) ?_; clear H; intro w H))
      | (go_at_call 40; refine (guestAt_c B g _ (R.at_ H) Z).mono ?_; rintro e w ⟨x, he, x1, K⟩; rw [e2] at he; subst he; have HX := Lib.hid x1; clear x1; have zx := (size_big HX.out (Nat.le_trans (gAtM_size _ _) Z)).2.2.1; replace H := H.add_all K; clear K)
      | (go_at_call 45; refine (bareOk_c B _ (R.at_ H) Z).mono ?_; rintro e w ⟨he, K⟩; rw [e1] at he; subst he; replace H := H.add_all K; clear K)
      | (go_at_call 114; refine (within_any _ _ _ _).mono ?_; rintro e w' ⟨he, hw⟩; subst hw; rw [e3] at he; subst he))
    first
      | (refine bodyPost_ret (results_3 rfl _ _ _) rfl ⟨by unfold reachPM reachCM reachBM; rw [HO.out]; rfl, H.pick .nil⟩; done)
      | skip
  go_region_held3 (fun w' => ∀ o, w'.cell? ⟨bG, o, none⟩ = (garr x)[o]?) (exact H.cells (by repeat (first | exact Take.head | apply Take.tail)))
    ((first | (go_at_call 192; refine (addrPage_c _ ha ha' _).mono ?_; rintro e w ⟨he, K⟩; rw [HPG.out] at he; subst he; first | replace H := H.add_all K | replace H := H.drew.add_all K; clear K) | (go_at_call 191; refine (walkInner_c x.live pg n _ (H.grd1 (by repeat (first | exact Take.head | apply Take.tail))).live zx).mono ?_; rintro e w ⟨he, K⟩; subst he; first | replace H := H.add_all K | replace H := H.drew.add_all K; clear K)))
  go_wp2_with (first
    | go_skip
    | ((with_reducible refine at_box ?_); first | (refine wpList_box_H rfl rfl H rfl (by first | exact CellsOf.agg | exact CellsOf.int | exact CellsOf.bool | exact CellsOf.slice | exact CellsOf.string | exact CellsOf.pointer | exact CellsOf.func) ?_; clear H; intro b w H))
    | ((with_reducible refine at_alloc ?_); first | (refine wpList_alloc_H rfl rfl H ?_; clear H; intro b w H))
    | ((with_reducible refine at_load ?_); first | (refine wpList_load_H rfl rfl H rfl (by repeat (first | exact LoadAt.here rfl | apply LoadAt.there)) ?_) | (refine wpList_loads_H rfl rfl H rfl (by repeat (first | (apply LoadsAt.here; repeat (first | exact GetsAt.nil | apply GetsAt.here | apply GetsAt.there)) | apply LoadsAt.there)) ?_))
    | ((with_reducible refine at_store ?_); first | (refine wpList_store_H rfl rfl H rfl rfl (by repeat (first | (apply StoreAt.here; (first | exact CellsOf.agg | exact CellsOf.int | exact CellsOf.bool | exact CellsOf.slice | exact CellsOf.string | exact CellsOf.pointer | exact CellsOf.func); (repeat (first | exact SetsAt.nil | apply SetsAt.here | apply SetsAt.there)); exact rfl; exact rfl) | apply StoreAt.there)) ?_; clear H; intro w H))
    | (go_at_call 193; refine (addrCell_c _ ha ha' _).mono ?_; rintro e w ⟨he, K⟩; subst he; first | replace H := H.add_all K | replace H := H.drew.add_all K; clear K))
  refine bodyPost_ret (results_3 rfl _ _ _) rfl ⟨?_, H.pick .nil⟩
  unfold reachPM reachCM reachBM; rw [HO.out, HPG.out, ← HX.out]; rfl
end Go.Proofs.Ytgeoilpmmdfemaa
