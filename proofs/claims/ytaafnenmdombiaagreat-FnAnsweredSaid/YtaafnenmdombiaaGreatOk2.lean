/- Contracts of SlotOk, TableOk, CtlOk and GuestOk, of the program and of the reference. No condition but that the argument lies in memory. -/
import Derived.Test.YtaafnenmdombiaaGreatOk
namespace Go.Proofs.YtaafnenmdombiaaGreat
open Go.RowKit
set_option maxRecDepth 100000 in
set_option maxHeartbeats 2000000 in
theorem slotOk_c (s : Slot) (pages : Int) (w : World) : Calls Tryz.prog 134 #[s.val, .int .i64 pages] w fun e w' => e = .returned (.bool (slotOkM pages s)) ∧ Below w.heap.size w w' := by
  cases e1 : (s.page == -1) <;> cases e2 : (s.rights == 0) <;> cases c1 : decide (0 < pages) <;> cases c2 : inB s.page 0 (wrap64 (pages - 1)) <;> cases c3 : inB s.rights 1 3
  all_goals
  have H := Hp.start w
  go_enter Tryz.func134, Tryz.ntmps134
  go_wp2_with (first
    | (refine wpList_box_H rfl rfl H rfl (by constructor) ?_; clear H; intro b w H)
    | (refine wpList_alloc_H rfl rfl H ?_; clear H; intro b w H)
    | (refine wpList_load_H rfl rfl H rfl (by repeat constructor) ?_)
    | (refine wpList_loads_H rfl rfl H rfl (by repeat constructor) ?_)
    | (refine wpList_store_H rfl rfl H rfl rfl (by repeat constructor) ?_; clear H; intro w H))
  refine wp_region_H (by kernel_rfl) (by kernel_rfl) H ?_
  intro C hC1 hC2
  repeat (first
    | go_big_quiet_skip
    | (go_big_quiet_want; (first
      | (refine quiet_load_H hC1 rfl rfl (by repeat constructor) ?_; simp only [put_some, List.set_cons_succ, List.set_cons_zero]; go_big_quiet_on)
      | (refine quiet_loads_H hC1 rfl rfl (by repeat constructor) ?_; simp only [put_some, List.set_cons_succ, List.set_cons_zero]; go_big_quiet_on)
      | (go_big_quiet_op; (first | go_big_quiet_on | (apply Exists.intro; refine ⟨fun w hw => ?_, ?_⟩; (focus (exact (noSlot_c w).mono fun e w' h => ⟨h.1, hC2 _ ((hC1 _ hw).still h.2)⟩)); go_big_quiet_on) | (apply Exists.intro; refine ⟨fun w hw => ?_, ?_⟩; (focus (exact (within_any _ _ _ w).mono fun e w' h => ⟨h.1.trans (by first | rw [c2] | rw [c3]), hC2 _ (h.2 ▸ hC1 _ hw)⟩)); go_big_quiet_on) | (refine ⟨_, fun _ _ => rfl, ?_⟩; go_big_quiet_on))))))
  refine wpQuiet_nil ?_
  clear hC1 hC2
  clear H
  intro w H
  go_wp2
  go_ret
  refine ⟨ret_bool ?_, H.below⟩
  clear H
  unfold slotOkM
  simp_all
set_option maxRecDepth 100000 in
set_option maxHeartbeats 2000000 in
theorem specSlotOk_c (s : Slot) (pages : Int) (w : World) : Calls Tryz.prog 137 #[s.val, .int .i64 pages] w fun e w' => e = .returned (.bool (slotOkM pages s)) ∧ Below w.heap.size w w' := by
  cases e1 : (s.page == -1) <;> cases e2 : (s.rights == 0) <;> cases c1 : decide (0 < pages) <;> cases c2 : inB s.page 0 (wrap64 (pages - 1)) <;> cases c3 : inB s.rights 1 3
  all_goals
  have H := Hp.start w
  go_enter Tryz.func137, Tryz.ntmps137
  go_wp2_with (first
    | (refine wpList_box_H rfl rfl H rfl (by constructor) ?_; clear H; intro b w H)
    | (refine wpList_alloc_H rfl rfl H ?_; clear H; intro b w H)
    | (refine wpList_load_H rfl rfl H rfl (by repeat constructor) ?_)
    | (refine wpList_loads_H rfl rfl H rfl (by repeat constructor) ?_)
    | (refine wpList_store_H rfl rfl H rfl rfl (by repeat constructor) ?_; clear H; intro w H))
  refine wp_region_H (by kernel_rfl) (by kernel_rfl) H ?_
  intro C hC1 hC2
  repeat (first
    | go_big_quiet_skip
    | (go_big_quiet_want; (first
      | (refine quiet_load_H hC1 rfl rfl (by repeat constructor) ?_; simp only [put_some, List.set_cons_succ, List.set_cons_zero]; go_big_quiet_on)
      | (refine quiet_loads_H hC1 rfl rfl (by repeat constructor) ?_; simp only [put_some, List.set_cons_succ, List.set_cons_zero]; go_big_quiet_on)
      | (go_big_quiet_op; (first | go_big_quiet_on | (apply Exists.intro; refine ⟨fun w hw => ?_, ?_⟩; (focus (exact (specNoSlot_c w).mono fun e w' h => ⟨h.1, hC2 _ ((hC1 _ hw).still h.2)⟩)); go_big_quiet_on) | (apply Exists.intro; refine ⟨fun w hw => ?_, ?_⟩; (focus (exact (in_any _ _ _ w).mono fun e w' h => ⟨h.1.trans (by first | rw [c2] | rw [c3]), hC2 _ (h.2 ▸ hC1 _ hw)⟩)); go_big_quiet_on) | (refine ⟨_, fun _ _ => rfl, ?_⟩; go_big_quiet_on))))))
  refine wpQuiet_nil ?_
  clear hC1 hC2
  clear H
  intro w H
  go_wp2
  go_ret
  refine ⟨ret_bool ?_, H.below⟩
  clear H
  unfold slotOkM
  simp_all
set_option maxRecDepth 100000 in
set_option maxHeartbeats 2000000 in
theorem tableOk_c (s : Sl Slot) (size pages : Int) (w : World) (R : Rd Slot.cells 2 w s) (Z : s.xs.length ≤ 4194304) : Calls Tryz.prog 207 #[.slice s.A s.xs.length s.c, .int .i64 size, .int .i64 pages] w fun e w' => e = .returned (.bool (tableOkM size pages s.xs)) ∧ Below w.heap.size w w' := by
  have H := Hp.start w
  go_enter Tryz.func207, Tryz.ntmps207
  go_wp2_with (first
    | (refine wpList_box_H rfl rfl H rfl (by constructor) ?_; clear H; intro b w H)
    | (refine wpList_alloc_H rfl rfl H ?_; clear H; intro b w H)
    | (refine wpList_load_H rfl rfl H rfl (by repeat constructor) ?_)
    | (refine wpList_loads_H rfl rfl H rfl (by repeat constructor) ?_)
    | (refine wpList_store_H rfl rfl H rfl rfl (by repeat constructor) ?_; clear H; intro w H))
  go_loopw [11] (fun i wr => ∃ k : Nat, k ≤ s.xs.length ∧ i = .int .i64 k ∧ ((s.xs.take k).all (slotOkM pages) = true) ∧ Hp w wr []) (fun i _ => s.xs.length - (intOf i).toNat)
  case atStart => exact ⟨0, by omega, rfl, by simp, H⟩
  case round =>
    clear H
    obtain ⟨k, hk0, rfl, ha, H⟩ := hrel
    have HA := Lib.hid ha; clear ha
    by_cases hk : k < s.xs.length
    · obtain ⟨y, hy0⟩ : ∃ y, s.xs[k]? = some y := ⟨_, List.getElem?_eq_getElem hk⟩
      have HY := Lib.hid hy0; clear hy0
      cases hp : (slotOkM pages) y
      · go_wp2_with (first
          | (refine wpList_box_H rfl rfl H rfl (by constructor) ?_; clear H; intro b w H) | (refine wpList_alloc_H rfl rfl H ?_; clear H; intro b w H) | (refine wpList_load_H rfl rfl H rfl (by repeat constructor) ?_) | (refine wpList_loads_H rfl rfl H rfl (by repeat constructor) ?_) | (refine wpList_store_H rfl rfl H rfl rfl (by repeat constructor) ?_; clear H; intro w H) | (refine wpList_index_nat rfl rfl s (R.at_ H) rfl rfl hk ?_) | (refine wpList_loads_rd rfl rfl s (R.at_ H) rfl y HY.out (by repeat constructor) ?_) | (go_at_call 134; ((with_reducible refine (slotOk_c y pages _).mono ?_)); rintro e w ⟨rfl, hb⟩; replace H := H.still hb; clear hb))
        all_goals (go_ret; refine ⟨ret_bool ?_, H.below⟩; simp [tableOkM, all_false_at HY.out hp])
      · go_wp2_with (first
          | (refine wpList_box_H rfl rfl H rfl (by constructor) ?_; clear H; intro b w H) | (refine wpList_alloc_H rfl rfl H ?_; clear H; intro b w H) | (refine wpList_load_H rfl rfl H rfl (by repeat constructor) ?_) | (refine wpList_loads_H rfl rfl H rfl (by repeat constructor) ?_) | (refine wpList_store_H rfl rfl H rfl rfl (by repeat constructor) ?_; clear H; intro w H) | (refine wpList_index_nat rfl rfl s (R.at_ H) rfl rfl hk ?_) | (refine wpList_loads_rd rfl rfl s (R.at_ H) rfl y HY.out (by repeat constructor) ?_) | (go_at_call 134; ((with_reducible refine (slotOk_c y pages _).mono ?_)); rintro e w ⟨rfl, hb⟩; replace H := H.still hb; clear hb))
        all_goals
          go_roundw
          case rel => exact ⟨k + 1, by omega, by go_num, all_take_succ HA.out HY.out hp, by first | exact H | exact H.drop⟩
          case measure => simp [intOf]; omega
    · have hke : k = s.xs.length := by omega
      subst hke
      go_wp2_with (first
          | (refine wpList_box_H rfl rfl H rfl (by constructor) ?_; clear H; intro b w H) | (refine wpList_alloc_H rfl rfl H ?_; clear H; intro b w H) | (refine wpList_load_H rfl rfl H rfl (by repeat constructor) ?_) | (refine wpList_loads_H rfl rfl H rfl (by repeat constructor) ?_) | (refine wpList_store_H rfl rfl H rfl rfl (by repeat constructor) ?_; clear H; intro w H))
      all_goals (go_ret; refine ⟨ret_bool ?_, H.below⟩; have h := HA.out; rw [List.take_length] at h; simp [tableOkM, h] <;> (rw [Bool.eq_iff_iff]; simp))
set_option maxRecDepth 100000 in
set_option maxHeartbeats 2000000 in
theorem specTableOk_c (s : Sl Slot) (size pages : Int) (w : World) (R : Rd Slot.cells 2 w s) (Z : s.xs.length ≤ 4194304) : Calls Tryz.prog 211 #[.slice s.A s.xs.length s.c, .int .i64 size, .int .i64 pages] w fun e w' => e = .returned (.bool (tableOkM size pages s.xs)) ∧ Below w.heap.size w w' := by
  have H := Hp.start w
  go_enter Tryz.func211, Tryz.ntmps211
  go_wp2_with (first
    | (refine wpList_box_H rfl rfl H rfl (by constructor) ?_; clear H; intro b w H)
    | (refine wpList_alloc_H rfl rfl H ?_; clear H; intro b w H)
    | (refine wpList_load_H rfl rfl H rfl (by repeat constructor) ?_)
    | (refine wpList_loads_H rfl rfl H rfl (by repeat constructor) ?_)
    | (refine wpList_store_H rfl rfl H rfl rfl (by repeat constructor) ?_; clear H; intro w H))
  go_loopw [7] (fun i wr => ∃ k : Nat, k ≤ s.xs.length ∧ i = .int .i64 k ∧ ((s.xs.take k).all (slotOkM pages) = true) ∧ Hp w wr []) (fun i _ => s.xs.length - (intOf i).toNat)
  case atStart => exact ⟨0, by omega, rfl, by simp, H⟩
  case round =>
    clear H
    obtain ⟨k, hk0, rfl, ha, H⟩ := hrel
    have HA := Lib.hid ha; clear ha
    by_cases hk : k < s.xs.length
    · obtain ⟨y, hy0⟩ : ∃ y, s.xs[k]? = some y := ⟨_, List.getElem?_eq_getElem hk⟩
      have HY := Lib.hid hy0; clear hy0
      cases hp : (slotOkM pages) y
      · go_wp2_with (first
          | (refine wpList_box_H rfl rfl H rfl (by constructor) ?_; clear H; intro b w H) | (refine wpList_alloc_H rfl rfl H ?_; clear H; intro b w H) | (refine wpList_load_H rfl rfl H rfl (by repeat constructor) ?_) | (refine wpList_loads_H rfl rfl H rfl (by repeat constructor) ?_) | (refine wpList_store_H rfl rfl H rfl rfl (by repeat constructor) ?_; clear H; intro w H) | (refine wpList_index_nat rfl rfl s (R.at_ H) rfl rfl hk ?_) | (refine wpList_loads_rd rfl rfl s (R.at_ H) rfl y HY.out (by repeat constructor) ?_) | (go_at_call 137; ((with_reducible refine (specSlotOk_c y pages _).mono ?_)); rintro e w ⟨rfl, hb⟩; replace H := H.still hb; clear hb))
        all_goals (go_ret; refine ⟨ret_bool ?_, H.below⟩; simp [tableOkM, all_false_at HY.out hp])
      · go_wp2_with (first
          | (refine wpList_box_H rfl rfl H rfl (by constructor) ?_; clear H; intro b w H) | (refine wpList_alloc_H rfl rfl H ?_; clear H; intro b w H) | (refine wpList_load_H rfl rfl H rfl (by repeat constructor) ?_) | (refine wpList_loads_H rfl rfl H rfl (by repeat constructor) ?_) | (refine wpList_store_H rfl rfl H rfl rfl (by repeat constructor) ?_; clear H; intro w H) | (refine wpList_index_nat rfl rfl s (R.at_ H) rfl rfl hk ?_) | (refine wpList_loads_rd rfl rfl s (R.at_ H) rfl y HY.out (by repeat constructor) ?_) | (go_at_call 137; ((with_reducible refine (specSlotOk_c y pages _).mono ?_)); rintro e w ⟨rfl, hb⟩; replace H := H.still hb; clear hb))
        all_goals
          go_roundw
          case rel => exact ⟨k + 1, by omega, by go_num, all_take_succ HA.out HY.out hp, by first | exact H | exact H.drop⟩
          case measure => simp [intOf]; omega
    · have hke : k = s.xs.length := by omega
      subst hke
      go_wp2_with (first
          | (refine wpList_box_H rfl rfl H rfl (by constructor) ?_; clear H; intro b w H) | (refine wpList_alloc_H rfl rfl H ?_; clear H; intro b w H) | (refine wpList_load_H rfl rfl H rfl (by repeat constructor) ?_) | (refine wpList_loads_H rfl rfl H rfl (by repeat constructor) ?_) | (refine wpList_store_H rfl rfl H rfl rfl (by repeat constructor) ?_; clear H; intro w H))
      all_goals (go_ret; refine ⟨ret_bool ?_, H.below⟩; have h := HA.out; rw [List.take_length] at h; simp [tableOkM, h] <;> (rw [Bool.eq_iff_iff]; simp))
end Go.Proofs.YtaafnenmdombiaaGreat
