/- Contracts of PageOk, MemOk and BareOk, of the program and of the reference. No condition but that the argument lies in memory. -/
import Derived.Test.YtaafnenmdombiaaGreatBb
import Derived.Test.YtaafnenmdombiaaGreatOk4
namespace Go.Proofs.YtaafnenmdombiaaGreat
set_option linter.unusedSimpArgs false
set_option linter.unusedVariables false
set_option linter.unusedSimpArgs false
set_option linter.unusedVariables false
open Go.RowKit
def pageOkM (c : List Int) : Bool := c.all (fun v => inB v 0 99) && decide ((c.length : Int) = 4)
def memOkM (pages : Int) (m : List (List Int)) : Bool := m.all pageOkM && decide ((m.length : Int) = pages)
def bareOkM (m : MB) : Bool := m.guests.all guestOkM && (memOkM 8 m.memory && inB m.guests.length 1 2 && decide ((m.outs.length : Int) ≤ 40) && pendB m.pending)
set_option maxRecDepth 100000 in
set_option maxHeartbeats 4000000 in
theorem pageOk_c (s : Sl Int) (W0 : World) (R : Rd icell 1 W0 s) (Z : s.xs.length ≤ 4194304) : Calls Tryz.prog 209 #[.slice s.A s.xs.length s.c] W0 fun e w' => e = .returned (.bool (pageOkM s.xs)) ∧ Hp W0 w' [] := by
  have H := Hp.start W0
  go_enter Tryz.func209, Tryz.ntmps209
  go_wp2_with (first
    | go_skip
    | (refine wpList_box_H rfl rfl H rfl (by constructor) ?_; clear H; intro b w H)
    | (refine wpList_alloc_H rfl rfl H ?_; clear H; intro b w H)
    | (refine wpList_load_H rfl rfl H rfl (by repeat constructor) ?_)
    | (refine wpList_loads_H rfl rfl H rfl (by repeat constructor) ?_)
    | (refine wpList_store_H rfl rfl H rfl rfl (by repeat constructor) ?_; clear H; intro w H))
  go_loopw [7] (fun i wr => ∃ k : Nat, k ≤ s.xs.length ∧ i = .int .i64 k ∧ ((s.xs.take k).all (fun x => inB x 0 99) = true) ∧ Hp W0 wr []) (fun i _ => s.xs.length - (intOf i).toNat)
  case atStart => exact ⟨0, by omega, rfl, by simp, (H.pick .nil)⟩
  case round =>
    clear H
    obtain ⟨k, hk0, rfl, ha, H⟩ := hrel
    have HA := Lib.hid ha; clear ha
    by_cases hk : k < s.xs.length
    · obtain ⟨y, hy0⟩ : ∃ y, s.xs[k]? = some y := ⟨_, List.getElem?_eq_getElem hk⟩
      have HY := Lib.hid hy0; clear hy0
      cases hp : inB y 0 99
      · go_wp2_with (first
          | go_skip
          | (refine wpList_box_H rfl rfl H rfl (by constructor) ?_; clear H; intro b w H)
          | (refine wpList_alloc_H rfl rfl H ?_; clear H; intro b w H)
          | (refine wpList_load_H rfl rfl H rfl (by repeat constructor) ?_)
          | (refine wpList_loads_H rfl rfl H rfl (by repeat constructor) ?_)
          | (refine wpList_store_H rfl rfl H rfl rfl (by repeat constructor) ?_; clear H; intro w H)
          | (refine wpList_index_n rfl rfl s (R.at_ H) rfl rfl rfl hk ?_)
          | (refine wpList_load_rd rfl rfl s (R.at_ H) rfl y HY.out rfl ?_)
          | (go_at_call 72; refine (within_any _ _ _ _).mono ?_; rintro e w' ⟨he, hw⟩; subst hw; rw [hp] at he; subst he))
        all_goals (go_ret; refine ⟨ret_bool ?_, H.pick .nil⟩; have hf := all_false_at (p := fun x => inB x 0 99) HY.out hp; unfold pageOkM; rw [hf]; rfl)
      · go_wp2_with (first
          | go_skip
          | (refine wpList_box_H rfl rfl H rfl (by constructor) ?_; clear H; intro b w H)
          | (refine wpList_alloc_H rfl rfl H ?_; clear H; intro b w H)
          | (refine wpList_load_H rfl rfl H rfl (by repeat constructor) ?_)
          | (refine wpList_loads_H rfl rfl H rfl (by repeat constructor) ?_)
          | (refine wpList_store_H rfl rfl H rfl rfl (by repeat constructor) ?_; clear H; intro w H)
          | (refine wpList_index_n rfl rfl s (R.at_ H) rfl rfl rfl hk ?_)
          | (refine wpList_load_rd rfl rfl s (R.at_ H) rfl y HY.out rfl ?_)
          | (go_at_call 72; refine (within_any _ _ _ _).mono ?_; rintro e w' ⟨he, hw⟩; subst hw; rw [hp] at he; subst he))
        all_goals
          go_roundw
          case rel => exact ⟨k + 1, by omega, by go_num, all_take_succ HA.out HY.out hp, (H.pick .nil)⟩
          case measure => simp [intOf]; omega
    · have hke : k = s.xs.length := by omega
      subst hke
      have HT : Hid (s.xs.all (fun x => inB x 0 99) = true) := by have h := HA.out; rw [List.take_length] at h; exact h
      go_wp2_with (first
          | go_skip
          | (refine wpList_box_H rfl rfl H rfl (by constructor) ?_; clear H; intro b w H)
          | (refine wpList_alloc_H rfl rfl H ?_; clear H; intro b w H)
          | (refine wpList_load_H rfl rfl H rfl (by repeat constructor) ?_)
          | (refine wpList_loads_H rfl rfl H rfl (by repeat constructor) ?_)
          | (refine wpList_store_H rfl rfl H rfl rfl (by repeat constructor) ?_; clear H; intro w H))
      all_goals (go_ret; refine ⟨ret_bool ?_, H⟩; have h := HT.out; unfold pageOkM; rw [h]; simp <;> (rw [Bool.eq_iff_iff]; simp))
set_option maxRecDepth 100000 in
set_option maxHeartbeats 4000000 in
theorem memOk_c (s : Sl (Sl Int)) (pages : Int) (W0 : World) (R : Rd hcells 1 W0 s) (Ri : ∀ x ∈ s.xs, Rd icell 1 W0 x) (Z : s.xs.length ≤ 4194304) (Zi : ∀ x ∈ s.xs, x.xs.length ≤ 4194304) : Calls Tryz.prog 156 #[.slice s.A s.xs.length s.c, .int .i64 pages] W0 fun e w' => e = .returned (.bool (memOkM pages (memOf s))) ∧ Hp W0 w' [] := by
  have H := Hp.start W0
  go_enter Tryz.func156, Tryz.ntmps156
  go_wp2_with (first
    | go_skip
    | (refine wpList_box_H rfl rfl H rfl (by constructor) ?_; clear H; intro b w H)
    | (refine wpList_alloc_H rfl rfl H ?_; clear H; intro b w H)
    | (refine wpList_load_H rfl rfl H rfl (by repeat constructor) ?_)
    | (refine wpList_loads_H rfl rfl H rfl (by repeat constructor) ?_)
    | (refine wpList_store_H rfl rfl H rfl rfl (by repeat constructor) ?_; clear H; intro w H))
  go_loopw [9] (fun i wr => ∃ k : Nat, k ≤ s.xs.length ∧ i = .int .i64 k ∧ ((s.xs.take k).all (fun x => pageOkM x.xs) = true) ∧ Hp W0 wr []) (fun i _ => s.xs.length - (intOf i).toNat)
  case atStart => exact ⟨0, by omega, rfl, by simp, (H.pick .nil)⟩
  case round =>
    clear H
    obtain ⟨k, hk0, rfl, ha, H⟩ := hrel
    have HA := Lib.hid ha; clear ha
    by_cases hk : k < s.xs.length
    · obtain ⟨y, hy0⟩ : ∃ y, s.xs[k]? = some y := ⟨_, List.getElem?_eq_getElem hk⟩
      have HY := Lib.hid hy0; clear hy0
      cases hp : pageOkM y.xs
      · go_wp2_with (first
          | go_skip
          | (refine wpList_box_H rfl rfl H rfl (by constructor) ?_; clear H; intro b w H)
          | (refine wpList_alloc_H rfl rfl H ?_; clear H; intro b w H)
          | (refine wpList_load_H rfl rfl H rfl (by repeat constructor) ?_)
          | (refine wpList_loads_H rfl rfl H rfl (by repeat constructor) ?_)
          | (refine wpList_store_H rfl rfl H rfl rfl (by repeat constructor) ?_; clear H; intro w H)
          | (refine wpList_index_n rfl rfl s (R.at_ H) rfl rfl rfl hk ?_)
          | (refine wpList_load_rd rfl rfl s (R.at_ H) rfl y HY.out rfl ?_)
          | (go_at_call 209; refine (pageOk_c y _ ((Ri y (List.mem_of_getElem? HY.out)).at_ H) (Zi y (List.mem_of_getElem? HY.out))).mono ?_; rintro e w ⟨he, K⟩; rw [hp] at he; subst he; replace H := H.add_all K; clear K))
        all_goals (go_ret; refine ⟨ret_bool ?_, H.pick .nil⟩; have hf := all_false_at (p := fun x => pageOkM x.xs) HY.out hp; unfold memOkM memOf; rw [List.all_map]; simp only [Function.comp_def]; rw [hf]; rfl)
      · go_wp2_with (first
          | go_skip
          | (refine wpList_box_H rfl rfl H rfl (by constructor) ?_; clear H; intro b w H)
          | (refine wpList_alloc_H rfl rfl H ?_; clear H; intro b w H)
          | (refine wpList_load_H rfl rfl H rfl (by repeat constructor) ?_)
          | (refine wpList_loads_H rfl rfl H rfl (by repeat constructor) ?_)
          | (refine wpList_store_H rfl rfl H rfl rfl (by repeat constructor) ?_; clear H; intro w H)
          | (refine wpList_index_n rfl rfl s (R.at_ H) rfl rfl rfl hk ?_)
          | (refine wpList_load_rd rfl rfl s (R.at_ H) rfl y HY.out rfl ?_)
          | (go_at_call 209; refine (pageOk_c y _ ((Ri y (List.mem_of_getElem? HY.out)).at_ H) (Zi y (List.mem_of_getElem? HY.out))).mono ?_; rintro e w ⟨he, K⟩; rw [hp] at he; subst he; replace H := H.add_all K; clear K))
        all_goals
          go_roundw
          case rel => exact ⟨k + 1, by omega, by go_num, all_take_succ HA.out HY.out hp, (H.pick .nil)⟩
          case measure => simp [intOf]; omega
    · have hke : k = s.xs.length := by omega
      subst hke
      have HT : Hid (s.xs.all (fun x => pageOkM x.xs) = true) := by have h := HA.out; rw [List.take_length] at h; exact h
      go_wp2_with (first
          | go_skip
          | (refine wpList_box_H rfl rfl H rfl (by constructor) ?_; clear H; intro b w H)
          | (refine wpList_alloc_H rfl rfl H ?_; clear H; intro b w H)
          | (refine wpList_load_H rfl rfl H rfl (by repeat constructor) ?_)
          | (refine wpList_loads_H rfl rfl H rfl (by repeat constructor) ?_)
          | (refine wpList_store_H rfl rfl H rfl rfl (by repeat constructor) ?_; clear H; intro w H))
      all_goals (go_ret; refine ⟨ret_bool ?_, H⟩; have h := HT.out; unfold memOkM memOf; rw [List.all_map]; simp only [Function.comp_def]; rw [h]; simp <;> (rw [Bool.eq_iff_iff]; simp))
set_option maxRecDepth 100000 in
set_option maxHeartbeats 4000000 in
theorem bareOk_c (B : BV) (W0 : World) (R : BRd W0 B) (Z : BBig B) : Calls Tryz.prog 50 #[B.val] W0 fun e w' => e = .returned (.bool (bareOkM B.m)) ∧ Hp W0 w' [] := by
  have z1 := Z.mem
  have z2 := Z.gs
  have z3 := Z.outs
  have H := Hp.start W0
  go_enter Tryz.func50, Tryz.ntmps50
  go_wp2_with (first
    | go_skip
    | (refine wpList_box_H rfl rfl H rfl (by constructor) ?_; clear H; intro bB w H)
    | (refine wpList_alloc_H rfl rfl H ?_; clear H; intro b w H)
    | (refine wpList_load_H rfl rfl H rfl (by repeat constructor) ?_)
    | (refine wpList_loads_H rfl rfl H rfl (by repeat constructor) ?_)
    | (refine wpList_store_H rfl rfl H rfl rfl (by repeat constructor) ?_; clear H; intro w H))
  go_loopw [8] (fun i wr => ∃ k : Nat, k ≤ B.gs.xs.length ∧ i = .int .i64 k ∧ ((B.gs.xs.take k).all (fun x => guestOkM x.m) = true) ∧ Hp W0 wr [.box bB 28 (barr B).toList]) (fun i _ => B.gs.xs.length - (intOf i).toNat)
  case atStart => exact ⟨0, by omega, rfl, by simp, (H.pick (.cons (by repeat constructor) .nil))⟩
  case round =>
    clear H
    obtain ⟨k, hk0, rfl, ha, H⟩ := hrel
    have HA := Lib.hid ha; clear ha
    by_cases hk : k < B.gs.xs.length
    · obtain ⟨y, hy0⟩ : ∃ y, B.gs.xs[k]? = some y := ⟨_, List.getElem?_eq_getElem hk⟩
      have HY := Lib.hid hy0; clear hy0
      cases hp : guestOkM y.m
      · go_wp2_with (first
          | go_skip
          | (refine wpList_box_H rfl rfl H rfl (by constructor) ?_; clear H; intro b w H)
          | (refine wpList_alloc_H rfl rfl H ?_; clear H; intro b w H)
          | (refine wpList_load_H rfl rfl H rfl (by repeat constructor) ?_)
          | (refine wpList_loads_H rfl rfl H rfl (by repeat constructor) ?_)
          | (refine wpList_store_H rfl rfl H rfl rfl (by repeat constructor) ?_; clear H; intro w H)
          | (refine wpList_index_n rfl rfl B.gs (R.gs.at_ H) rfl rfl rfl hk ?_)
          | (refine wpList_loads_rd rfl rfl B.gs (R.gs.at_ H) rfl y HY.out (by repeat constructor) ?_)
          | (go_at_call 155; refine (guestOk_any y _ ((R.gsi y (List.mem_of_getElem? HY.out)).at_ H) (Z.gsi y (List.mem_of_getElem? HY.out))).mono ?_; rintro e w ⟨he, K⟩; rw [hp] at he; subst he; replace H := H.still K; clear K))
        all_goals (go_ret; refine ⟨ret_bool ?_, H.pick .nil⟩; have hf := all_false_at (p := fun x => guestOkM x.m) HY.out hp; unfold bareOkM; simp only [BV.m, gsOf, List.all_map, Function.comp_def]; rw [hf]; rfl)
      · go_wp2_with (first
          | go_skip
          | (refine wpList_box_H rfl rfl H rfl (by constructor) ?_; clear H; intro b w H)
          | (refine wpList_alloc_H rfl rfl H ?_; clear H; intro b w H)
          | (refine wpList_load_H rfl rfl H rfl (by repeat constructor) ?_)
          | (refine wpList_loads_H rfl rfl H rfl (by repeat constructor) ?_)
          | (refine wpList_store_H rfl rfl H rfl rfl (by repeat constructor) ?_; clear H; intro w H)
          | (refine wpList_index_n rfl rfl B.gs (R.gs.at_ H) rfl rfl rfl hk ?_)
          | (refine wpList_loads_rd rfl rfl B.gs (R.gs.at_ H) rfl y HY.out (by repeat constructor) ?_)
          | (go_at_call 155; refine (guestOk_any y _ ((R.gsi y (List.mem_of_getElem? HY.out)).at_ H) (Z.gsi y (List.mem_of_getElem? HY.out))).mono ?_; rintro e w ⟨he, K⟩; rw [hp] at he; subst he; replace H := H.still K; clear K))
        all_goals
          go_roundw
          case rel => exact ⟨k + 1, by omega, by go_num, all_take_succ HA.out HY.out hp, (H.pick (.cons (by repeat constructor) .nil))⟩
          case measure => simp [intOf]; omega
    · have hke : k = B.gs.xs.length := by omega
      subst hke
      have HT : Hid (B.gs.xs.all (fun x => guestOkM x.m) = true) := by have h := HA.out; rw [List.take_length] at h; exact h
      cases e1 : memOkM 8 (memOf B.mem) <;> cases e2 : inB (B.gs.xs.length : Int) 1 2 <;> cases e4 : pendB B.pend <;> by_cases e3 : (B.outs.xs.length : Int) ≤ 40
      all_goals
      go_wp2_with (first
          | go_skip
          | (refine wpList_box_H rfl rfl H rfl (by constructor) ?_; clear H; intro b w H)
          | (refine wpList_alloc_H rfl rfl H ?_; clear H; intro b w H)
          | (refine wpList_load_H rfl rfl H rfl (by repeat constructor) ?_)
          | (refine wpList_loads_H rfl rfl H rfl (by repeat constructor) ?_)
          | (refine wpList_store_H rfl rfl H rfl rfl (by repeat constructor) ?_; clear H; intro w H)
          | (go_at_call 156; refine (memOk_c B.mem 8 _ (R.mem.at_ H) (fun x hx => (R.memi x hx).at_ H) z1 Z.memi).mono ?_; rintro e w ⟨he, K⟩; rw [e1] at he; subst he; replace H := H.add_all K; clear K)
          | (go_at_call 72; refine (within_any _ _ _ _).mono ?_; rintro e w' ⟨he, hw⟩; subst hw; rw [e2] at he; subst he)
          | (go_at_call 157; refine (pendOk_any _ _).mono ?_; rintro e w' ⟨he, hw⟩; subst hw; rw [e4] at he; subst he))
      all_goals (go_ret; refine ⟨ret_bool ?_, H.pick .nil⟩; have h := HT.out; unfold bareOkM; simp only [BV.m, gsOf, List.all_map, Function.comp_def, List.length_map]; rw [h]; simp [e1, e2, e3, e4] <;> (first | omega | (simp_all; done) | (simp_all; exact decide_eq_false (by omega))))
set_option maxRecDepth 100000 in
set_option maxHeartbeats 4000000 in
theorem specPageOk_c (s : Sl Int) (W0 : World) (R : Rd icell 1 W0 s) (Z : s.xs.length ≤ 4194304) : Calls Tryz.prog 213 #[.slice s.A s.xs.length s.c] W0 fun e w' => e = .returned (.bool (pageOkM s.xs)) ∧ Hp W0 w' [] := by
  have H := Hp.start W0
  go_enter Tryz.func213, Tryz.ntmps213
  go_wp2_with (first
    | go_skip
    | (refine wpList_box_H rfl rfl H rfl (by constructor) ?_; clear H; intro b w H)
    | (refine wpList_alloc_H rfl rfl H ?_; clear H; intro b w H)
    | (refine wpList_load_H rfl rfl H rfl (by repeat constructor) ?_)
    | (refine wpList_loads_H rfl rfl H rfl (by repeat constructor) ?_)
    | (refine wpList_store_H rfl rfl H rfl rfl (by repeat constructor) ?_; clear H; intro w H))
  go_loopw [3] (fun i wr => ∃ k : Nat, k ≤ s.xs.length ∧ i = .int .i64 k ∧ ((s.xs.take k).all (fun x => inB x 0 99) = true) ∧ Hp W0 wr []) (fun i _ => s.xs.length - (intOf i).toNat)
  case atStart => exact ⟨0, by omega, rfl, by simp, (H.pick .nil)⟩
  case round =>
    clear H
    obtain ⟨k, hk0, rfl, ha, H⟩ := hrel
    have HA := Lib.hid ha; clear ha
    by_cases hk : k < s.xs.length
    · obtain ⟨y, hy0⟩ : ∃ y, s.xs[k]? = some y := ⟨_, List.getElem?_eq_getElem hk⟩
      have HY := Lib.hid hy0; clear hy0
      cases hp : inB y 0 99
      · go_wp2_with (first
          | go_skip
          | (refine wpList_box_H rfl rfl H rfl (by constructor) ?_; clear H; intro b w H)
          | (refine wpList_alloc_H rfl rfl H ?_; clear H; intro b w H)
          | (refine wpList_load_H rfl rfl H rfl (by repeat constructor) ?_)
          | (refine wpList_loads_H rfl rfl H rfl (by repeat constructor) ?_)
          | (refine wpList_store_H rfl rfl H rfl rfl (by repeat constructor) ?_; clear H; intro w H)
          | (refine wpList_index_n rfl rfl s (R.at_ H) rfl rfl rfl hk ?_)
          | (refine wpList_load_rd rfl rfl s (R.at_ H) rfl y HY.out rfl ?_)
          | (go_at_call 78; refine (in_any _ _ _ _).mono ?_; rintro e w' ⟨he, hw⟩; subst hw; rw [hp] at he; subst he))
        all_goals (go_ret; refine ⟨ret_bool ?_, H.pick .nil⟩; have hf := all_false_at (p := fun x => inB x 0 99) HY.out hp; unfold pageOkM; rw [hf]; rfl)
      · go_wp2_with (first
          | go_skip
          | (refine wpList_box_H rfl rfl H rfl (by constructor) ?_; clear H; intro b w H)
          | (refine wpList_alloc_H rfl rfl H ?_; clear H; intro b w H)
          | (refine wpList_load_H rfl rfl H rfl (by repeat constructor) ?_)
          | (refine wpList_loads_H rfl rfl H rfl (by repeat constructor) ?_)
          | (refine wpList_store_H rfl rfl H rfl rfl (by repeat constructor) ?_; clear H; intro w H)
          | (refine wpList_index_n rfl rfl s (R.at_ H) rfl rfl rfl hk ?_)
          | (refine wpList_load_rd rfl rfl s (R.at_ H) rfl y HY.out rfl ?_)
          | (go_at_call 78; refine (in_any _ _ _ _).mono ?_; rintro e w' ⟨he, hw⟩; subst hw; rw [hp] at he; subst he))
        all_goals
          go_roundw
          case rel => exact ⟨k + 1, by omega, by go_num, all_take_succ HA.out HY.out hp, (H.pick .nil)⟩
          case measure => simp [intOf]; omega
    · have hke : k = s.xs.length := by omega
      subst hke
      have HT : Hid (s.xs.all (fun x => inB x 0 99) = true) := by have h := HA.out; rw [List.take_length] at h; exact h
      go_wp2_with (first
          | go_skip
          | (refine wpList_box_H rfl rfl H rfl (by constructor) ?_; clear H; intro b w H)
          | (refine wpList_alloc_H rfl rfl H ?_; clear H; intro b w H)
          | (refine wpList_load_H rfl rfl H rfl (by repeat constructor) ?_)
          | (refine wpList_loads_H rfl rfl H rfl (by repeat constructor) ?_)
          | (refine wpList_store_H rfl rfl H rfl rfl (by repeat constructor) ?_; clear H; intro w H))
      all_goals (go_ret; refine ⟨ret_bool ?_, H⟩; have h := HT.out; unfold pageOkM; rw [h]; simp <;> (rw [Bool.eq_iff_iff]; simp))
set_option maxRecDepth 100000 in
set_option maxHeartbeats 4000000 in
theorem specMemOk_c (s : Sl (Sl Int)) (pages : Int) (W0 : World) (R : Rd hcells 1 W0 s) (Ri : ∀ x ∈ s.xs, Rd icell 1 W0 x) (Z : s.xs.length ≤ 4194304) (Zi : ∀ x ∈ s.xs, x.xs.length ≤ 4194304) : Calls Tryz.prog 159 #[.slice s.A s.xs.length s.c, .int .i64 pages] W0 fun e w' => e = .returned (.bool (memOkM pages (memOf s))) ∧ Hp W0 w' [] := by
  have H := Hp.start W0
  go_enter Tryz.func159, Tryz.ntmps159
  go_wp2_with (first
    | go_skip
    | (refine wpList_box_H rfl rfl H rfl (by constructor) ?_; clear H; intro b w H)
    | (refine wpList_alloc_H rfl rfl H ?_; clear H; intro b w H)
    | (refine wpList_load_H rfl rfl H rfl (by repeat constructor) ?_)
    | (refine wpList_loads_H rfl rfl H rfl (by repeat constructor) ?_)
    | (refine wpList_store_H rfl rfl H rfl rfl (by repeat constructor) ?_; clear H; intro w H))
  go_loopw [5] (fun i wr => ∃ k : Nat, k ≤ s.xs.length ∧ i = .int .i64 k ∧ ((s.xs.take k).all (fun x => pageOkM x.xs) = true) ∧ Hp W0 wr []) (fun i _ => s.xs.length - (intOf i).toNat)
  case atStart => exact ⟨0, by omega, rfl, by simp, (H.pick .nil)⟩
  case round =>
    clear H
    obtain ⟨k, hk0, rfl, ha, H⟩ := hrel
    have HA := Lib.hid ha; clear ha
    by_cases hk : k < s.xs.length
    · obtain ⟨y, hy0⟩ : ∃ y, s.xs[k]? = some y := ⟨_, List.getElem?_eq_getElem hk⟩
      have HY := Lib.hid hy0; clear hy0
      cases hp : pageOkM y.xs
      · go_wp2_with (first
          | go_skip
          | (refine wpList_box_H rfl rfl H rfl (by constructor) ?_; clear H; intro b w H)
          | (refine wpList_alloc_H rfl rfl H ?_; clear H; intro b w H)
          | (refine wpList_load_H rfl rfl H rfl (by repeat constructor) ?_)
          | (refine wpList_loads_H rfl rfl H rfl (by repeat constructor) ?_)
          | (refine wpList_store_H rfl rfl H rfl rfl (by repeat constructor) ?_; clear H; intro w H)
          | (refine wpList_index_n rfl rfl s (R.at_ H) rfl rfl rfl hk ?_)
          | (refine wpList_load_rd rfl rfl s (R.at_ H) rfl y HY.out rfl ?_)
          | (go_at_call 213; refine (specPageOk_c y _ ((Ri y (List.mem_of_getElem? HY.out)).at_ H) (Zi y (List.mem_of_getElem? HY.out))).mono ?_; rintro e w ⟨he, K⟩; rw [hp] at he; subst he; replace H := H.add_all K; clear K))
        all_goals (go_ret; refine ⟨ret_bool ?_, H.pick .nil⟩; have hf := all_false_at (p := fun x => pageOkM x.xs) HY.out hp; unfold memOkM memOf; rw [List.all_map]; simp only [Function.comp_def]; rw [hf]; rfl)
      · go_wp2_with (first
          | go_skip
          | (refine wpList_box_H rfl rfl H rfl (by constructor) ?_; clear H; intro b w H)
          | (refine wpList_alloc_H rfl rfl H ?_; clear H; intro b w H)
          | (refine wpList_load_H rfl rfl H rfl (by repeat constructor) ?_)
          | (refine wpList_loads_H rfl rfl H rfl (by repeat constructor) ?_)
          | (refine wpList_store_H rfl rfl H rfl rfl (by repeat constructor) ?_; clear H; intro w H)
          | (refine wpList_index_n rfl rfl s (R.at_ H) rfl rfl rfl hk ?_)
          | (refine wpList_load_rd rfl rfl s (R.at_ H) rfl y HY.out rfl ?_)
          | (go_at_call 213; refine (specPageOk_c y _ ((Ri y (List.mem_of_getElem? HY.out)).at_ H) (Zi y (List.mem_of_getElem? HY.out))).mono ?_; rintro e w ⟨he, K⟩; rw [hp] at he; subst he; replace H := H.add_all K; clear K))
        all_goals
          go_roundw
          case rel => exact ⟨k + 1, by omega, by go_num, all_take_succ HA.out HY.out hp, (H.pick .nil)⟩
          case measure => simp [intOf]; omega
    · have hke : k = s.xs.length := by omega
      subst hke
      have HT : Hid (s.xs.all (fun x => pageOkM x.xs) = true) := by have h := HA.out; rw [List.take_length] at h; exact h
      go_wp2_with (first
          | go_skip
          | (refine wpList_box_H rfl rfl H rfl (by constructor) ?_; clear H; intro b w H)
          | (refine wpList_alloc_H rfl rfl H ?_; clear H; intro b w H)
          | (refine wpList_load_H rfl rfl H rfl (by repeat constructor) ?_)
          | (refine wpList_loads_H rfl rfl H rfl (by repeat constructor) ?_)
          | (refine wpList_store_H rfl rfl H rfl rfl (by repeat constructor) ?_; clear H; intro w H))
      all_goals (go_ret; refine ⟨ret_bool ?_, H⟩; have h := HT.out; unfold memOkM memOf; rw [List.all_map]; simp only [Function.comp_def]; rw [h]; simp <;> (rw [Bool.eq_iff_iff]; simp))
set_option maxRecDepth 100000 in
set_option maxHeartbeats 4000000 in
theorem specBareOk_c (B : BV) (W0 : World) (R : BRd W0 B) (Z : BBig B) : Calls Tryz.prog 51 #[B.val] W0 fun e w' => e = .returned (.bool (bareOkM B.m)) ∧ Hp W0 w' [] := by
  have z1 := Z.mem
  have z2 := Z.gs
  have z3 := Z.outs
  have H := Hp.start W0
  go_enter Tryz.func51, Tryz.ntmps51
  go_wp2_with (first
    | go_skip
    | (refine wpList_box_H rfl rfl H rfl (by constructor) ?_; clear H; intro bB w H)
    | (refine wpList_alloc_H rfl rfl H ?_; clear H; intro b w H)
    | (refine wpList_load_H rfl rfl H rfl (by repeat constructor) ?_)
    | (refine wpList_loads_H rfl rfl H rfl (by repeat constructor) ?_)
    | (refine wpList_store_H rfl rfl H rfl rfl (by repeat constructor) ?_; clear H; intro w H))
  go_loopw [3] (fun i wr => ∃ k : Nat, k ≤ B.gs.xs.length ∧ i = .int .i64 k ∧ ((B.gs.xs.take k).all (fun x => guestOkM x.m) = true) ∧ Hp W0 wr [.box bB 28 (barr B).toList]) (fun i _ => B.gs.xs.length - (intOf i).toNat)
  case atStart => exact ⟨0, by omega, rfl, by simp, (H.pick (.cons (by repeat constructor) .nil))⟩
  case round =>
    clear H
    obtain ⟨k, hk0, rfl, ha, H⟩ := hrel
    have HA := Lib.hid ha; clear ha
    by_cases hk : k < B.gs.xs.length
    · obtain ⟨y, hy0⟩ : ∃ y, B.gs.xs[k]? = some y := ⟨_, List.getElem?_eq_getElem hk⟩
      have HY := Lib.hid hy0; clear hy0
      cases hp : guestOkM y.m
      · go_wp2_with (first
          | go_skip
          | (refine wpList_box_H rfl rfl H rfl (by constructor) ?_; clear H; intro b w H)
          | (refine wpList_alloc_H rfl rfl H ?_; clear H; intro b w H)
          | (refine wpList_load_H rfl rfl H rfl (by repeat constructor) ?_)
          | (refine wpList_loads_H rfl rfl H rfl (by repeat constructor) ?_)
          | (refine wpList_store_H rfl rfl H rfl rfl (by repeat constructor) ?_; clear H; intro w H)
          | (refine wpList_index_n rfl rfl B.gs (R.gs.at_ H) rfl rfl rfl hk ?_)
          | (refine wpList_loads_rd rfl rfl B.gs (R.gs.at_ H) rfl y HY.out (by repeat constructor) ?_)
          | (go_at_call 158; refine (specGuestOk_any y _ ((R.gsi y (List.mem_of_getElem? HY.out)).at_ H) (Z.gsi y (List.mem_of_getElem? HY.out))).mono ?_; rintro e w ⟨he, K⟩; rw [hp] at he; subst he; replace H := H.still K; clear K))
        all_goals (go_ret; refine ⟨ret_bool ?_, H.pick .nil⟩; have hf := all_false_at (p := fun x => guestOkM x.m) HY.out hp; unfold bareOkM; simp only [BV.m, gsOf, List.all_map, Function.comp_def]; rw [hf]; rfl)
      · go_wp2_with (first
          | go_skip
          | (refine wpList_box_H rfl rfl H rfl (by constructor) ?_; clear H; intro b w H)
          | (refine wpList_alloc_H rfl rfl H ?_; clear H; intro b w H)
          | (refine wpList_load_H rfl rfl H rfl (by repeat constructor) ?_)
          | (refine wpList_loads_H rfl rfl H rfl (by repeat constructor) ?_)
          | (refine wpList_store_H rfl rfl H rfl rfl (by repeat constructor) ?_; clear H; intro w H)
          | (refine wpList_index_n rfl rfl B.gs (R.gs.at_ H) rfl rfl rfl hk ?_)
          | (refine wpList_loads_rd rfl rfl B.gs (R.gs.at_ H) rfl y HY.out (by repeat constructor) ?_)
          | (go_at_call 158; refine (specGuestOk_any y _ ((R.gsi y (List.mem_of_getElem? HY.out)).at_ H) (Z.gsi y (List.mem_of_getElem? HY.out))).mono ?_; rintro e w ⟨he, K⟩; rw [hp] at he; subst he; replace H := H.still K; clear K))
        all_goals
          go_roundw
          case rel => exact ⟨k + 1, by omega, by go_num, all_take_succ HA.out HY.out hp, (H.pick (.cons (by repeat constructor) .nil))⟩
          case measure => simp [intOf]; omega
    · have hke : k = B.gs.xs.length := by omega
      subst hke
      have HT : Hid (B.gs.xs.all (fun x => guestOkM x.m) = true) := by have h := HA.out; rw [List.take_length] at h; exact h
      cases e1 : memOkM 8 (memOf B.mem) <;> cases e2 : inB (B.gs.xs.length : Int) 1 2 <;> cases e4 : pendB B.pend <;> by_cases e3 : (B.outs.xs.length : Int) ≤ 40
      all_goals
      go_wp2_with (first
          | go_skip
          | (refine wpList_box_H rfl rfl H rfl (by constructor) ?_; clear H; intro b w H)
          | (refine wpList_alloc_H rfl rfl H ?_; clear H; intro b w H)
          | (refine wpList_load_H rfl rfl H rfl (by repeat constructor) ?_)
          | (refine wpList_loads_H rfl rfl H rfl (by repeat constructor) ?_)
          | (refine wpList_store_H rfl rfl H rfl rfl (by repeat constructor) ?_; clear H; intro w H)
          | (go_at_call 159; refine (specMemOk_c B.mem 8 _ (R.mem.at_ H) (fun x hx => (R.memi x hx).at_ H) z1 Z.memi).mono ?_; rintro e w ⟨he, K⟩; rw [e1] at he; subst he; replace H := H.add_all K; clear K)
          | (go_at_call 78; refine (in_any _ _ _ _).mono ?_; rintro e w' ⟨he, hw⟩; subst hw; rw [e2] at he; subst he)
          | (go_at_call 160; refine (specPendOk_any _ _).mono ?_; rintro e w' ⟨he, hw⟩; subst hw; rw [e4] at he; subst he))
      all_goals (go_ret; refine ⟨ret_bool ?_, H.pick .nil⟩; have h := HT.out; unfold bareOkM; simp only [BV.m, gsOf, List.all_map, Function.comp_def, List.length_map]; rw [h]; simp [e1, e2, e3, e4] <;> (first | omega | (simp_all; done) | (simp_all; exact decide_eq_false (by omega))))
end Go.Proofs.YtaafnenmdombiaaGreat
