/- Contracts of the laws' own comparisons of lists and guests. No condition but that the arguments lie in memory. -/
import Derived.Test.YtaafnenmdombiaaGreatBb
import Derived.Test.YtaafnenmdombiaaGreatSamh
namespace Go.Proofs.YtaafnenmdombiaaGreat
open Go.RowKit
set_option maxRecDepth 100000 in
set_option maxHeartbeats 2000000 in
theorem lawInss_c (s t : Sl Ins) (w : World) (R0 : Rd Ins.cells 2 w s) (R1 : Rd Ins.cells 2 w t) (Z : s.xs.length ≤ 4194304) : Calls Tryz.prog 150 #[.slice s.A s.xs.length s.c, .slice t.A t.xs.length t.c] w fun e w' => e = .returned (.bool (s.xs == t.xs)) ∧ Below w.heap.size w w' := by
  by_cases hl : s.xs.length = t.xs.length
  · have l1 : (s.xs.length == t.xs.length) = true := beq_iff_eq.2 hl
    have l2 : (s.xs.length != t.xs.length) = false := by simp [hl]
    have l3 : ((s.xs.length : Int) == (t.xs.length : Int)) = true := by simp [hl]
    have l4 : ((s.xs.length : Int) != (t.xs.length : Int)) = false := by simp [hl]
    have HL := Lib.hid hl; clear hl
    have H := Hp.start w
    go_enter Tryz.func150, Tryz.ntmps150
    go_wp2
    clear l1 l2 l3 l4
    go_loopw [5] (fun i wr => ∃ k : Nat, k ≤ s.xs.length ∧ i = .int .i64 k ∧ s.xs.take k = t.xs.take k ∧ Hp w wr []) (fun i _ => s.xs.length - (intOf i).toNat)
    case atStart => exact ⟨0, by omega, rfl, by simp, H⟩
    case round =>
      clear H
      obtain ⟨k, hk, rfl, ht, H⟩ := hrel
      have HT := Lib.hid ht; clear ht
      by_cases hk0 : k < s.xs.length
      · have hk1 : k < t.xs.length := by rw [← HL.out]; exact hk0
        obtain ⟨x, hx0⟩ : ∃ x, s.xs[k]? = some x := ⟨_, List.getElem?_eq_getElem hk0⟩
        have HY0 := Lib.hid hx0; clear hx0
        obtain ⟨y, hy0⟩ : ∃ y, t.xs[k]? = some y := ⟨_, List.getElem?_eq_getElem hk1⟩
        have HY1 := Lib.hid hy0; clear hy0
        cases e1 : (x.op == y.op) <;> cases e2 : (x.x == y.x)
        all_goals
          go_wp2
          refine wp_region_H (by kernel_rfl) (by kernel_rfl) H ?_
          intro C hC1 hC2
          repeat (first
            | go_big_quiet_skip
            | (go_big_quiet_want; (first
              | (refine quiet_index_nat hC1 rfl s R0 rfl rfl hk0 ?_; simp only [put_some, List.set_cons_succ, List.set_cons_zero]; go_big_quiet_on)
              | (refine quiet_index_nat hC1 rfl t R1 rfl rfl hk1 ?_; simp only [put_some, List.set_cons_succ, List.set_cons_zero]; go_big_quiet_on)
              | (refine quiet_loads_rd hC1 rfl s R0 rfl x HY0.out (by repeat constructor) ?_; simp only [put_some, List.set_cons_succ, List.set_cons_zero]; go_big_quiet_on)
              | (refine quiet_loads_rd hC1 rfl t R1 rfl y HY1.out (by repeat constructor) ?_; simp only [put_some, List.set_cons_succ, List.set_cons_zero]; go_big_quiet_on)
              | (go_big_quiet_op; (first | go_big_quiet_on | (refine ⟨_, fun _ _ => rfl, ?_⟩; go_big_quiet_on))))))
          refine wpQuiet_nil ?_
          clear hC1 hC2
          clear H
          intro w H
          go_wp2
        all_goals first
          | (go_ret; exact ⟨ret_bool (list_neIns HY0.out HY1.out (by intro h; subst h; simp at e1 e2)), H.below⟩)
          | (go_roundw
             case rel => exact ⟨k + 1, by omega, by go_num, list_eqIns HT.out HY0.out HY1.out (by obtain ⟨x1, x2⟩ := x; obtain ⟨y1, y2⟩ := y; simp at e1 e2; simp [e1, e2]), H⟩
             case measure => simp [intOf]; omega)
      · have hke : k = s.xs.length := by omega
        subst hke
        have hn0 : t.xs.length ≤ s.xs.length := by rw [HL.out]; exact Nat.le_refl _
        go_wp2
        go_ret
        exact ⟨ret_bool (beq_of_take HL.out HT.out).symm, H.below⟩
  · have l1 : (s.xs.length == t.xs.length) = false := by simp [hl]
    have l2 : (s.xs.length != t.xs.length) = true := by simp [hl]
    have l3 : ((s.xs.length : Int) == (t.xs.length : Int)) = false := by simp; omega
    have l4 : ((s.xs.length : Int) != (t.xs.length : Int)) = true := by simp; omega
    go_enter Tryz.func150, Tryz.ntmps150
    go_wp2
    go_ret
    exact ⟨ret_bool (beq_ne_len hl).symm, Below.refl _ _⟩
set_option maxRecDepth 100000 in
set_option maxHeartbeats 2000000 in
theorem lawSlots_c (s t : Sl Slot) (w : World) (R0 : Rd Slot.cells 2 w s) (R1 : Rd Slot.cells 2 w t) (Z : s.xs.length ≤ 4194304) : Calls Tryz.prog 33 #[.slice s.A s.xs.length s.c, .slice t.A t.xs.length t.c] w fun e w' => e = .returned (.bool (s.xs == t.xs)) ∧ Below w.heap.size w w' := by
  by_cases hl : s.xs.length = t.xs.length
  · have l1 : (s.xs.length == t.xs.length) = true := beq_iff_eq.2 hl
    have l2 : (s.xs.length != t.xs.length) = false := by simp [hl]
    have l3 : ((s.xs.length : Int) == (t.xs.length : Int)) = true := by simp [hl]
    have l4 : ((s.xs.length : Int) != (t.xs.length : Int)) = false := by simp [hl]
    have HL := Lib.hid hl; clear hl
    have H := Hp.start w
    go_enter Tryz.func33, Tryz.ntmps33
    go_wp2
    clear l1 l2 l3 l4
    go_loopw [5] (fun i wr => ∃ k : Nat, k ≤ s.xs.length ∧ i = .int .i64 k ∧ s.xs.take k = t.xs.take k ∧ Hp w wr []) (fun i _ => s.xs.length - (intOf i).toNat)
    case atStart => exact ⟨0, by omega, rfl, by simp, H⟩
    case round =>
      clear H
      obtain ⟨k, hk, rfl, ht, H⟩ := hrel
      have HT := Lib.hid ht; clear ht
      by_cases hk0 : k < s.xs.length
      · have hk1 : k < t.xs.length := by rw [← HL.out]; exact hk0
        obtain ⟨x, hx0⟩ : ∃ x, s.xs[k]? = some x := ⟨_, List.getElem?_eq_getElem hk0⟩
        have HY0 := Lib.hid hx0; clear hx0
        obtain ⟨y, hy0⟩ : ∃ y, t.xs[k]? = some y := ⟨_, List.getElem?_eq_getElem hk1⟩
        have HY1 := Lib.hid hy0; clear hy0
        cases e1 : (x.page == y.page) <;> cases e2 : (x.rights == y.rights)
        all_goals
          go_wp2
          refine wp_region_H (by kernel_rfl) (by kernel_rfl) H ?_
          intro C hC1 hC2
          repeat (first
            | go_big_quiet_skip
            | (go_big_quiet_want; (first
              | (refine quiet_index_nat hC1 rfl s R0 rfl rfl hk0 ?_; simp only [put_some, List.set_cons_succ, List.set_cons_zero]; go_big_quiet_on)
              | (refine quiet_index_nat hC1 rfl t R1 rfl rfl hk1 ?_; simp only [put_some, List.set_cons_succ, List.set_cons_zero]; go_big_quiet_on)
              | (refine quiet_loads_rd hC1 rfl s R0 rfl x HY0.out (by repeat constructor) ?_; simp only [put_some, List.set_cons_succ, List.set_cons_zero]; go_big_quiet_on)
              | (refine quiet_loads_rd hC1 rfl t R1 rfl y HY1.out (by repeat constructor) ?_; simp only [put_some, List.set_cons_succ, List.set_cons_zero]; go_big_quiet_on)
              | (go_big_quiet_op; (first | go_big_quiet_on | (refine ⟨_, fun _ _ => rfl, ?_⟩; go_big_quiet_on))))))
          refine wpQuiet_nil ?_
          clear hC1 hC2
          clear H
          intro w H
          go_wp2
        all_goals first
          | (go_ret; exact ⟨ret_bool (list_neSlot HY0.out HY1.out (by intro h; subst h; simp at e1 e2)), H.below⟩)
          | (go_roundw
             case rel => exact ⟨k + 1, by omega, by go_num, list_eqSlot HT.out HY0.out HY1.out (by obtain ⟨x1, x2⟩ := x; obtain ⟨y1, y2⟩ := y; simp at e1 e2; simp [e1, e2]), H⟩
             case measure => simp [intOf]; omega)
      · have hke : k = s.xs.length := by omega
        subst hke
        have hn0 : t.xs.length ≤ s.xs.length := by rw [HL.out]; exact Nat.le_refl _
        go_wp2
        go_ret
        exact ⟨ret_bool (beq_of_take HL.out HT.out).symm, H.below⟩
  · have l1 : (s.xs.length == t.xs.length) = false := by simp [hl]
    have l2 : (s.xs.length != t.xs.length) = true := by simp [hl]
    have l3 : ((s.xs.length : Int) == (t.xs.length : Int)) = false := by simp; omega
    have l4 : ((s.xs.length : Int) != (t.xs.length : Int)) = true := by simp; omega
    go_enter Tryz.func33, Tryz.ntmps33
    go_wp2
    go_ret
    exact ⟨ret_bool (beq_ne_len hl).symm, Below.refl _ _⟩
set_option maxRecDepth 100000 in
set_option maxHeartbeats 2000000 in
theorem lawInts_c (s t : Sl Int) (w : World) (R0 : Rd icell 1 w s) (R1 : Rd icell 1 w t) (Z : s.xs.length ≤ 4194304) : Calls Tryz.prog 57 #[.slice s.A s.xs.length s.c, .slice t.A t.xs.length t.c] w fun e w' => e = .returned (.bool (s.xs == t.xs)) ∧ Below w.heap.size w w' := by
  by_cases hl : s.xs.length = t.xs.length
  · have l1 : (s.xs.length == t.xs.length) = true := beq_iff_eq.2 hl
    have l2 : (s.xs.length != t.xs.length) = false := by simp [hl]
    have l3 : ((s.xs.length : Int) == (t.xs.length : Int)) = true := by simp [hl]
    have l4 : ((s.xs.length : Int) != (t.xs.length : Int)) = false := by simp [hl]
    have HL := Lib.hid hl; clear hl
    have H := Hp.start w
    go_enter Tryz.func57, Tryz.ntmps57
    go_wp2
    clear l1 l2 l3 l4
    go_loopw [5] (fun i wr => ∃ k : Nat, k ≤ s.xs.length ∧ i = .int .i64 k ∧ s.xs.take k = t.xs.take k ∧ Hp w wr []) (fun i _ => s.xs.length - (intOf i).toNat)
    case atStart => exact ⟨0, by omega, rfl, by simp, H⟩
    case round =>
      clear H
      obtain ⟨k, hk, rfl, ht, H⟩ := hrel
      have HT := Lib.hid ht; clear ht
      by_cases hk0 : k < s.xs.length
      · have hk1 : k < t.xs.length := by rw [← HL.out]; exact hk0
        obtain ⟨x, hx0⟩ : ∃ x, s.xs[k]? = some x := ⟨_, List.getElem?_eq_getElem hk0⟩
        have HY0 := Lib.hid hx0; clear hx0
        obtain ⟨y, hy0⟩ : ∃ y, t.xs[k]? = some y := ⟨_, List.getElem?_eq_getElem hk1⟩
        have HY1 := Lib.hid hy0; clear hy0
        cases e1 : (x == y)
        all_goals
          go_wp2
          refine wp_region_H (by kernel_rfl) (by kernel_rfl) H ?_
          intro C hC1 hC2
          repeat (first
            | go_big_quiet_skip
            | (go_big_quiet_want; (first
              | (refine quiet_index_nat hC1 rfl s R0 rfl rfl hk0 ?_; simp only [put_some, List.set_cons_succ, List.set_cons_zero]; go_big_quiet_on)
              | (refine quiet_index_nat hC1 rfl t R1 rfl rfl hk1 ?_; simp only [put_some, List.set_cons_succ, List.set_cons_zero]; go_big_quiet_on)
              | (refine quiet_load_rd hC1 rfl s R0 rfl x HY0.out rfl ?_; simp only [put_some, List.set_cons_succ, List.set_cons_zero]; go_big_quiet_on)
              | (refine quiet_load_rd hC1 rfl t R1 rfl y HY1.out rfl ?_; simp only [put_some, List.set_cons_succ, List.set_cons_zero]; go_big_quiet_on)
              | (go_big_quiet_op; (first | go_big_quiet_on | (refine ⟨_, fun _ _ => rfl, ?_⟩; go_big_quiet_on))))))
          refine wpQuiet_nil ?_
          clear hC1 hC2
          clear H
          intro w H
          go_wp2
        all_goals first
          | (go_ret; exact ⟨ret_bool (list_neInt HY0.out HY1.out (by intro h; rw [h] at e1; simp at e1)), H.below⟩)
          | (go_roundw
             case rel => exact ⟨k + 1, by omega, by go_num, list_eqInt HT.out HY0.out HY1.out (eq_of_beq e1), H⟩
             case measure => simp [intOf]; omega)
      · have hke : k = s.xs.length := by omega
        subst hke
        have hn0 : t.xs.length ≤ s.xs.length := by rw [HL.out]; exact Nat.le_refl _
        go_wp2
        go_ret
        exact ⟨ret_bool (beq_of_take HL.out HT.out).symm, H.below⟩
  · have l1 : (s.xs.length == t.xs.length) = false := by simp [hl]
    have l2 : (s.xs.length != t.xs.length) = true := by simp [hl]
    have l3 : ((s.xs.length : Int) == (t.xs.length : Int)) = false := by simp; omega
    have l4 : ((s.xs.length : Int) != (t.xs.length : Int)) = true := by simp; omega
    go_enter Tryz.func57, Tryz.ntmps57
    go_wp2
    go_ret
    exact ⟨ret_bool (beq_ne_len hl).symm, Below.refl _ _⟩
set_option maxRecDepth 100000 in
set_option maxHeartbeats 2000000 in
theorem lawGuest_0 (a c : GV) (w : World) (ha : GRd w a) (hb0 : GRd w c) (hz : GBig a) (h1 : (a.prog.xs == c.prog.xs) = false) : Calls Tryz.prog 46 #[a.val, c.val] w fun e w' => e = .returned (.bool (a.m == c.m)) ∧ Below w.heap.size w w' := by
  obtain ⟨Z1, Z2, Z3, Z4⟩ := id hz
  simp only [big] at Z1 Z2 Z3 Z4
  have H := Hp.start w
  go_enter Tryz.func46, Tryz.ntmps46
  simp only [List.append]
  go_wp2_with (first
    | go_skip
    | (refine wpList_box_H rfl rfl H rfl (by constructor) ?_; clear H; intro b w H)
    | (refine wpList_alloc_H rfl rfl H ?_; clear H; intro b w H)
    | (refine wpList_load_H rfl rfl H rfl (by repeat constructor) ?_)
    | (refine wpList_loads_H rfl rfl H rfl (by repeat constructor) ?_)
    | (refine wpList_store_H rfl rfl H rfl rfl (by repeat constructor) ?_; clear H; intro w H)
    | (go_at_call 150; ((with_reducible refine (lawInss_c a.prog c.prog _ (ha.prog.at_ H) (hb0.prog.at_ H) Z1).mono ?_)); rintro e w ⟨he, hb⟩; (try rw [h1] at he); subst he; replace H := H.still hb; clear hb)
    | (go_at_call 33; ((with_reducible refine (lawSlots_c a.written c.written _ (ha.written.at_ H) (hb0.written.at_ H) Z2).mono ?_)); rintro e w ⟨he, hb⟩; subst he; replace H := H.still hb; clear hb)
    | (go_at_call 33; ((with_reducible refine (lawSlots_c a.live c.live _ (ha.live.at_ H) (hb0.live.at_ H) Z3).mono ?_)); rintro e w ⟨he, hb⟩; subst he; replace H := H.still hb; clear hb)
    | (go_at_call 57; ((with_reducible refine (lawInts_c a.seen c.seen _ (ha.seen.at_ H) (hb0.seen.at_ H) Z4).mono ?_)); rintro e w ⟨he, hb⟩; subst he; replace H := H.still hb; clear hb))
  all_goals (go_ret; refine ⟨ret_bool ?_, H.below⟩; clear H; rw [meq, ctl_beq, exit_beq]; simp [h1])
set_option maxRecDepth 100000 in
set_option maxHeartbeats 2000000 in
theorem lawGuest_1 (a c : GV) (w : World) (ha : GRd w a) (hb0 : GRd w c) (hz : GBig a) (h1 : (a.prog.xs == c.prog.xs) = true) (h2 : (a.a == c.a) = false) : Calls Tryz.prog 46 #[a.val, c.val] w fun e w' => e = .returned (.bool (a.m == c.m)) ∧ Below w.heap.size w w' := by
  obtain ⟨Z1, Z2, Z3, Z4⟩ := id hz
  simp only [big] at Z1 Z2 Z3 Z4
  have H := Hp.start w
  go_enter Tryz.func46, Tryz.ntmps46
  simp only [List.append]
  go_wp2_with (first
    | go_skip
    | (refine wpList_box_H rfl rfl H rfl (by constructor) ?_; clear H; intro b w H)
    | (refine wpList_alloc_H rfl rfl H ?_; clear H; intro b w H)
    | (refine wpList_load_H rfl rfl H rfl (by repeat constructor) ?_)
    | (refine wpList_loads_H rfl rfl H rfl (by repeat constructor) ?_)
    | (refine wpList_store_H rfl rfl H rfl rfl (by repeat constructor) ?_; clear H; intro w H)
    | (go_at_call 150; ((with_reducible refine (lawInss_c a.prog c.prog _ (ha.prog.at_ H) (hb0.prog.at_ H) Z1).mono ?_)); rintro e w ⟨he, hb⟩; (try rw [h1] at he); subst he; replace H := H.still hb; clear hb)
    | (go_at_call 33; ((with_reducible refine (lawSlots_c a.written c.written _ (ha.written.at_ H) (hb0.written.at_ H) Z2).mono ?_)); rintro e w ⟨he, hb⟩; subst he; replace H := H.still hb; clear hb)
    | (go_at_call 33; ((with_reducible refine (lawSlots_c a.live c.live _ (ha.live.at_ H) (hb0.live.at_ H) Z3).mono ?_)); rintro e w ⟨he, hb⟩; subst he; replace H := H.still hb; clear hb)
    | (go_at_call 57; ((with_reducible refine (lawInts_c a.seen c.seen _ (ha.seen.at_ H) (hb0.seen.at_ H) Z4).mono ?_)); rintro e w ⟨he, hb⟩; subst he; replace H := H.still hb; clear hb))
  all_goals (go_ret; refine ⟨ret_bool ?_, H.below⟩; clear H; rw [meq, ctl_beq, exit_beq]; simp [h1, h2])
set_option maxRecDepth 100000 in
set_option maxHeartbeats 2000000 in
theorem lawGuest_2 (a c : GV) (w : World) (ha : GRd w a) (hb0 : GRd w c) (hz : GBig a) (h1 : (a.prog.xs == c.prog.xs) = true) (h2 : (a.a == c.a) = true) (h3 : (a.pc == c.pc) = false) : Calls Tryz.prog 46 #[a.val, c.val] w fun e w' => e = .returned (.bool (a.m == c.m)) ∧ Below w.heap.size w w' := by
  obtain ⟨Z1, Z2, Z3, Z4⟩ := id hz
  simp only [big] at Z1 Z2 Z3 Z4
  have H := Hp.start w
  go_enter Tryz.func46, Tryz.ntmps46
  simp only [List.append]
  go_wp2_with (first
    | go_skip
    | (refine wpList_box_H rfl rfl H rfl (by constructor) ?_; clear H; intro b w H)
    | (refine wpList_alloc_H rfl rfl H ?_; clear H; intro b w H)
    | (refine wpList_load_H rfl rfl H rfl (by repeat constructor) ?_)
    | (refine wpList_loads_H rfl rfl H rfl (by repeat constructor) ?_)
    | (refine wpList_store_H rfl rfl H rfl rfl (by repeat constructor) ?_; clear H; intro w H)
    | (go_at_call 150; ((with_reducible refine (lawInss_c a.prog c.prog _ (ha.prog.at_ H) (hb0.prog.at_ H) Z1).mono ?_)); rintro e w ⟨he, hb⟩; (try rw [h1] at he); subst he; replace H := H.still hb; clear hb)
    | (go_at_call 33; ((with_reducible refine (lawSlots_c a.written c.written _ (ha.written.at_ H) (hb0.written.at_ H) Z2).mono ?_)); rintro e w ⟨he, hb⟩; subst he; replace H := H.still hb; clear hb)
    | (go_at_call 33; ((with_reducible refine (lawSlots_c a.live c.live _ (ha.live.at_ H) (hb0.live.at_ H) Z3).mono ?_)); rintro e w ⟨he, hb⟩; subst he; replace H := H.still hb; clear hb)
    | (go_at_call 57; ((with_reducible refine (lawInts_c a.seen c.seen _ (ha.seen.at_ H) (hb0.seen.at_ H) Z4).mono ?_)); rintro e w ⟨he, hb⟩; subst he; replace H := H.still hb; clear hb))
  all_goals (go_ret; refine ⟨ret_bool ?_, H.below⟩; clear H; rw [meq, ctl_beq, exit_beq]; simp [h1, h2, h3])
set_option maxRecDepth 100000 in
set_option maxHeartbeats 2000000 in
theorem lawGuest_3 (a c : GV) (w : World) (ha : GRd w a) (hb0 : GRd w c) (hz : GBig a) (h1 : (a.prog.xs == c.prog.xs) = true) (h2 : (a.a == c.a) = true) (h3 : (a.pc == c.pc) = true) (h4 : (a.written.xs == c.written.xs) = false) : Calls Tryz.prog 46 #[a.val, c.val] w fun e w' => e = .returned (.bool (a.m == c.m)) ∧ Below w.heap.size w w' := by
  obtain ⟨Z1, Z2, Z3, Z4⟩ := id hz
  simp only [big] at Z1 Z2 Z3 Z4
  have H := Hp.start w
  go_enter Tryz.func46, Tryz.ntmps46
  simp only [List.append]
  go_wp2_with (first
    | go_skip
    | (refine wpList_box_H rfl rfl H rfl (by constructor) ?_; clear H; intro b w H)
    | (refine wpList_alloc_H rfl rfl H ?_; clear H; intro b w H)
    | (refine wpList_load_H rfl rfl H rfl (by repeat constructor) ?_)
    | (refine wpList_loads_H rfl rfl H rfl (by repeat constructor) ?_)
    | (refine wpList_store_H rfl rfl H rfl rfl (by repeat constructor) ?_; clear H; intro w H)
    | (go_at_call 150; ((with_reducible refine (lawInss_c a.prog c.prog _ (ha.prog.at_ H) (hb0.prog.at_ H) Z1).mono ?_)); rintro e w ⟨he, hb⟩; (try rw [h1] at he); subst he; replace H := H.still hb; clear hb)
    | (go_at_call 33; ((with_reducible refine (lawSlots_c a.written c.written _ (ha.written.at_ H) (hb0.written.at_ H) Z2).mono ?_)); rintro e w ⟨he, hb⟩; (try rw [h4] at he); subst he; replace H := H.still hb; clear hb)
    | (go_at_call 33; ((with_reducible refine (lawSlots_c a.live c.live _ (ha.live.at_ H) (hb0.live.at_ H) Z3).mono ?_)); rintro e w ⟨he, hb⟩; subst he; replace H := H.still hb; clear hb)
    | (go_at_call 57; ((with_reducible refine (lawInts_c a.seen c.seen _ (ha.seen.at_ H) (hb0.seen.at_ H) Z4).mono ?_)); rintro e w ⟨he, hb⟩; subst he; replace H := H.still hb; clear hb))
  all_goals (go_ret; refine ⟨ret_bool ?_, H.below⟩; clear H; rw [meq, ctl_beq, exit_beq]; simp [h1, h2, h3, h4])
set_option maxRecDepth 100000 in
set_option maxHeartbeats 2000000 in
theorem lawGuest_4 (a c : GV) (w : World) (ha : GRd w a) (hb0 : GRd w c) (hz : GBig a) (h1 : (a.prog.xs == c.prog.xs) = true) (h2 : (a.a == c.a) = true) (h3 : (a.pc == c.pc) = true) (h4 : (a.written.xs == c.written.xs) = true) (h5 : (a.live.xs == c.live.xs) = false) : Calls Tryz.prog 46 #[a.val, c.val] w fun e w' => e = .returned (.bool (a.m == c.m)) ∧ Below w.heap.size w w' := by
  obtain ⟨Z1, Z2, Z3, Z4⟩ := id hz
  simp only [big] at Z1 Z2 Z3 Z4
  have H := Hp.start w
  go_enter Tryz.func46, Tryz.ntmps46
  simp only [List.append]
  go_wp2_with (first
    | go_skip
    | (refine wpList_box_H rfl rfl H rfl (by constructor) ?_; clear H; intro b w H)
    | (refine wpList_alloc_H rfl rfl H ?_; clear H; intro b w H)
    | (refine wpList_load_H rfl rfl H rfl (by repeat constructor) ?_)
    | (refine wpList_loads_H rfl rfl H rfl (by repeat constructor) ?_)
    | (refine wpList_store_H rfl rfl H rfl rfl (by repeat constructor) ?_; clear H; intro w H)
    | (go_at_call 150; ((with_reducible refine (lawInss_c a.prog c.prog _ (ha.prog.at_ H) (hb0.prog.at_ H) Z1).mono ?_)); rintro e w ⟨he, hb⟩; (try rw [h1] at he); subst he; replace H := H.still hb; clear hb)
    | (go_at_call 33; ((with_reducible refine (lawSlots_c a.written c.written _ (ha.written.at_ H) (hb0.written.at_ H) Z2).mono ?_)); rintro e w ⟨he, hb⟩; (try rw [h4] at he); subst he; replace H := H.still hb; clear hb)
    | (go_at_call 33; ((with_reducible refine (lawSlots_c a.live c.live _ (ha.live.at_ H) (hb0.live.at_ H) Z3).mono ?_)); rintro e w ⟨he, hb⟩; (try rw [h5] at he); subst he; replace H := H.still hb; clear hb)
    | (go_at_call 57; ((with_reducible refine (lawInts_c a.seen c.seen _ (ha.seen.at_ H) (hb0.seen.at_ H) Z4).mono ?_)); rintro e w ⟨he, hb⟩; subst he; replace H := H.still hb; clear hb))
  all_goals (go_ret; refine ⟨ret_bool ?_, H.below⟩; clear H; rw [meq, ctl_beq, exit_beq]; simp [h1, h2, h3, h4, h5])
set_option maxRecDepth 100000 in
set_option maxHeartbeats 2000000 in
theorem lawGuest_5 (a c : GV) (w : World) (ha : GRd w a) (hb0 : GRd w c) (hz : GBig a) (h1 : (a.prog.xs == c.prog.xs) = true) (h2 : (a.a == c.a) = true) (h3 : (a.pc == c.pc) = true) (h4 : (a.written.xs == c.written.xs) = true) (h5 : (a.live.xs == c.live.xs) = true) (h6 : (a.ctl.traps == c.ctl.traps) = false) : Calls Tryz.prog 46 #[a.val, c.val] w fun e w' => e = .returned (.bool (a.m == c.m)) ∧ Below w.heap.size w w' := by
  obtain ⟨Z1, Z2, Z3, Z4⟩ := id hz
  simp only [big] at Z1 Z2 Z3 Z4
  have H := Hp.start w
  go_enter Tryz.func46, Tryz.ntmps46
  simp only [List.append]
  go_wp2_with (first
    | go_skip
    | (refine wpList_box_H rfl rfl H rfl (by constructor) ?_; clear H; intro b w H)
    | (refine wpList_alloc_H rfl rfl H ?_; clear H; intro b w H)
    | (refine wpList_load_H rfl rfl H rfl (by repeat constructor) ?_)
    | (refine wpList_loads_H rfl rfl H rfl (by repeat constructor) ?_)
    | (refine wpList_store_H rfl rfl H rfl rfl (by repeat constructor) ?_; clear H; intro w H)
    | (go_at_call 150; ((with_reducible refine (lawInss_c a.prog c.prog _ (ha.prog.at_ H) (hb0.prog.at_ H) Z1).mono ?_)); rintro e w ⟨he, hb⟩; (try rw [h1] at he); subst he; replace H := H.still hb; clear hb)
    | (go_at_call 33; ((with_reducible refine (lawSlots_c a.written c.written _ (ha.written.at_ H) (hb0.written.at_ H) Z2).mono ?_)); rintro e w ⟨he, hb⟩; (try rw [h4] at he); subst he; replace H := H.still hb; clear hb)
    | (go_at_call 33; ((with_reducible refine (lawSlots_c a.live c.live _ (ha.live.at_ H) (hb0.live.at_ H) Z3).mono ?_)); rintro e w ⟨he, hb⟩; (try rw [h5] at he); subst he; replace H := H.still hb; clear hb)
    | (go_at_call 57; ((with_reducible refine (lawInts_c a.seen c.seen _ (ha.seen.at_ H) (hb0.seen.at_ H) Z4).mono ?_)); rintro e w ⟨he, hb⟩; subst he; replace H := H.still hb; clear hb))
  all_goals (go_ret; refine ⟨ret_bool ?_, H.below⟩; clear H; rw [meq, ctl_beq, exit_beq]; simp [h1, h2, h3, h4, h5, h6])
set_option maxRecDepth 100000 in
set_option maxHeartbeats 2000000 in
theorem lawGuest_6 (a c : GV) (w : World) (ha : GRd w a) (hb0 : GRd w c) (hz : GBig a) (h1 : (a.prog.xs == c.prog.xs) = true) (h2 : (a.a == c.a) = true) (h3 : (a.pc == c.pc) = true) (h4 : (a.written.xs == c.written.xs) = true) (h5 : (a.live.xs == c.live.xs) = true) (h6 : (a.ctl.traps == c.ctl.traps) = true) (h7 : (a.ctl.post == c.ctl.post) = false) : Calls Tryz.prog 46 #[a.val, c.val] w fun e w' => e = .returned (.bool (a.m == c.m)) ∧ Below w.heap.size w w' := by
  obtain ⟨Z1, Z2, Z3, Z4⟩ := id hz
  simp only [big] at Z1 Z2 Z3 Z4
  have H := Hp.start w
  go_enter Tryz.func46, Tryz.ntmps46
  simp only [List.append]
  go_wp2_with (first
    | go_skip
    | (refine wpList_box_H rfl rfl H rfl (by constructor) ?_; clear H; intro b w H)
    | (refine wpList_alloc_H rfl rfl H ?_; clear H; intro b w H)
    | (refine wpList_load_H rfl rfl H rfl (by repeat constructor) ?_)
    | (refine wpList_loads_H rfl rfl H rfl (by repeat constructor) ?_)
    | (refine wpList_store_H rfl rfl H rfl rfl (by repeat constructor) ?_; clear H; intro w H)
    | (go_at_call 150; ((with_reducible refine (lawInss_c a.prog c.prog _ (ha.prog.at_ H) (hb0.prog.at_ H) Z1).mono ?_)); rintro e w ⟨he, hb⟩; (try rw [h1] at he); subst he; replace H := H.still hb; clear hb)
    | (go_at_call 33; ((with_reducible refine (lawSlots_c a.written c.written _ (ha.written.at_ H) (hb0.written.at_ H) Z2).mono ?_)); rintro e w ⟨he, hb⟩; (try rw [h4] at he); subst he; replace H := H.still hb; clear hb)
    | (go_at_call 33; ((with_reducible refine (lawSlots_c a.live c.live _ (ha.live.at_ H) (hb0.live.at_ H) Z3).mono ?_)); rintro e w ⟨he, hb⟩; (try rw [h5] at he); subst he; replace H := H.still hb; clear hb)
    | (go_at_call 57; ((with_reducible refine (lawInts_c a.seen c.seen _ (ha.seen.at_ H) (hb0.seen.at_ H) Z4).mono ?_)); rintro e w ⟨he, hb⟩; subst he; replace H := H.still hb; clear hb))
  all_goals (go_ret; refine ⟨ret_bool ?_, H.below⟩; clear H; rw [meq, ctl_beq, exit_beq]; simp [h1, h2, h3, h4, h5, h6, h7])
set_option maxRecDepth 100000 in
set_option maxHeartbeats 2000000 in
theorem lawGuest_7 (a c : GV) (w : World) (ha : GRd w a) (hb0 : GRd w c) (hz : GBig a) (h1 : (a.prog.xs == c.prog.xs) = true) (h2 : (a.a == c.a) = true) (h3 : (a.pc == c.pc) = true) (h4 : (a.written.xs == c.written.xs) = true) (h5 : (a.live.xs == c.live.xs) = true) (h6 : (a.ctl.traps == c.ctl.traps) = true) (h7 : (a.ctl.post == c.ctl.post) = true) (h8 : (a.ctl.opn == c.ctl.opn) = false) : Calls Tryz.prog 46 #[a.val, c.val] w fun e w' => e = .returned (.bool (a.m == c.m)) ∧ Below w.heap.size w w' := by
  obtain ⟨Z1, Z2, Z3, Z4⟩ := id hz
  simp only [big] at Z1 Z2 Z3 Z4
  have H := Hp.start w
  go_enter Tryz.func46, Tryz.ntmps46
  simp only [List.append]
  go_wp2_with (first
    | go_skip
    | (refine wpList_box_H rfl rfl H rfl (by constructor) ?_; clear H; intro b w H)
    | (refine wpList_alloc_H rfl rfl H ?_; clear H; intro b w H)
    | (refine wpList_load_H rfl rfl H rfl (by repeat constructor) ?_)
    | (refine wpList_loads_H rfl rfl H rfl (by repeat constructor) ?_)
    | (refine wpList_store_H rfl rfl H rfl rfl (by repeat constructor) ?_; clear H; intro w H)
    | (go_at_call 150; ((with_reducible refine (lawInss_c a.prog c.prog _ (ha.prog.at_ H) (hb0.prog.at_ H) Z1).mono ?_)); rintro e w ⟨he, hb⟩; (try rw [h1] at he); subst he; replace H := H.still hb; clear hb)
    | (go_at_call 33; ((with_reducible refine (lawSlots_c a.written c.written _ (ha.written.at_ H) (hb0.written.at_ H) Z2).mono ?_)); rintro e w ⟨he, hb⟩; (try rw [h4] at he); subst he; replace H := H.still hb; clear hb)
    | (go_at_call 33; ((with_reducible refine (lawSlots_c a.live c.live _ (ha.live.at_ H) (hb0.live.at_ H) Z3).mono ?_)); rintro e w ⟨he, hb⟩; (try rw [h5] at he); subst he; replace H := H.still hb; clear hb)
    | (go_at_call 57; ((with_reducible refine (lawInts_c a.seen c.seen _ (ha.seen.at_ H) (hb0.seen.at_ H) Z4).mono ?_)); rintro e w ⟨he, hb⟩; subst he; replace H := H.still hb; clear hb))
  all_goals (go_ret; refine ⟨ret_bool ?_, H.below⟩; clear H; rw [meq, ctl_beq, exit_beq]; simp [h1, h2, h3, h4, h5, h6, h7, h8])
set_option maxRecDepth 100000 in
set_option maxHeartbeats 2000000 in
theorem lawGuest_8 (a c : GV) (w : World) (ha : GRd w a) (hb0 : GRd w c) (hz : GBig a) (h1 : (a.prog.xs == c.prog.xs) = true) (h2 : (a.a == c.a) = true) (h3 : (a.pc == c.pc) = true) (h4 : (a.written.xs == c.written.xs) = true) (h5 : (a.live.xs == c.live.xs) = true) (h6 : (a.ctl.traps == c.ctl.traps) = true) (h7 : (a.ctl.post == c.ctl.post) = true) (h8 : (a.ctl.opn == c.ctl.opn) = true) (h9 : (a.pending == c.pending) = false) : Calls Tryz.prog 46 #[a.val, c.val] w fun e w' => e = .returned (.bool (a.m == c.m)) ∧ Below w.heap.size w w' := by
  obtain ⟨Z1, Z2, Z3, Z4⟩ := id hz
  simp only [big] at Z1 Z2 Z3 Z4
  have H := Hp.start w
  go_enter Tryz.func46, Tryz.ntmps46
  simp only [List.append]
  go_wp2_with (first
    | go_skip
    | (refine wpList_box_H rfl rfl H rfl (by constructor) ?_; clear H; intro b w H)
    | (refine wpList_alloc_H rfl rfl H ?_; clear H; intro b w H)
    | (refine wpList_load_H rfl rfl H rfl (by repeat constructor) ?_)
    | (refine wpList_loads_H rfl rfl H rfl (by repeat constructor) ?_)
    | (refine wpList_store_H rfl rfl H rfl rfl (by repeat constructor) ?_; clear H; intro w H)
    | (go_at_call 150; ((with_reducible refine (lawInss_c a.prog c.prog _ (ha.prog.at_ H) (hb0.prog.at_ H) Z1).mono ?_)); rintro e w ⟨he, hb⟩; (try rw [h1] at he); subst he; replace H := H.still hb; clear hb)
    | (go_at_call 33; ((with_reducible refine (lawSlots_c a.written c.written _ (ha.written.at_ H) (hb0.written.at_ H) Z2).mono ?_)); rintro e w ⟨he, hb⟩; (try rw [h4] at he); subst he; replace H := H.still hb; clear hb)
    | (go_at_call 33; ((with_reducible refine (lawSlots_c a.live c.live _ (ha.live.at_ H) (hb0.live.at_ H) Z3).mono ?_)); rintro e w ⟨he, hb⟩; (try rw [h5] at he); subst he; replace H := H.still hb; clear hb)
    | (go_at_call 57; ((with_reducible refine (lawInts_c a.seen c.seen _ (ha.seen.at_ H) (hb0.seen.at_ H) Z4).mono ?_)); rintro e w ⟨he, hb⟩; subst he; replace H := H.still hb; clear hb))
  all_goals (go_ret; refine ⟨ret_bool ?_, H.below⟩; clear H; rw [meq, ctl_beq, exit_beq]; simp [h1, h2, h3, h4, h5, h6, h7, h8, h9])
set_option maxRecDepth 100000 in
set_option maxHeartbeats 2000000 in
theorem lawGuest_9 (a c : GV) (w : World) (ha : GRd w a) (hb0 : GRd w c) (hz : GBig a) (h1 : (a.prog.xs == c.prog.xs) = true) (h2 : (a.a == c.a) = true) (h3 : (a.pc == c.pc) = true) (h4 : (a.written.xs == c.written.xs) = true) (h5 : (a.live.xs == c.live.xs) = true) (h6 : (a.ctl.traps == c.ctl.traps) = true) (h7 : (a.ctl.post == c.ctl.post) = true) (h8 : (a.ctl.opn == c.ctl.opn) = true) (h9 : (a.pending == c.pending) = true) (h10 : (a.exit.kind == c.exit.kind) = false) : Calls Tryz.prog 46 #[a.val, c.val] w fun e w' => e = .returned (.bool (a.m == c.m)) ∧ Below w.heap.size w w' := by
  obtain ⟨Z1, Z2, Z3, Z4⟩ := id hz
  simp only [big] at Z1 Z2 Z3 Z4
  have H := Hp.start w
  go_enter Tryz.func46, Tryz.ntmps46
  simp only [List.append]
  go_wp2_with (first
    | go_skip
    | (refine wpList_box_H rfl rfl H rfl (by constructor) ?_; clear H; intro b w H)
    | (refine wpList_alloc_H rfl rfl H ?_; clear H; intro b w H)
    | (refine wpList_load_H rfl rfl H rfl (by repeat constructor) ?_)
    | (refine wpList_loads_H rfl rfl H rfl (by repeat constructor) ?_)
    | (refine wpList_store_H rfl rfl H rfl rfl (by repeat constructor) ?_; clear H; intro w H)
    | (go_at_call 150; ((with_reducible refine (lawInss_c a.prog c.prog _ (ha.prog.at_ H) (hb0.prog.at_ H) Z1).mono ?_)); rintro e w ⟨he, hb⟩; (try rw [h1] at he); subst he; replace H := H.still hb; clear hb)
    | (go_at_call 33; ((with_reducible refine (lawSlots_c a.written c.written _ (ha.written.at_ H) (hb0.written.at_ H) Z2).mono ?_)); rintro e w ⟨he, hb⟩; (try rw [h4] at he); subst he; replace H := H.still hb; clear hb)
    | (go_at_call 33; ((with_reducible refine (lawSlots_c a.live c.live _ (ha.live.at_ H) (hb0.live.at_ H) Z3).mono ?_)); rintro e w ⟨he, hb⟩; (try rw [h5] at he); subst he; replace H := H.still hb; clear hb)
    | (go_at_call 57; ((with_reducible refine (lawInts_c a.seen c.seen _ (ha.seen.at_ H) (hb0.seen.at_ H) Z4).mono ?_)); rintro e w ⟨he, hb⟩; subst he; replace H := H.still hb; clear hb))
  all_goals (go_ret; refine ⟨ret_bool ?_, H.below⟩; clear H; rw [meq, ctl_beq, exit_beq]; simp [h1, h2, h3, h4, h5, h6, h7, h8, h9, h10])
set_option maxRecDepth 100000 in
set_option maxHeartbeats 2000000 in
theorem lawGuest_10 (a c : GV) (w : World) (ha : GRd w a) (hb0 : GRd w c) (hz : GBig a) (h1 : (a.prog.xs == c.prog.xs) = true) (h2 : (a.a == c.a) = true) (h3 : (a.pc == c.pc) = true) (h4 : (a.written.xs == c.written.xs) = true) (h5 : (a.live.xs == c.live.xs) = true) (h6 : (a.ctl.traps == c.ctl.traps) = true) (h7 : (a.ctl.post == c.ctl.post) = true) (h8 : (a.ctl.opn == c.ctl.opn) = true) (h9 : (a.pending == c.pending) = true) (h10 : (a.exit.kind == c.exit.kind) = true) (h11 : (a.exit.page == c.exit.page) = false) : Calls Tryz.prog 46 #[a.val, c.val] w fun e w' => e = .returned (.bool (a.m == c.m)) ∧ Below w.heap.size w w' := by
  obtain ⟨Z1, Z2, Z3, Z4⟩ := id hz
  simp only [big] at Z1 Z2 Z3 Z4
  have H := Hp.start w
  go_enter Tryz.func46, Tryz.ntmps46
  simp only [List.append]
  go_wp2_with (first
    | go_skip
    | (refine wpList_box_H rfl rfl H rfl (by constructor) ?_; clear H; intro b w H)
    | (refine wpList_alloc_H rfl rfl H ?_; clear H; intro b w H)
    | (refine wpList_load_H rfl rfl H rfl (by repeat constructor) ?_)
    | (refine wpList_loads_H rfl rfl H rfl (by repeat constructor) ?_)
    | (refine wpList_store_H rfl rfl H rfl rfl (by repeat constructor) ?_; clear H; intro w H)
    | (go_at_call 150; ((with_reducible refine (lawInss_c a.prog c.prog _ (ha.prog.at_ H) (hb0.prog.at_ H) Z1).mono ?_)); rintro e w ⟨he, hb⟩; (try rw [h1] at he); subst he; replace H := H.still hb; clear hb)
    | (go_at_call 33; ((with_reducible refine (lawSlots_c a.written c.written _ (ha.written.at_ H) (hb0.written.at_ H) Z2).mono ?_)); rintro e w ⟨he, hb⟩; (try rw [h4] at he); subst he; replace H := H.still hb; clear hb)
    | (go_at_call 33; ((with_reducible refine (lawSlots_c a.live c.live _ (ha.live.at_ H) (hb0.live.at_ H) Z3).mono ?_)); rintro e w ⟨he, hb⟩; (try rw [h5] at he); subst he; replace H := H.still hb; clear hb)
    | (go_at_call 57; ((with_reducible refine (lawInts_c a.seen c.seen _ (ha.seen.at_ H) (hb0.seen.at_ H) Z4).mono ?_)); rintro e w ⟨he, hb⟩; subst he; replace H := H.still hb; clear hb))
  all_goals (go_ret; refine ⟨ret_bool ?_, H.below⟩; clear H; rw [meq, ctl_beq, exit_beq]; simp [h1, h2, h3, h4, h5, h6, h7, h8, h9, h10, h11])
set_option maxRecDepth 100000 in
set_option maxHeartbeats 2000000 in
theorem lawGuest_11 (a c : GV) (w : World) (ha : GRd w a) (hb0 : GRd w c) (hz : GBig a) (h1 : (a.prog.xs == c.prog.xs) = true) (h2 : (a.a == c.a) = true) (h3 : (a.pc == c.pc) = true) (h4 : (a.written.xs == c.written.xs) = true) (h5 : (a.live.xs == c.live.xs) = true) (h6 : (a.ctl.traps == c.ctl.traps) = true) (h7 : (a.ctl.post == c.ctl.post) = true) (h8 : (a.ctl.opn == c.ctl.opn) = true) (h9 : (a.pending == c.pending) = true) (h10 : (a.exit.kind == c.exit.kind) = true) (h11 : (a.exit.page == c.exit.page) = true) (h12 : (a.exit.write == c.exit.write) = false) : Calls Tryz.prog 46 #[a.val, c.val] w fun e w' => e = .returned (.bool (a.m == c.m)) ∧ Below w.heap.size w w' := by
  obtain ⟨Z1, Z2, Z3, Z4⟩ := id hz
  simp only [big] at Z1 Z2 Z3 Z4
  have H := Hp.start w
  go_enter Tryz.func46, Tryz.ntmps46
  simp only [List.append]
  go_wp2_with (first
    | go_skip
    | (refine wpList_box_H rfl rfl H rfl (by constructor) ?_; clear H; intro b w H)
    | (refine wpList_alloc_H rfl rfl H ?_; clear H; intro b w H)
    | (refine wpList_load_H rfl rfl H rfl (by repeat constructor) ?_)
    | (refine wpList_loads_H rfl rfl H rfl (by repeat constructor) ?_)
    | (refine wpList_store_H rfl rfl H rfl rfl (by repeat constructor) ?_; clear H; intro w H)
    | (go_at_call 150; ((with_reducible refine (lawInss_c a.prog c.prog _ (ha.prog.at_ H) (hb0.prog.at_ H) Z1).mono ?_)); rintro e w ⟨he, hb⟩; (try rw [h1] at he); subst he; replace H := H.still hb; clear hb)
    | (go_at_call 33; ((with_reducible refine (lawSlots_c a.written c.written _ (ha.written.at_ H) (hb0.written.at_ H) Z2).mono ?_)); rintro e w ⟨he, hb⟩; (try rw [h4] at he); subst he; replace H := H.still hb; clear hb)
    | (go_at_call 33; ((with_reducible refine (lawSlots_c a.live c.live _ (ha.live.at_ H) (hb0.live.at_ H) Z3).mono ?_)); rintro e w ⟨he, hb⟩; (try rw [h5] at he); subst he; replace H := H.still hb; clear hb)
    | (go_at_call 57; ((with_reducible refine (lawInts_c a.seen c.seen _ (ha.seen.at_ H) (hb0.seen.at_ H) Z4).mono ?_)); rintro e w ⟨he, hb⟩; subst he; replace H := H.still hb; clear hb))
  all_goals (go_ret; refine ⟨ret_bool ?_, H.below⟩; clear H; rw [meq, ctl_beq, exit_beq]; simp [h1, h2, h3, h4, h5, h6, h7, h8, h9, h10, h11, h12])
set_option maxRecDepth 100000 in
set_option maxHeartbeats 2000000 in
theorem lawGuest_12 (a c : GV) (w : World) (ha : GRd w a) (hb0 : GRd w c) (hz : GBig a) (h1 : (a.prog.xs == c.prog.xs) = true) (h2 : (a.a == c.a) = true) (h3 : (a.pc == c.pc) = true) (h4 : (a.written.xs == c.written.xs) = true) (h5 : (a.live.xs == c.live.xs) = true) (h6 : (a.ctl.traps == c.ctl.traps) = true) (h7 : (a.ctl.post == c.ctl.post) = true) (h8 : (a.ctl.opn == c.ctl.opn) = true) (h9 : (a.pending == c.pending) = true) (h10 : (a.exit.kind == c.exit.kind) = true) (h11 : (a.exit.page == c.exit.page) = true) (h12 : (a.exit.write == c.exit.write) = true) (h13 : (a.exit.n == c.exit.n) = false) : Calls Tryz.prog 46 #[a.val, c.val] w fun e w' => e = .returned (.bool (a.m == c.m)) ∧ Below w.heap.size w w' := by
  obtain ⟨Z1, Z2, Z3, Z4⟩ := id hz
  simp only [big] at Z1 Z2 Z3 Z4
  have H := Hp.start w
  go_enter Tryz.func46, Tryz.ntmps46
  simp only [List.append]
  go_wp2_with (first
    | go_skip
    | (refine wpList_box_H rfl rfl H rfl (by constructor) ?_; clear H; intro b w H)
    | (refine wpList_alloc_H rfl rfl H ?_; clear H; intro b w H)
    | (refine wpList_load_H rfl rfl H rfl (by repeat constructor) ?_)
    | (refine wpList_loads_H rfl rfl H rfl (by repeat constructor) ?_)
    | (refine wpList_store_H rfl rfl H rfl rfl (by repeat constructor) ?_; clear H; intro w H)
    | (go_at_call 150; ((with_reducible refine (lawInss_c a.prog c.prog _ (ha.prog.at_ H) (hb0.prog.at_ H) Z1).mono ?_)); rintro e w ⟨he, hb⟩; (try rw [h1] at he); subst he; replace H := H.still hb; clear hb)
    | (go_at_call 33; ((with_reducible refine (lawSlots_c a.written c.written _ (ha.written.at_ H) (hb0.written.at_ H) Z2).mono ?_)); rintro e w ⟨he, hb⟩; (try rw [h4] at he); subst he; replace H := H.still hb; clear hb)
    | (go_at_call 33; ((with_reducible refine (lawSlots_c a.live c.live _ (ha.live.at_ H) (hb0.live.at_ H) Z3).mono ?_)); rintro e w ⟨he, hb⟩; (try rw [h5] at he); subst he; replace H := H.still hb; clear hb)
    | (go_at_call 57; ((with_reducible refine (lawInts_c a.seen c.seen _ (ha.seen.at_ H) (hb0.seen.at_ H) Z4).mono ?_)); rintro e w ⟨he, hb⟩; subst he; replace H := H.still hb; clear hb))
  all_goals (go_ret; refine ⟨ret_bool ?_, H.below⟩; clear H; rw [meq, ctl_beq, exit_beq]; simp [h1, h2, h3, h4, h5, h6, h7, h8, h9, h10, h11, h12, h13])
set_option maxRecDepth 100000 in
set_option maxHeartbeats 2000000 in
theorem lawGuest_13 (a c : GV) (w : World) (ha : GRd w a) (hb0 : GRd w c) (hz : GBig a) (h1 : (a.prog.xs == c.prog.xs) = true) (h2 : (a.a == c.a) = true) (h3 : (a.pc == c.pc) = true) (h4 : (a.written.xs == c.written.xs) = true) (h5 : (a.live.xs == c.live.xs) = true) (h6 : (a.ctl.traps == c.ctl.traps) = true) (h7 : (a.ctl.post == c.ctl.post) = true) (h8 : (a.ctl.opn == c.ctl.opn) = true) (h9 : (a.pending == c.pending) = true) (h10 : (a.exit.kind == c.exit.kind) = true) (h11 : (a.exit.page == c.exit.page) = true) (h12 : (a.exit.write == c.exit.write) = true) (h13 : (a.exit.n == c.exit.n) = true) (h14 : (a.halted == c.halted) = false) : Calls Tryz.prog 46 #[a.val, c.val] w fun e w' => e = .returned (.bool (a.m == c.m)) ∧ Below w.heap.size w w' := by
  obtain ⟨Z1, Z2, Z3, Z4⟩ := id hz
  simp only [big] at Z1 Z2 Z3 Z4
  have H := Hp.start w
  go_enter Tryz.func46, Tryz.ntmps46
  simp only [List.append]
  go_wp2_with (first
    | go_skip
    | (refine wpList_box_H rfl rfl H rfl (by constructor) ?_; clear H; intro b w H)
    | (refine wpList_alloc_H rfl rfl H ?_; clear H; intro b w H)
    | (refine wpList_load_H rfl rfl H rfl (by repeat constructor) ?_)
    | (refine wpList_loads_H rfl rfl H rfl (by repeat constructor) ?_)
    | (refine wpList_store_H rfl rfl H rfl rfl (by repeat constructor) ?_; clear H; intro w H)
    | (go_at_call 150; ((with_reducible refine (lawInss_c a.prog c.prog _ (ha.prog.at_ H) (hb0.prog.at_ H) Z1).mono ?_)); rintro e w ⟨he, hb⟩; (try rw [h1] at he); subst he; replace H := H.still hb; clear hb)
    | (go_at_call 33; ((with_reducible refine (lawSlots_c a.written c.written _ (ha.written.at_ H) (hb0.written.at_ H) Z2).mono ?_)); rintro e w ⟨he, hb⟩; (try rw [h4] at he); subst he; replace H := H.still hb; clear hb)
    | (go_at_call 33; ((with_reducible refine (lawSlots_c a.live c.live _ (ha.live.at_ H) (hb0.live.at_ H) Z3).mono ?_)); rintro e w ⟨he, hb⟩; (try rw [h5] at he); subst he; replace H := H.still hb; clear hb)
    | (go_at_call 57; ((with_reducible refine (lawInts_c a.seen c.seen _ (ha.seen.at_ H) (hb0.seen.at_ H) Z4).mono ?_)); rintro e w ⟨he, hb⟩; subst he; replace H := H.still hb; clear hb))
  all_goals (go_ret; refine ⟨ret_bool ?_, H.below⟩; clear H; rw [meq, ctl_beq, exit_beq]; simp [h1, h2, h3, h4, h5, h6, h7, h8, h9, h10, h11, h12, h13, h14])
set_option maxRecDepth 100000 in
set_option maxHeartbeats 2000000 in
theorem lawGuest_14 (a c : GV) (w : World) (ha : GRd w a) (hb0 : GRd w c) (hz : GBig a) (h1 : (a.prog.xs == c.prog.xs) = true) (h2 : (a.a == c.a) = true) (h3 : (a.pc == c.pc) = true) (h4 : (a.written.xs == c.written.xs) = true) (h5 : (a.live.xs == c.live.xs) = true) (h6 : (a.ctl.traps == c.ctl.traps) = true) (h7 : (a.ctl.post == c.ctl.post) = true) (h8 : (a.ctl.opn == c.ctl.opn) = true) (h9 : (a.pending == c.pending) = true) (h10 : (a.exit.kind == c.exit.kind) = true) (h11 : (a.exit.page == c.exit.page) = true) (h12 : (a.exit.write == c.exit.write) = true) (h13 : (a.exit.n == c.exit.n) = true) (h14 : (a.halted == c.halted) = true) (h15 : (a.seen.xs == c.seen.xs) = false) : Calls Tryz.prog 46 #[a.val, c.val] w fun e w' => e = .returned (.bool (a.m == c.m)) ∧ Below w.heap.size w w' := by
  obtain ⟨Z1, Z2, Z3, Z4⟩ := id hz
  simp only [big] at Z1 Z2 Z3 Z4
  have H := Hp.start w
  go_enter Tryz.func46, Tryz.ntmps46
  simp only [List.append]
  go_wp2_with (first
    | go_skip
    | (refine wpList_box_H rfl rfl H rfl (by constructor) ?_; clear H; intro b w H)
    | (refine wpList_alloc_H rfl rfl H ?_; clear H; intro b w H)
    | (refine wpList_load_H rfl rfl H rfl (by repeat constructor) ?_)
    | (refine wpList_loads_H rfl rfl H rfl (by repeat constructor) ?_)
    | (refine wpList_store_H rfl rfl H rfl rfl (by repeat constructor) ?_; clear H; intro w H)
    | (go_at_call 150; ((with_reducible refine (lawInss_c a.prog c.prog _ (ha.prog.at_ H) (hb0.prog.at_ H) Z1).mono ?_)); rintro e w ⟨he, hb⟩; (try rw [h1] at he); subst he; replace H := H.still hb; clear hb)
    | (go_at_call 33; ((with_reducible refine (lawSlots_c a.written c.written _ (ha.written.at_ H) (hb0.written.at_ H) Z2).mono ?_)); rintro e w ⟨he, hb⟩; (try rw [h4] at he); subst he; replace H := H.still hb; clear hb)
    | (go_at_call 33; ((with_reducible refine (lawSlots_c a.live c.live _ (ha.live.at_ H) (hb0.live.at_ H) Z3).mono ?_)); rintro e w ⟨he, hb⟩; (try rw [h5] at he); subst he; replace H := H.still hb; clear hb)
    | (go_at_call 57; ((with_reducible refine (lawInts_c a.seen c.seen _ (ha.seen.at_ H) (hb0.seen.at_ H) Z4).mono ?_)); rintro e w ⟨he, hb⟩; (try rw [h15] at he); subst he; replace H := H.still hb; clear hb))
  all_goals (go_ret; refine ⟨ret_bool ?_, H.below⟩; clear H; rw [meq, ctl_beq, exit_beq]; simp [h1, h2, h3, h4, h5, h6, h7, h8, h9, h10, h11, h12, h13, h14, h15])
set_option maxRecDepth 100000 in
set_option maxHeartbeats 2000000 in
theorem lawGuest_15 (a c : GV) (w : World) (ha : GRd w a) (hb0 : GRd w c) (hz : GBig a) (h1 : (a.prog.xs == c.prog.xs) = true) (h2 : (a.a == c.a) = true) (h3 : (a.pc == c.pc) = true) (h4 : (a.written.xs == c.written.xs) = true) (h5 : (a.live.xs == c.live.xs) = true) (h6 : (a.ctl.traps == c.ctl.traps) = true) (h7 : (a.ctl.post == c.ctl.post) = true) (h8 : (a.ctl.opn == c.ctl.opn) = true) (h9 : (a.pending == c.pending) = true) (h10 : (a.exit.kind == c.exit.kind) = true) (h11 : (a.exit.page == c.exit.page) = true) (h12 : (a.exit.write == c.exit.write) = true) (h13 : (a.exit.n == c.exit.n) = true) (h14 : (a.halted == c.halted) = true) (h15 : (a.seen.xs == c.seen.xs) = true) : Calls Tryz.prog 46 #[a.val, c.val] w fun e w' => e = .returned (.bool (a.m == c.m)) ∧ Below w.heap.size w w' := by
  obtain ⟨Z1, Z2, Z3, Z4⟩ := id hz
  simp only [big] at Z1 Z2 Z3 Z4
  have H := Hp.start w
  go_enter Tryz.func46, Tryz.ntmps46
  simp only [List.append]
  go_wp2_with (first
    | go_skip
    | (refine wpList_box_H rfl rfl H rfl (by constructor) ?_; clear H; intro b w H)
    | (refine wpList_alloc_H rfl rfl H ?_; clear H; intro b w H)
    | (refine wpList_load_H rfl rfl H rfl (by repeat constructor) ?_)
    | (refine wpList_loads_H rfl rfl H rfl (by repeat constructor) ?_)
    | (refine wpList_store_H rfl rfl H rfl rfl (by repeat constructor) ?_; clear H; intro w H)
    | (go_at_call 150; ((with_reducible refine (lawInss_c a.prog c.prog _ (ha.prog.at_ H) (hb0.prog.at_ H) Z1).mono ?_)); rintro e w ⟨he, hb⟩; (try rw [h1] at he); subst he; replace H := H.still hb; clear hb)
    | (go_at_call 33; ((with_reducible refine (lawSlots_c a.written c.written _ (ha.written.at_ H) (hb0.written.at_ H) Z2).mono ?_)); rintro e w ⟨he, hb⟩; (try rw [h4] at he); subst he; replace H := H.still hb; clear hb)
    | (go_at_call 33; ((with_reducible refine (lawSlots_c a.live c.live _ (ha.live.at_ H) (hb0.live.at_ H) Z3).mono ?_)); rintro e w ⟨he, hb⟩; (try rw [h5] at he); subst he; replace H := H.still hb; clear hb)
    | (go_at_call 57; ((with_reducible refine (lawInts_c a.seen c.seen _ (ha.seen.at_ H) (hb0.seen.at_ H) Z4).mono ?_)); rintro e w ⟨he, hb⟩; (try rw [h15] at he); subst he; replace H := H.still hb; clear hb))
  all_goals (go_ret; refine ⟨ret_bool ?_, H.below⟩; clear H; rw [meq, ctl_beq, exit_beq]; simp [h1, h2, h3, h4, h5, h6, h7, h8, h9, h10, h11, h12, h13, h14, h15])
theorem lawGuest_any (a c : GV) (w : World) (ha : GRd w a) (hb0 : GRd w c) (hz : GBig a) : Calls Tryz.prog 46 #[a.val, c.val] w fun e w' => e = .returned (.bool (a.m == c.m)) ∧ Below w.heap.size w w' := by
  cases h1 : (a.prog.xs == c.prog.xs)
  · exact lawGuest_0 a c w ha hb0 hz h1
  cases h2 : (a.a == c.a)
  · exact lawGuest_1 a c w ha hb0 hz h1 h2
  cases h3 : (a.pc == c.pc)
  · exact lawGuest_2 a c w ha hb0 hz h1 h2 h3
  cases h4 : (a.written.xs == c.written.xs)
  · exact lawGuest_3 a c w ha hb0 hz h1 h2 h3 h4
  cases h5 : (a.live.xs == c.live.xs)
  · exact lawGuest_4 a c w ha hb0 hz h1 h2 h3 h4 h5
  cases h6 : (a.ctl.traps == c.ctl.traps)
  · exact lawGuest_5 a c w ha hb0 hz h1 h2 h3 h4 h5 h6
  cases h7 : (a.ctl.post == c.ctl.post)
  · exact lawGuest_6 a c w ha hb0 hz h1 h2 h3 h4 h5 h6 h7
  cases h8 : (a.ctl.opn == c.ctl.opn)
  · exact lawGuest_7 a c w ha hb0 hz h1 h2 h3 h4 h5 h6 h7 h8
  cases h9 : (a.pending == c.pending)
  · exact lawGuest_8 a c w ha hb0 hz h1 h2 h3 h4 h5 h6 h7 h8 h9
  cases h10 : (a.exit.kind == c.exit.kind)
  · exact lawGuest_9 a c w ha hb0 hz h1 h2 h3 h4 h5 h6 h7 h8 h9 h10
  cases h11 : (a.exit.page == c.exit.page)
  · exact lawGuest_10 a c w ha hb0 hz h1 h2 h3 h4 h5 h6 h7 h8 h9 h10 h11
  cases h12 : (a.exit.write == c.exit.write)
  · exact lawGuest_11 a c w ha hb0 hz h1 h2 h3 h4 h5 h6 h7 h8 h9 h10 h11 h12
  cases h13 : (a.exit.n == c.exit.n)
  · exact lawGuest_12 a c w ha hb0 hz h1 h2 h3 h4 h5 h6 h7 h8 h9 h10 h11 h12 h13
  cases h14 : (a.halted == c.halted)
  · exact lawGuest_13 a c w ha hb0 hz h1 h2 h3 h4 h5 h6 h7 h8 h9 h10 h11 h12 h13 h14
  cases h15 : (a.seen.xs == c.seen.xs)
  · exact lawGuest_14 a c w ha hb0 hz h1 h2 h3 h4 h5 h6 h7 h8 h9 h10 h11 h12 h13 h14 h15
  exact lawGuest_15 a c w ha hb0 hz h1 h2 h3 h4 h5 h6 h7 h8 h9 h10 h11 h12 h13 h14 h15
end Go.Proofs.YtaafnenmdombiaaGreat
