/- Contract of SameGuest, of the program. No condition but that the arguments lie in memory. -/
import Derived.Test.YtaafnenmdombiaaGreatSamh
namespace Go.Proofs.YtaafnenmdombiaaGreat
open Go.RowKit
set_option maxRecDepth 100000 in
set_option maxHeartbeats 2000000 in
theorem sameGuest_0 (a c : GV) (w : World) (ha : GRd w a) (hb0 : GRd w c) (hz : GBig a) (h1 : (a.prog.xs == c.prog.xs) = false) : Calls Tryz.prog 153 #[a.val, c.val] w fun e w' => e = .returned (.bool (a.m == c.m)) ∧ Below w.heap.size w w' := by
  obtain ⟨Z1, Z2, Z3, Z4⟩ := id hz
  simp only [big] at Z1 Z2 Z3 Z4
  have H := Hp.start w
  go_enter Tryz.func153, Tryz.ntmps153
  simp only [List.append]
  go_wp2_with (first
    | go_skip
    | (refine wpList_box_H rfl rfl H rfl (by first | exact CellsOf.agg | exact CellsOf.int | exact CellsOf.bool | exact CellsOf.slice | exact CellsOf.string | exact CellsOf.pointer | exact CellsOf.func) ?_; clear H; intro b w H)
    | (refine wpList_alloc_H rfl rfl H ?_; clear H; intro b w H)
    | (refine wpList_load_H rfl rfl H rfl (by repeat (first | exact LoadAt.here rfl | apply LoadAt.there)) ?_)
    | (refine wpList_loads_H rfl rfl H rfl (by repeat (first | (apply LoadsAt.here; repeat (first | exact GetsAt.nil | apply GetsAt.here | apply GetsAt.there)) | apply LoadsAt.there)) ?_)
    | (refine wpList_store_H rfl rfl H rfl rfl (by repeat (first | (apply StoreAt.here; (first | exact CellsOf.agg | exact CellsOf.int | exact CellsOf.bool | exact CellsOf.slice | exact CellsOf.string | exact CellsOf.pointer | exact CellsOf.func); (repeat (first | exact SetsAt.nil | apply SetsAt.here | apply SetsAt.there)); exact rfl; exact rfl) | apply StoreAt.there)) ?_; clear H; intro w H)
    | (go_at_call 204; ((with_reducible refine (sameProg_c a.prog c.prog _ (ha.prog.at_ H) (hb0.prog.at_ H) Z1).mono ?_)); rintro e w ⟨he, hb⟩; (try rw [h1] at he); subst he; replace H := H.still hb; clear hb)
    | (go_at_call 205; ((with_reducible refine (sameTable_c a.written c.written _ (ha.written.at_ H) (hb0.written.at_ H) Z2).mono ?_)); rintro e w ⟨he, hb⟩; subst he; replace H := H.still hb; clear hb)
    | (go_at_call 205; ((with_reducible refine (sameTable_c a.live c.live _ (ha.live.at_ H) (hb0.live.at_ H) Z3).mono ?_)); rintro e w ⟨he, hb⟩; subst he; replace H := H.still hb; clear hb)
    | (go_at_call 154; ((with_reducible refine (equalInts_c a.seen c.seen _ (ha.seen.at_ H) (hb0.seen.at_ H) Z4).mono ?_)); rintro e w ⟨he, hb⟩; subst he; replace H := H.still hb; clear hb))
  all_goals (go_ret; refine ⟨ret_bool ?_, H.below⟩; clear H; rw [meq, ctl_beq, exit_beq]; simp [h1])
set_option maxRecDepth 100000 in
set_option maxHeartbeats 2000000 in
theorem sameGuest_1 (a c : GV) (w : World) (ha : GRd w a) (hb0 : GRd w c) (hz : GBig a) (h1 : (a.prog.xs == c.prog.xs) = true) (h2 : (a.a == c.a) = false) : Calls Tryz.prog 153 #[a.val, c.val] w fun e w' => e = .returned (.bool (a.m == c.m)) ∧ Below w.heap.size w w' := by
  obtain ⟨Z1, Z2, Z3, Z4⟩ := id hz
  simp only [big] at Z1 Z2 Z3 Z4
  have H := Hp.start w
  go_enter Tryz.func153, Tryz.ntmps153
  simp only [List.append]
  go_wp2_with (first
    | go_skip
    | (refine wpList_box_H rfl rfl H rfl (by first | exact CellsOf.agg | exact CellsOf.int | exact CellsOf.bool | exact CellsOf.slice | exact CellsOf.string | exact CellsOf.pointer | exact CellsOf.func) ?_; clear H; intro b w H)
    | (refine wpList_alloc_H rfl rfl H ?_; clear H; intro b w H)
    | (refine wpList_load_H rfl rfl H rfl (by repeat (first | exact LoadAt.here rfl | apply LoadAt.there)) ?_)
    | (refine wpList_loads_H rfl rfl H rfl (by repeat (first | (apply LoadsAt.here; repeat (first | exact GetsAt.nil | apply GetsAt.here | apply GetsAt.there)) | apply LoadsAt.there)) ?_)
    | (refine wpList_store_H rfl rfl H rfl rfl (by repeat (first | (apply StoreAt.here; (first | exact CellsOf.agg | exact CellsOf.int | exact CellsOf.bool | exact CellsOf.slice | exact CellsOf.string | exact CellsOf.pointer | exact CellsOf.func); (repeat (first | exact SetsAt.nil | apply SetsAt.here | apply SetsAt.there)); exact rfl; exact rfl) | apply StoreAt.there)) ?_; clear H; intro w H)
    | (go_at_call 204; ((with_reducible refine (sameProg_c a.prog c.prog _ (ha.prog.at_ H) (hb0.prog.at_ H) Z1).mono ?_)); rintro e w ⟨he, hb⟩; (try rw [h1] at he); subst he; replace H := H.still hb; clear hb)
    | (go_at_call 205; ((with_reducible refine (sameTable_c a.written c.written _ (ha.written.at_ H) (hb0.written.at_ H) Z2).mono ?_)); rintro e w ⟨he, hb⟩; subst he; replace H := H.still hb; clear hb)
    | (go_at_call 205; ((with_reducible refine (sameTable_c a.live c.live _ (ha.live.at_ H) (hb0.live.at_ H) Z3).mono ?_)); rintro e w ⟨he, hb⟩; subst he; replace H := H.still hb; clear hb)
    | (go_at_call 154; ((with_reducible refine (equalInts_c a.seen c.seen _ (ha.seen.at_ H) (hb0.seen.at_ H) Z4).mono ?_)); rintro e w ⟨he, hb⟩; subst he; replace H := H.still hb; clear hb))
  all_goals (go_ret; refine ⟨ret_bool ?_, H.below⟩; clear H; rw [meq, ctl_beq, exit_beq]; simp [h1, h2])
set_option maxRecDepth 100000 in
set_option maxHeartbeats 2000000 in
theorem sameGuest_2 (a c : GV) (w : World) (ha : GRd w a) (hb0 : GRd w c) (hz : GBig a) (h1 : (a.prog.xs == c.prog.xs) = true) (h2 : (a.a == c.a) = true) (h3 : (a.pc == c.pc) = false) : Calls Tryz.prog 153 #[a.val, c.val] w fun e w' => e = .returned (.bool (a.m == c.m)) ∧ Below w.heap.size w w' := by
  obtain ⟨Z1, Z2, Z3, Z4⟩ := id hz
  simp only [big] at Z1 Z2 Z3 Z4
  have H := Hp.start w
  go_enter Tryz.func153, Tryz.ntmps153
  simp only [List.append]
  go_wp2_with (first
    | go_skip
    | (refine wpList_box_H rfl rfl H rfl (by first | exact CellsOf.agg | exact CellsOf.int | exact CellsOf.bool | exact CellsOf.slice | exact CellsOf.string | exact CellsOf.pointer | exact CellsOf.func) ?_; clear H; intro b w H)
    | (refine wpList_alloc_H rfl rfl H ?_; clear H; intro b w H)
    | (refine wpList_load_H rfl rfl H rfl (by repeat (first | exact LoadAt.here rfl | apply LoadAt.there)) ?_)
    | (refine wpList_loads_H rfl rfl H rfl (by repeat (first | (apply LoadsAt.here; repeat (first | exact GetsAt.nil | apply GetsAt.here | apply GetsAt.there)) | apply LoadsAt.there)) ?_)
    | (refine wpList_store_H rfl rfl H rfl rfl (by repeat (first | (apply StoreAt.here; (first | exact CellsOf.agg | exact CellsOf.int | exact CellsOf.bool | exact CellsOf.slice | exact CellsOf.string | exact CellsOf.pointer | exact CellsOf.func); (repeat (first | exact SetsAt.nil | apply SetsAt.here | apply SetsAt.there)); exact rfl; exact rfl) | apply StoreAt.there)) ?_; clear H; intro w H)
    | (go_at_call 204; ((with_reducible refine (sameProg_c a.prog c.prog _ (ha.prog.at_ H) (hb0.prog.at_ H) Z1).mono ?_)); rintro e w ⟨he, hb⟩; (try rw [h1] at he); subst he; replace H := H.still hb; clear hb)
    | (go_at_call 205; ((with_reducible refine (sameTable_c a.written c.written _ (ha.written.at_ H) (hb0.written.at_ H) Z2).mono ?_)); rintro e w ⟨he, hb⟩; subst he; replace H := H.still hb; clear hb)
    | (go_at_call 205; ((with_reducible refine (sameTable_c a.live c.live _ (ha.live.at_ H) (hb0.live.at_ H) Z3).mono ?_)); rintro e w ⟨he, hb⟩; subst he; replace H := H.still hb; clear hb)
    | (go_at_call 154; ((with_reducible refine (equalInts_c a.seen c.seen _ (ha.seen.at_ H) (hb0.seen.at_ H) Z4).mono ?_)); rintro e w ⟨he, hb⟩; subst he; replace H := H.still hb; clear hb))
  all_goals (go_ret; refine ⟨ret_bool ?_, H.below⟩; clear H; rw [meq, ctl_beq, exit_beq]; simp [h1, h2, h3])
set_option maxRecDepth 100000 in
set_option maxHeartbeats 2000000 in
theorem sameGuest_3 (a c : GV) (w : World) (ha : GRd w a) (hb0 : GRd w c) (hz : GBig a) (h1 : (a.prog.xs == c.prog.xs) = true) (h2 : (a.a == c.a) = true) (h3 : (a.pc == c.pc) = true) (h4 : (a.written.xs == c.written.xs) = false) : Calls Tryz.prog 153 #[a.val, c.val] w fun e w' => e = .returned (.bool (a.m == c.m)) ∧ Below w.heap.size w w' := by
  obtain ⟨Z1, Z2, Z3, Z4⟩ := id hz
  simp only [big] at Z1 Z2 Z3 Z4
  have H := Hp.start w
  go_enter Tryz.func153, Tryz.ntmps153
  simp only [List.append]
  go_wp2_with (first
    | go_skip
    | (refine wpList_box_H rfl rfl H rfl (by first | exact CellsOf.agg | exact CellsOf.int | exact CellsOf.bool | exact CellsOf.slice | exact CellsOf.string | exact CellsOf.pointer | exact CellsOf.func) ?_; clear H; intro b w H)
    | (refine wpList_alloc_H rfl rfl H ?_; clear H; intro b w H)
    | (refine wpList_load_H rfl rfl H rfl (by repeat (first | exact LoadAt.here rfl | apply LoadAt.there)) ?_)
    | (refine wpList_loads_H rfl rfl H rfl (by repeat (first | (apply LoadsAt.here; repeat (first | exact GetsAt.nil | apply GetsAt.here | apply GetsAt.there)) | apply LoadsAt.there)) ?_)
    | (refine wpList_store_H rfl rfl H rfl rfl (by repeat (first | (apply StoreAt.here; (first | exact CellsOf.agg | exact CellsOf.int | exact CellsOf.bool | exact CellsOf.slice | exact CellsOf.string | exact CellsOf.pointer | exact CellsOf.func); (repeat (first | exact SetsAt.nil | apply SetsAt.here | apply SetsAt.there)); exact rfl; exact rfl) | apply StoreAt.there)) ?_; clear H; intro w H)
    | (go_at_call 204; ((with_reducible refine (sameProg_c a.prog c.prog _ (ha.prog.at_ H) (hb0.prog.at_ H) Z1).mono ?_)); rintro e w ⟨he, hb⟩; (try rw [h1] at he); subst he; replace H := H.still hb; clear hb)
    | (go_at_call 205; ((with_reducible refine (sameTable_c a.written c.written _ (ha.written.at_ H) (hb0.written.at_ H) Z2).mono ?_)); rintro e w ⟨he, hb⟩; (try rw [h4] at he); subst he; replace H := H.still hb; clear hb)
    | (go_at_call 205; ((with_reducible refine (sameTable_c a.live c.live _ (ha.live.at_ H) (hb0.live.at_ H) Z3).mono ?_)); rintro e w ⟨he, hb⟩; subst he; replace H := H.still hb; clear hb)
    | (go_at_call 154; ((with_reducible refine (equalInts_c a.seen c.seen _ (ha.seen.at_ H) (hb0.seen.at_ H) Z4).mono ?_)); rintro e w ⟨he, hb⟩; subst he; replace H := H.still hb; clear hb))
  all_goals (go_ret; refine ⟨ret_bool ?_, H.below⟩; clear H; rw [meq, ctl_beq, exit_beq]; simp [h1, h2, h3, h4])
set_option maxRecDepth 100000 in
set_option maxHeartbeats 2000000 in
theorem sameGuest_4 (a c : GV) (w : World) (ha : GRd w a) (hb0 : GRd w c) (hz : GBig a) (h1 : (a.prog.xs == c.prog.xs) = true) (h2 : (a.a == c.a) = true) (h3 : (a.pc == c.pc) = true) (h4 : (a.written.xs == c.written.xs) = true) (h5 : (a.live.xs == c.live.xs) = false) : Calls Tryz.prog 153 #[a.val, c.val] w fun e w' => e = .returned (.bool (a.m == c.m)) ∧ Below w.heap.size w w' := by
  obtain ⟨Z1, Z2, Z3, Z4⟩ := id hz
  simp only [big] at Z1 Z2 Z3 Z4
  have H := Hp.start w
  go_enter Tryz.func153, Tryz.ntmps153
  simp only [List.append]
  go_wp2_with (first
    | go_skip
    | (refine wpList_box_H rfl rfl H rfl (by first | exact CellsOf.agg | exact CellsOf.int | exact CellsOf.bool | exact CellsOf.slice | exact CellsOf.string | exact CellsOf.pointer | exact CellsOf.func) ?_; clear H; intro b w H)
    | (refine wpList_alloc_H rfl rfl H ?_; clear H; intro b w H)
    | (refine wpList_load_H rfl rfl H rfl (by repeat (first | exact LoadAt.here rfl | apply LoadAt.there)) ?_)
    | (refine wpList_loads_H rfl rfl H rfl (by repeat (first | (apply LoadsAt.here; repeat (first | exact GetsAt.nil | apply GetsAt.here | apply GetsAt.there)) | apply LoadsAt.there)) ?_)
    | (refine wpList_store_H rfl rfl H rfl rfl (by repeat (first | (apply StoreAt.here; (first | exact CellsOf.agg | exact CellsOf.int | exact CellsOf.bool | exact CellsOf.slice | exact CellsOf.string | exact CellsOf.pointer | exact CellsOf.func); (repeat (first | exact SetsAt.nil | apply SetsAt.here | apply SetsAt.there)); exact rfl; exact rfl) | apply StoreAt.there)) ?_; clear H; intro w H)
    | (go_at_call 204; ((with_reducible refine (sameProg_c a.prog c.prog _ (ha.prog.at_ H) (hb0.prog.at_ H) Z1).mono ?_)); rintro e w ⟨he, hb⟩; (try rw [h1] at he); subst he; replace H := H.still hb; clear hb)
    | (go_at_call 205; ((with_reducible refine (sameTable_c a.written c.written _ (ha.written.at_ H) (hb0.written.at_ H) Z2).mono ?_)); rintro e w ⟨he, hb⟩; (try rw [h4] at he); subst he; replace H := H.still hb; clear hb)
    | (go_at_call 205; ((with_reducible refine (sameTable_c a.live c.live _ (ha.live.at_ H) (hb0.live.at_ H) Z3).mono ?_)); rintro e w ⟨he, hb⟩; (try rw [h5] at he); subst he; replace H := H.still hb; clear hb)
    | (go_at_call 154; ((with_reducible refine (equalInts_c a.seen c.seen _ (ha.seen.at_ H) (hb0.seen.at_ H) Z4).mono ?_)); rintro e w ⟨he, hb⟩; subst he; replace H := H.still hb; clear hb))
  all_goals (go_ret; refine ⟨ret_bool ?_, H.below⟩; clear H; rw [meq, ctl_beq, exit_beq]; simp [h1, h2, h3, h4, h5])
set_option maxRecDepth 100000 in
set_option maxHeartbeats 2000000 in
theorem sameGuest_5 (a c : GV) (w : World) (ha : GRd w a) (hb0 : GRd w c) (hz : GBig a) (h1 : (a.prog.xs == c.prog.xs) = true) (h2 : (a.a == c.a) = true) (h3 : (a.pc == c.pc) = true) (h4 : (a.written.xs == c.written.xs) = true) (h5 : (a.live.xs == c.live.xs) = true) (h6 : (a.ctl.traps == c.ctl.traps) = false) : Calls Tryz.prog 153 #[a.val, c.val] w fun e w' => e = .returned (.bool (a.m == c.m)) ∧ Below w.heap.size w w' := by
  obtain ⟨Z1, Z2, Z3, Z4⟩ := id hz
  simp only [big] at Z1 Z2 Z3 Z4
  have H := Hp.start w
  go_enter Tryz.func153, Tryz.ntmps153
  simp only [List.append]
  go_wp2_with (first
    | go_skip
    | (refine wpList_box_H rfl rfl H rfl (by first | exact CellsOf.agg | exact CellsOf.int | exact CellsOf.bool | exact CellsOf.slice | exact CellsOf.string | exact CellsOf.pointer | exact CellsOf.func) ?_; clear H; intro b w H)
    | (refine wpList_alloc_H rfl rfl H ?_; clear H; intro b w H)
    | (refine wpList_load_H rfl rfl H rfl (by repeat (first | exact LoadAt.here rfl | apply LoadAt.there)) ?_)
    | (refine wpList_loads_H rfl rfl H rfl (by repeat (first | (apply LoadsAt.here; repeat (first | exact GetsAt.nil | apply GetsAt.here | apply GetsAt.there)) | apply LoadsAt.there)) ?_)
    | (refine wpList_store_H rfl rfl H rfl rfl (by repeat (first | (apply StoreAt.here; (first | exact CellsOf.agg | exact CellsOf.int | exact CellsOf.bool | exact CellsOf.slice | exact CellsOf.string | exact CellsOf.pointer | exact CellsOf.func); (repeat (first | exact SetsAt.nil | apply SetsAt.here | apply SetsAt.there)); exact rfl; exact rfl) | apply StoreAt.there)) ?_; clear H; intro w H)
    | (go_at_call 204; ((with_reducible refine (sameProg_c a.prog c.prog _ (ha.prog.at_ H) (hb0.prog.at_ H) Z1).mono ?_)); rintro e w ⟨he, hb⟩; (try rw [h1] at he); subst he; replace H := H.still hb; clear hb)
    | (go_at_call 205; ((with_reducible refine (sameTable_c a.written c.written _ (ha.written.at_ H) (hb0.written.at_ H) Z2).mono ?_)); rintro e w ⟨he, hb⟩; (try rw [h4] at he); subst he; replace H := H.still hb; clear hb)
    | (go_at_call 205; ((with_reducible refine (sameTable_c a.live c.live _ (ha.live.at_ H) (hb0.live.at_ H) Z3).mono ?_)); rintro e w ⟨he, hb⟩; (try rw [h5] at he); subst he; replace H := H.still hb; clear hb)
    | (go_at_call 154; ((with_reducible refine (equalInts_c a.seen c.seen _ (ha.seen.at_ H) (hb0.seen.at_ H) Z4).mono ?_)); rintro e w ⟨he, hb⟩; subst he; replace H := H.still hb; clear hb))
  all_goals (go_ret; refine ⟨ret_bool ?_, H.below⟩; clear H; rw [meq, ctl_beq, exit_beq]; simp [h1, h2, h3, h4, h5, h6])
set_option maxRecDepth 100000 in
set_option maxHeartbeats 2000000 in
theorem sameGuest_6 (a c : GV) (w : World) (ha : GRd w a) (hb0 : GRd w c) (hz : GBig a) (h1 : (a.prog.xs == c.prog.xs) = true) (h2 : (a.a == c.a) = true) (h3 : (a.pc == c.pc) = true) (h4 : (a.written.xs == c.written.xs) = true) (h5 : (a.live.xs == c.live.xs) = true) (h6 : (a.ctl.traps == c.ctl.traps) = true) (h7 : (a.ctl.post == c.ctl.post) = false) : Calls Tryz.prog 153 #[a.val, c.val] w fun e w' => e = .returned (.bool (a.m == c.m)) ∧ Below w.heap.size w w' := by
  obtain ⟨Z1, Z2, Z3, Z4⟩ := id hz
  simp only [big] at Z1 Z2 Z3 Z4
  have H := Hp.start w
  go_enter Tryz.func153, Tryz.ntmps153
  simp only [List.append]
  go_wp2_with (first
    | go_skip
    | (refine wpList_box_H rfl rfl H rfl (by first | exact CellsOf.agg | exact CellsOf.int | exact CellsOf.bool | exact CellsOf.slice | exact CellsOf.string | exact CellsOf.pointer | exact CellsOf.func) ?_; clear H; intro b w H)
    | (refine wpList_alloc_H rfl rfl H ?_; clear H; intro b w H)
    | (refine wpList_load_H rfl rfl H rfl (by repeat (first | exact LoadAt.here rfl | apply LoadAt.there)) ?_)
    | (refine wpList_loads_H rfl rfl H rfl (by repeat (first | (apply LoadsAt.here; repeat (first | exact GetsAt.nil | apply GetsAt.here | apply GetsAt.there)) | apply LoadsAt.there)) ?_)
    | (refine wpList_store_H rfl rfl H rfl rfl (by repeat (first | (apply StoreAt.here; (first | exact CellsOf.agg | exact CellsOf.int | exact CellsOf.bool | exact CellsOf.slice | exact CellsOf.string | exact CellsOf.pointer | exact CellsOf.func); (repeat (first | exact SetsAt.nil | apply SetsAt.here | apply SetsAt.there)); exact rfl; exact rfl) | apply StoreAt.there)) ?_; clear H; intro w H)
    | (go_at_call 204; ((with_reducible refine (sameProg_c a.prog c.prog _ (ha.prog.at_ H) (hb0.prog.at_ H) Z1).mono ?_)); rintro e w ⟨he, hb⟩; (try rw [h1] at he); subst he; replace H := H.still hb; clear hb)
    | (go_at_call 205; ((with_reducible refine (sameTable_c a.written c.written _ (ha.written.at_ H) (hb0.written.at_ H) Z2).mono ?_)); rintro e w ⟨he, hb⟩; (try rw [h4] at he); subst he; replace H := H.still hb; clear hb)
    | (go_at_call 205; ((with_reducible refine (sameTable_c a.live c.live _ (ha.live.at_ H) (hb0.live.at_ H) Z3).mono ?_)); rintro e w ⟨he, hb⟩; (try rw [h5] at he); subst he; replace H := H.still hb; clear hb)
    | (go_at_call 154; ((with_reducible refine (equalInts_c a.seen c.seen _ (ha.seen.at_ H) (hb0.seen.at_ H) Z4).mono ?_)); rintro e w ⟨he, hb⟩; subst he; replace H := H.still hb; clear hb))
  all_goals (go_ret; refine ⟨ret_bool ?_, H.below⟩; clear H; rw [meq, ctl_beq, exit_beq]; simp [h1, h2, h3, h4, h5, h6, h7])
set_option maxRecDepth 100000 in
set_option maxHeartbeats 2000000 in
theorem sameGuest_7 (a c : GV) (w : World) (ha : GRd w a) (hb0 : GRd w c) (hz : GBig a) (h1 : (a.prog.xs == c.prog.xs) = true) (h2 : (a.a == c.a) = true) (h3 : (a.pc == c.pc) = true) (h4 : (a.written.xs == c.written.xs) = true) (h5 : (a.live.xs == c.live.xs) = true) (h6 : (a.ctl.traps == c.ctl.traps) = true) (h7 : (a.ctl.post == c.ctl.post) = true) (h8 : (a.ctl.opn == c.ctl.opn) = false) : Calls Tryz.prog 153 #[a.val, c.val] w fun e w' => e = .returned (.bool (a.m == c.m)) ∧ Below w.heap.size w w' := by
  obtain ⟨Z1, Z2, Z3, Z4⟩ := id hz
  simp only [big] at Z1 Z2 Z3 Z4
  have H := Hp.start w
  go_enter Tryz.func153, Tryz.ntmps153
  simp only [List.append]
  go_wp2_with (first
    | go_skip
    | (refine wpList_box_H rfl rfl H rfl (by first | exact CellsOf.agg | exact CellsOf.int | exact CellsOf.bool | exact CellsOf.slice | exact CellsOf.string | exact CellsOf.pointer | exact CellsOf.func) ?_; clear H; intro b w H)
    | (refine wpList_alloc_H rfl rfl H ?_; clear H; intro b w H)
    | (refine wpList_load_H rfl rfl H rfl (by repeat (first | exact LoadAt.here rfl | apply LoadAt.there)) ?_)
    | (refine wpList_loads_H rfl rfl H rfl (by repeat (first | (apply LoadsAt.here; repeat (first | exact GetsAt.nil | apply GetsAt.here | apply GetsAt.there)) | apply LoadsAt.there)) ?_)
    | (refine wpList_store_H rfl rfl H rfl rfl (by repeat (first | (apply StoreAt.here; (first | exact CellsOf.agg | exact CellsOf.int | exact CellsOf.bool | exact CellsOf.slice | exact CellsOf.string | exact CellsOf.pointer | exact CellsOf.func); (repeat (first | exact SetsAt.nil | apply SetsAt.here | apply SetsAt.there)); exact rfl; exact rfl) | apply StoreAt.there)) ?_; clear H; intro w H)
    | (go_at_call 204; ((with_reducible refine (sameProg_c a.prog c.prog _ (ha.prog.at_ H) (hb0.prog.at_ H) Z1).mono ?_)); rintro e w ⟨he, hb⟩; (try rw [h1] at he); subst he; replace H := H.still hb; clear hb)
    | (go_at_call 205; ((with_reducible refine (sameTable_c a.written c.written _ (ha.written.at_ H) (hb0.written.at_ H) Z2).mono ?_)); rintro e w ⟨he, hb⟩; (try rw [h4] at he); subst he; replace H := H.still hb; clear hb)
    | (go_at_call 205; ((with_reducible refine (sameTable_c a.live c.live _ (ha.live.at_ H) (hb0.live.at_ H) Z3).mono ?_)); rintro e w ⟨he, hb⟩; (try rw [h5] at he); subst he; replace H := H.still hb; clear hb)
    | (go_at_call 154; ((with_reducible refine (equalInts_c a.seen c.seen _ (ha.seen.at_ H) (hb0.seen.at_ H) Z4).mono ?_)); rintro e w ⟨he, hb⟩; subst he; replace H := H.still hb; clear hb))
  all_goals (go_ret; refine ⟨ret_bool ?_, H.below⟩; clear H; rw [meq, ctl_beq, exit_beq]; simp [h1, h2, h3, h4, h5, h6, h7, h8])
set_option maxRecDepth 100000 in
set_option maxHeartbeats 2000000 in
theorem sameGuest_8 (a c : GV) (w : World) (ha : GRd w a) (hb0 : GRd w c) (hz : GBig a) (h1 : (a.prog.xs == c.prog.xs) = true) (h2 : (a.a == c.a) = true) (h3 : (a.pc == c.pc) = true) (h4 : (a.written.xs == c.written.xs) = true) (h5 : (a.live.xs == c.live.xs) = true) (h6 : (a.ctl.traps == c.ctl.traps) = true) (h7 : (a.ctl.post == c.ctl.post) = true) (h8 : (a.ctl.opn == c.ctl.opn) = true) (h9 : (a.pending == c.pending) = false) : Calls Tryz.prog 153 #[a.val, c.val] w fun e w' => e = .returned (.bool (a.m == c.m)) ∧ Below w.heap.size w w' := by
  obtain ⟨Z1, Z2, Z3, Z4⟩ := id hz
  simp only [big] at Z1 Z2 Z3 Z4
  have H := Hp.start w
  go_enter Tryz.func153, Tryz.ntmps153
  simp only [List.append]
  go_wp2_with (first
    | go_skip
    | (refine wpList_box_H rfl rfl H rfl (by first | exact CellsOf.agg | exact CellsOf.int | exact CellsOf.bool | exact CellsOf.slice | exact CellsOf.string | exact CellsOf.pointer | exact CellsOf.func) ?_; clear H; intro b w H)
    | (refine wpList_alloc_H rfl rfl H ?_; clear H; intro b w H)
    | (refine wpList_load_H rfl rfl H rfl (by repeat (first | exact LoadAt.here rfl | apply LoadAt.there)) ?_)
    | (refine wpList_loads_H rfl rfl H rfl (by repeat (first | (apply LoadsAt.here; repeat (first | exact GetsAt.nil | apply GetsAt.here | apply GetsAt.there)) | apply LoadsAt.there)) ?_)
    | (refine wpList_store_H rfl rfl H rfl rfl (by repeat (first | (apply StoreAt.here; (first | exact CellsOf.agg | exact CellsOf.int | exact CellsOf.bool | exact CellsOf.slice | exact CellsOf.string | exact CellsOf.pointer | exact CellsOf.func); (repeat (first | exact SetsAt.nil | apply SetsAt.here | apply SetsAt.there)); exact rfl; exact rfl) | apply StoreAt.there)) ?_; clear H; intro w H)
    | (go_at_call 204; ((with_reducible refine (sameProg_c a.prog c.prog _ (ha.prog.at_ H) (hb0.prog.at_ H) Z1).mono ?_)); rintro e w ⟨he, hb⟩; (try rw [h1] at he); subst he; replace H := H.still hb; clear hb)
    | (go_at_call 205; ((with_reducible refine (sameTable_c a.written c.written _ (ha.written.at_ H) (hb0.written.at_ H) Z2).mono ?_)); rintro e w ⟨he, hb⟩; (try rw [h4] at he); subst he; replace H := H.still hb; clear hb)
    | (go_at_call 205; ((with_reducible refine (sameTable_c a.live c.live _ (ha.live.at_ H) (hb0.live.at_ H) Z3).mono ?_)); rintro e w ⟨he, hb⟩; (try rw [h5] at he); subst he; replace H := H.still hb; clear hb)
    | (go_at_call 154; ((with_reducible refine (equalInts_c a.seen c.seen _ (ha.seen.at_ H) (hb0.seen.at_ H) Z4).mono ?_)); rintro e w ⟨he, hb⟩; subst he; replace H := H.still hb; clear hb))
  all_goals (go_ret; refine ⟨ret_bool ?_, H.below⟩; clear H; rw [meq, ctl_beq, exit_beq]; simp [h1, h2, h3, h4, h5, h6, h7, h8, h9])
set_option maxRecDepth 100000 in
set_option maxHeartbeats 2000000 in
theorem sameGuest_9 (a c : GV) (w : World) (ha : GRd w a) (hb0 : GRd w c) (hz : GBig a) (h1 : (a.prog.xs == c.prog.xs) = true) (h2 : (a.a == c.a) = true) (h3 : (a.pc == c.pc) = true) (h4 : (a.written.xs == c.written.xs) = true) (h5 : (a.live.xs == c.live.xs) = true) (h6 : (a.ctl.traps == c.ctl.traps) = true) (h7 : (a.ctl.post == c.ctl.post) = true) (h8 : (a.ctl.opn == c.ctl.opn) = true) (h9 : (a.pending == c.pending) = true) (h10 : (a.exit.kind == c.exit.kind) = false) : Calls Tryz.prog 153 #[a.val, c.val] w fun e w' => e = .returned (.bool (a.m == c.m)) ∧ Below w.heap.size w w' := by
  obtain ⟨Z1, Z2, Z3, Z4⟩ := id hz
  simp only [big] at Z1 Z2 Z3 Z4
  have H := Hp.start w
  go_enter Tryz.func153, Tryz.ntmps153
  simp only [List.append]
  go_wp2_with (first
    | go_skip
    | (refine wpList_box_H rfl rfl H rfl (by first | exact CellsOf.agg | exact CellsOf.int | exact CellsOf.bool | exact CellsOf.slice | exact CellsOf.string | exact CellsOf.pointer | exact CellsOf.func) ?_; clear H; intro b w H)
    | (refine wpList_alloc_H rfl rfl H ?_; clear H; intro b w H)
    | (refine wpList_load_H rfl rfl H rfl (by repeat (first | exact LoadAt.here rfl | apply LoadAt.there)) ?_)
    | (refine wpList_loads_H rfl rfl H rfl (by repeat (first | (apply LoadsAt.here; repeat (first | exact GetsAt.nil | apply GetsAt.here | apply GetsAt.there)) | apply LoadsAt.there)) ?_)
    | (refine wpList_store_H rfl rfl H rfl rfl (by repeat (first | (apply StoreAt.here; (first | exact CellsOf.agg | exact CellsOf.int | exact CellsOf.bool | exact CellsOf.slice | exact CellsOf.string | exact CellsOf.pointer | exact CellsOf.func); (repeat (first | exact SetsAt.nil | apply SetsAt.here | apply SetsAt.there)); exact rfl; exact rfl) | apply StoreAt.there)) ?_; clear H; intro w H)
    | (go_at_call 204; ((with_reducible refine (sameProg_c a.prog c.prog _ (ha.prog.at_ H) (hb0.prog.at_ H) Z1).mono ?_)); rintro e w ⟨he, hb⟩; (try rw [h1] at he); subst he; replace H := H.still hb; clear hb)
    | (go_at_call 205; ((with_reducible refine (sameTable_c a.written c.written _ (ha.written.at_ H) (hb0.written.at_ H) Z2).mono ?_)); rintro e w ⟨he, hb⟩; (try rw [h4] at he); subst he; replace H := H.still hb; clear hb)
    | (go_at_call 205; ((with_reducible refine (sameTable_c a.live c.live _ (ha.live.at_ H) (hb0.live.at_ H) Z3).mono ?_)); rintro e w ⟨he, hb⟩; (try rw [h5] at he); subst he; replace H := H.still hb; clear hb)
    | (go_at_call 154; ((with_reducible refine (equalInts_c a.seen c.seen _ (ha.seen.at_ H) (hb0.seen.at_ H) Z4).mono ?_)); rintro e w ⟨he, hb⟩; subst he; replace H := H.still hb; clear hb))
  all_goals (go_ret; refine ⟨ret_bool ?_, H.below⟩; clear H; rw [meq, ctl_beq, exit_beq]; simp [h1, h2, h3, h4, h5, h6, h7, h8, h9, h10])
set_option maxRecDepth 100000 in
set_option maxHeartbeats 2000000 in
theorem sameGuest_10 (a c : GV) (w : World) (ha : GRd w a) (hb0 : GRd w c) (hz : GBig a) (h1 : (a.prog.xs == c.prog.xs) = true) (h2 : (a.a == c.a) = true) (h3 : (a.pc == c.pc) = true) (h4 : (a.written.xs == c.written.xs) = true) (h5 : (a.live.xs == c.live.xs) = true) (h6 : (a.ctl.traps == c.ctl.traps) = true) (h7 : (a.ctl.post == c.ctl.post) = true) (h8 : (a.ctl.opn == c.ctl.opn) = true) (h9 : (a.pending == c.pending) = true) (h10 : (a.exit.kind == c.exit.kind) = true) (h11 : (a.exit.page == c.exit.page) = false) : Calls Tryz.prog 153 #[a.val, c.val] w fun e w' => e = .returned (.bool (a.m == c.m)) ∧ Below w.heap.size w w' := by
  obtain ⟨Z1, Z2, Z3, Z4⟩ := id hz
  simp only [big] at Z1 Z2 Z3 Z4
  have H := Hp.start w
  go_enter Tryz.func153, Tryz.ntmps153
  simp only [List.append]
  go_wp2_with (first
    | go_skip
    | (refine wpList_box_H rfl rfl H rfl (by first | exact CellsOf.agg | exact CellsOf.int | exact CellsOf.bool | exact CellsOf.slice | exact CellsOf.string | exact CellsOf.pointer | exact CellsOf.func) ?_; clear H; intro b w H)
    | (refine wpList_alloc_H rfl rfl H ?_; clear H; intro b w H)
    | (refine wpList_load_H rfl rfl H rfl (by repeat (first | exact LoadAt.here rfl | apply LoadAt.there)) ?_)
    | (refine wpList_loads_H rfl rfl H rfl (by repeat (first | (apply LoadsAt.here; repeat (first | exact GetsAt.nil | apply GetsAt.here | apply GetsAt.there)) | apply LoadsAt.there)) ?_)
    | (refine wpList_store_H rfl rfl H rfl rfl (by repeat (first | (apply StoreAt.here; (first | exact CellsOf.agg | exact CellsOf.int | exact CellsOf.bool | exact CellsOf.slice | exact CellsOf.string | exact CellsOf.pointer | exact CellsOf.func); (repeat (first | exact SetsAt.nil | apply SetsAt.here | apply SetsAt.there)); exact rfl; exact rfl) | apply StoreAt.there)) ?_; clear H; intro w H)
    | (go_at_call 204; ((with_reducible refine (sameProg_c a.prog c.prog _ (ha.prog.at_ H) (hb0.prog.at_ H) Z1).mono ?_)); rintro e w ⟨he, hb⟩; (try rw [h1] at he); subst he; replace H := H.still hb; clear hb)
    | (go_at_call 205; ((with_reducible refine (sameTable_c a.written c.written _ (ha.written.at_ H) (hb0.written.at_ H) Z2).mono ?_)); rintro e w ⟨he, hb⟩; (try rw [h4] at he); subst he; replace H := H.still hb; clear hb)
    | (go_at_call 205; ((with_reducible refine (sameTable_c a.live c.live _ (ha.live.at_ H) (hb0.live.at_ H) Z3).mono ?_)); rintro e w ⟨he, hb⟩; (try rw [h5] at he); subst he; replace H := H.still hb; clear hb)
    | (go_at_call 154; ((with_reducible refine (equalInts_c a.seen c.seen _ (ha.seen.at_ H) (hb0.seen.at_ H) Z4).mono ?_)); rintro e w ⟨he, hb⟩; subst he; replace H := H.still hb; clear hb))
  all_goals (go_ret; refine ⟨ret_bool ?_, H.below⟩; clear H; rw [meq, ctl_beq, exit_beq]; simp [h1, h2, h3, h4, h5, h6, h7, h8, h9, h10, h11])
set_option maxRecDepth 100000 in
set_option maxHeartbeats 2000000 in
theorem sameGuest_11 (a c : GV) (w : World) (ha : GRd w a) (hb0 : GRd w c) (hz : GBig a) (h1 : (a.prog.xs == c.prog.xs) = true) (h2 : (a.a == c.a) = true) (h3 : (a.pc == c.pc) = true) (h4 : (a.written.xs == c.written.xs) = true) (h5 : (a.live.xs == c.live.xs) = true) (h6 : (a.ctl.traps == c.ctl.traps) = true) (h7 : (a.ctl.post == c.ctl.post) = true) (h8 : (a.ctl.opn == c.ctl.opn) = true) (h9 : (a.pending == c.pending) = true) (h10 : (a.exit.kind == c.exit.kind) = true) (h11 : (a.exit.page == c.exit.page) = true) (h12 : (a.exit.write == c.exit.write) = false) : Calls Tryz.prog 153 #[a.val, c.val] w fun e w' => e = .returned (.bool (a.m == c.m)) ∧ Below w.heap.size w w' := by
  obtain ⟨Z1, Z2, Z3, Z4⟩ := id hz
  simp only [big] at Z1 Z2 Z3 Z4
  have H := Hp.start w
  go_enter Tryz.func153, Tryz.ntmps153
  simp only [List.append]
  go_wp2_with (first
    | go_skip
    | (refine wpList_box_H rfl rfl H rfl (by first | exact CellsOf.agg | exact CellsOf.int | exact CellsOf.bool | exact CellsOf.slice | exact CellsOf.string | exact CellsOf.pointer | exact CellsOf.func) ?_; clear H; intro b w H)
    | (refine wpList_alloc_H rfl rfl H ?_; clear H; intro b w H)
    | (refine wpList_load_H rfl rfl H rfl (by repeat (first | exact LoadAt.here rfl | apply LoadAt.there)) ?_)
    | (refine wpList_loads_H rfl rfl H rfl (by repeat (first | (apply LoadsAt.here; repeat (first | exact GetsAt.nil | apply GetsAt.here | apply GetsAt.there)) | apply LoadsAt.there)) ?_)
    | (refine wpList_store_H rfl rfl H rfl rfl (by repeat (first | (apply StoreAt.here; (first | exact CellsOf.agg | exact CellsOf.int | exact CellsOf.bool | exact CellsOf.slice | exact CellsOf.string | exact CellsOf.pointer | exact CellsOf.func); (repeat (first | exact SetsAt.nil | apply SetsAt.here | apply SetsAt.there)); exact rfl; exact rfl) | apply StoreAt.there)) ?_; clear H; intro w H)
    | (go_at_call 204; ((with_reducible refine (sameProg_c a.prog c.prog _ (ha.prog.at_ H) (hb0.prog.at_ H) Z1).mono ?_)); rintro e w ⟨he, hb⟩; (try rw [h1] at he); subst he; replace H := H.still hb; clear hb)
    | (go_at_call 205; ((with_reducible refine (sameTable_c a.written c.written _ (ha.written.at_ H) (hb0.written.at_ H) Z2).mono ?_)); rintro e w ⟨he, hb⟩; (try rw [h4] at he); subst he; replace H := H.still hb; clear hb)
    | (go_at_call 205; ((with_reducible refine (sameTable_c a.live c.live _ (ha.live.at_ H) (hb0.live.at_ H) Z3).mono ?_)); rintro e w ⟨he, hb⟩; (try rw [h5] at he); subst he; replace H := H.still hb; clear hb)
    | (go_at_call 154; ((with_reducible refine (equalInts_c a.seen c.seen _ (ha.seen.at_ H) (hb0.seen.at_ H) Z4).mono ?_)); rintro e w ⟨he, hb⟩; subst he; replace H := H.still hb; clear hb))
  all_goals (go_ret; refine ⟨ret_bool ?_, H.below⟩; clear H; rw [meq, ctl_beq, exit_beq]; simp [h1, h2, h3, h4, h5, h6, h7, h8, h9, h10, h11, h12])
set_option maxRecDepth 100000 in
set_option maxHeartbeats 2000000 in
theorem sameGuest_12 (a c : GV) (w : World) (ha : GRd w a) (hb0 : GRd w c) (hz : GBig a) (h1 : (a.prog.xs == c.prog.xs) = true) (h2 : (a.a == c.a) = true) (h3 : (a.pc == c.pc) = true) (h4 : (a.written.xs == c.written.xs) = true) (h5 : (a.live.xs == c.live.xs) = true) (h6 : (a.ctl.traps == c.ctl.traps) = true) (h7 : (a.ctl.post == c.ctl.post) = true) (h8 : (a.ctl.opn == c.ctl.opn) = true) (h9 : (a.pending == c.pending) = true) (h10 : (a.exit.kind == c.exit.kind) = true) (h11 : (a.exit.page == c.exit.page) = true) (h12 : (a.exit.write == c.exit.write) = true) (h13 : (a.exit.n == c.exit.n) = false) : Calls Tryz.prog 153 #[a.val, c.val] w fun e w' => e = .returned (.bool (a.m == c.m)) ∧ Below w.heap.size w w' := by
  obtain ⟨Z1, Z2, Z3, Z4⟩ := id hz
  simp only [big] at Z1 Z2 Z3 Z4
  have H := Hp.start w
  go_enter Tryz.func153, Tryz.ntmps153
  simp only [List.append]
  go_wp2_with (first
    | go_skip
    | (refine wpList_box_H rfl rfl H rfl (by first | exact CellsOf.agg | exact CellsOf.int | exact CellsOf.bool | exact CellsOf.slice | exact CellsOf.string | exact CellsOf.pointer | exact CellsOf.func) ?_; clear H; intro b w H)
    | (refine wpList_alloc_H rfl rfl H ?_; clear H; intro b w H)
    | (refine wpList_load_H rfl rfl H rfl (by repeat (first | exact LoadAt.here rfl | apply LoadAt.there)) ?_)
    | (refine wpList_loads_H rfl rfl H rfl (by repeat (first | (apply LoadsAt.here; repeat (first | exact GetsAt.nil | apply GetsAt.here | apply GetsAt.there)) | apply LoadsAt.there)) ?_)
    | (refine wpList_store_H rfl rfl H rfl rfl (by repeat (first | (apply StoreAt.here; (first | exact CellsOf.agg | exact CellsOf.int | exact CellsOf.bool | exact CellsOf.slice | exact CellsOf.string | exact CellsOf.pointer | exact CellsOf.func); (repeat (first | exact SetsAt.nil | apply SetsAt.here | apply SetsAt.there)); exact rfl; exact rfl) | apply StoreAt.there)) ?_; clear H; intro w H)
    | (go_at_call 204; ((with_reducible refine (sameProg_c a.prog c.prog _ (ha.prog.at_ H) (hb0.prog.at_ H) Z1).mono ?_)); rintro e w ⟨he, hb⟩; (try rw [h1] at he); subst he; replace H := H.still hb; clear hb)
    | (go_at_call 205; ((with_reducible refine (sameTable_c a.written c.written _ (ha.written.at_ H) (hb0.written.at_ H) Z2).mono ?_)); rintro e w ⟨he, hb⟩; (try rw [h4] at he); subst he; replace H := H.still hb; clear hb)
    | (go_at_call 205; ((with_reducible refine (sameTable_c a.live c.live _ (ha.live.at_ H) (hb0.live.at_ H) Z3).mono ?_)); rintro e w ⟨he, hb⟩; (try rw [h5] at he); subst he; replace H := H.still hb; clear hb)
    | (go_at_call 154; ((with_reducible refine (equalInts_c a.seen c.seen _ (ha.seen.at_ H) (hb0.seen.at_ H) Z4).mono ?_)); rintro e w ⟨he, hb⟩; subst he; replace H := H.still hb; clear hb))
  all_goals (go_ret; refine ⟨ret_bool ?_, H.below⟩; clear H; rw [meq, ctl_beq, exit_beq]; simp [h1, h2, h3, h4, h5, h6, h7, h8, h9, h10, h11, h12, h13])
set_option maxRecDepth 100000 in
set_option maxHeartbeats 2000000 in
theorem sameGuest_13 (a c : GV) (w : World) (ha : GRd w a) (hb0 : GRd w c) (hz : GBig a) (h1 : (a.prog.xs == c.prog.xs) = true) (h2 : (a.a == c.a) = true) (h3 : (a.pc == c.pc) = true) (h4 : (a.written.xs == c.written.xs) = true) (h5 : (a.live.xs == c.live.xs) = true) (h6 : (a.ctl.traps == c.ctl.traps) = true) (h7 : (a.ctl.post == c.ctl.post) = true) (h8 : (a.ctl.opn == c.ctl.opn) = true) (h9 : (a.pending == c.pending) = true) (h10 : (a.exit.kind == c.exit.kind) = true) (h11 : (a.exit.page == c.exit.page) = true) (h12 : (a.exit.write == c.exit.write) = true) (h13 : (a.exit.n == c.exit.n) = true) (h14 : (a.halted == c.halted) = false) : Calls Tryz.prog 153 #[a.val, c.val] w fun e w' => e = .returned (.bool (a.m == c.m)) ∧ Below w.heap.size w w' := by
  obtain ⟨Z1, Z2, Z3, Z4⟩ := id hz
  simp only [big] at Z1 Z2 Z3 Z4
  have H := Hp.start w
  go_enter Tryz.func153, Tryz.ntmps153
  simp only [List.append]
  go_wp2_with (first
    | go_skip
    | (refine wpList_box_H rfl rfl H rfl (by first | exact CellsOf.agg | exact CellsOf.int | exact CellsOf.bool | exact CellsOf.slice | exact CellsOf.string | exact CellsOf.pointer | exact CellsOf.func) ?_; clear H; intro b w H)
    | (refine wpList_alloc_H rfl rfl H ?_; clear H; intro b w H)
    | (refine wpList_load_H rfl rfl H rfl (by repeat (first | exact LoadAt.here rfl | apply LoadAt.there)) ?_)
    | (refine wpList_loads_H rfl rfl H rfl (by repeat (first | (apply LoadsAt.here; repeat (first | exact GetsAt.nil | apply GetsAt.here | apply GetsAt.there)) | apply LoadsAt.there)) ?_)
    | (refine wpList_store_H rfl rfl H rfl rfl (by repeat (first | (apply StoreAt.here; (first | exact CellsOf.agg | exact CellsOf.int | exact CellsOf.bool | exact CellsOf.slice | exact CellsOf.string | exact CellsOf.pointer | exact CellsOf.func); (repeat (first | exact SetsAt.nil | apply SetsAt.here | apply SetsAt.there)); exact rfl; exact rfl) | apply StoreAt.there)) ?_; clear H; intro w H)
    | (go_at_call 204; ((with_reducible refine (sameProg_c a.prog c.prog _ (ha.prog.at_ H) (hb0.prog.at_ H) Z1).mono ?_)); rintro e w ⟨he, hb⟩; (try rw [h1] at he); subst he; replace H := H.still hb; clear hb)
    | (go_at_call 205; ((with_reducible refine (sameTable_c a.written c.written _ (ha.written.at_ H) (hb0.written.at_ H) Z2).mono ?_)); rintro e w ⟨he, hb⟩; (try rw [h4] at he); subst he; replace H := H.still hb; clear hb)
    | (go_at_call 205; ((with_reducible refine (sameTable_c a.live c.live _ (ha.live.at_ H) (hb0.live.at_ H) Z3).mono ?_)); rintro e w ⟨he, hb⟩; (try rw [h5] at he); subst he; replace H := H.still hb; clear hb)
    | (go_at_call 154; ((with_reducible refine (equalInts_c a.seen c.seen _ (ha.seen.at_ H) (hb0.seen.at_ H) Z4).mono ?_)); rintro e w ⟨he, hb⟩; subst he; replace H := H.still hb; clear hb))
  all_goals (go_ret; refine ⟨ret_bool ?_, H.below⟩; clear H; rw [meq, ctl_beq, exit_beq]; simp [h1, h2, h3, h4, h5, h6, h7, h8, h9, h10, h11, h12, h13, h14])
set_option maxRecDepth 100000 in
set_option maxHeartbeats 2000000 in
theorem sameGuest_14 (a c : GV) (w : World) (ha : GRd w a) (hb0 : GRd w c) (hz : GBig a) (h1 : (a.prog.xs == c.prog.xs) = true) (h2 : (a.a == c.a) = true) (h3 : (a.pc == c.pc) = true) (h4 : (a.written.xs == c.written.xs) = true) (h5 : (a.live.xs == c.live.xs) = true) (h6 : (a.ctl.traps == c.ctl.traps) = true) (h7 : (a.ctl.post == c.ctl.post) = true) (h8 : (a.ctl.opn == c.ctl.opn) = true) (h9 : (a.pending == c.pending) = true) (h10 : (a.exit.kind == c.exit.kind) = true) (h11 : (a.exit.page == c.exit.page) = true) (h12 : (a.exit.write == c.exit.write) = true) (h13 : (a.exit.n == c.exit.n) = true) (h14 : (a.halted == c.halted) = true) (h15 : (a.seen.xs == c.seen.xs) = false) : Calls Tryz.prog 153 #[a.val, c.val] w fun e w' => e = .returned (.bool (a.m == c.m)) ∧ Below w.heap.size w w' := by
  obtain ⟨Z1, Z2, Z3, Z4⟩ := id hz
  simp only [big] at Z1 Z2 Z3 Z4
  have H := Hp.start w
  go_enter Tryz.func153, Tryz.ntmps153
  simp only [List.append]
  go_wp2_with (first
    | go_skip
    | (refine wpList_box_H rfl rfl H rfl (by first | exact CellsOf.agg | exact CellsOf.int | exact CellsOf.bool | exact CellsOf.slice | exact CellsOf.string | exact CellsOf.pointer | exact CellsOf.func) ?_; clear H; intro b w H)
    | (refine wpList_alloc_H rfl rfl H ?_; clear H; intro b w H)
    | (refine wpList_load_H rfl rfl H rfl (by repeat (first | exact LoadAt.here rfl | apply LoadAt.there)) ?_)
    | (refine wpList_loads_H rfl rfl H rfl (by repeat (first | (apply LoadsAt.here; repeat (first | exact GetsAt.nil | apply GetsAt.here | apply GetsAt.there)) | apply LoadsAt.there)) ?_)
    | (refine wpList_store_H rfl rfl H rfl rfl (by repeat (first | (apply StoreAt.here; (first | exact CellsOf.agg | exact CellsOf.int | exact CellsOf.bool | exact CellsOf.slice | exact CellsOf.string | exact CellsOf.pointer | exact CellsOf.func); (repeat (first | exact SetsAt.nil | apply SetsAt.here | apply SetsAt.there)); exact rfl; exact rfl) | apply StoreAt.there)) ?_; clear H; intro w H)
    | (go_at_call 204; ((with_reducible refine (sameProg_c a.prog c.prog _ (ha.prog.at_ H) (hb0.prog.at_ H) Z1).mono ?_)); rintro e w ⟨he, hb⟩; (try rw [h1] at he); subst he; replace H := H.still hb; clear hb)
    | (go_at_call 205; ((with_reducible refine (sameTable_c a.written c.written _ (ha.written.at_ H) (hb0.written.at_ H) Z2).mono ?_)); rintro e w ⟨he, hb⟩; (try rw [h4] at he); subst he; replace H := H.still hb; clear hb)
    | (go_at_call 205; ((with_reducible refine (sameTable_c a.live c.live _ (ha.live.at_ H) (hb0.live.at_ H) Z3).mono ?_)); rintro e w ⟨he, hb⟩; (try rw [h5] at he); subst he; replace H := H.still hb; clear hb)
    | (go_at_call 154; ((with_reducible refine (equalInts_c a.seen c.seen _ (ha.seen.at_ H) (hb0.seen.at_ H) Z4).mono ?_)); rintro e w ⟨he, hb⟩; (try rw [h15] at he); subst he; replace H := H.still hb; clear hb))
  all_goals (go_ret; refine ⟨ret_bool ?_, H.below⟩; clear H; rw [meq, ctl_beq, exit_beq]; simp [h1, h2, h3, h4, h5, h6, h7, h8, h9, h10, h11, h12, h13, h14, h15])
set_option maxRecDepth 100000 in
set_option maxHeartbeats 2000000 in
theorem sameGuest_15 (a c : GV) (w : World) (ha : GRd w a) (hb0 : GRd w c) (hz : GBig a) (h1 : (a.prog.xs == c.prog.xs) = true) (h2 : (a.a == c.a) = true) (h3 : (a.pc == c.pc) = true) (h4 : (a.written.xs == c.written.xs) = true) (h5 : (a.live.xs == c.live.xs) = true) (h6 : (a.ctl.traps == c.ctl.traps) = true) (h7 : (a.ctl.post == c.ctl.post) = true) (h8 : (a.ctl.opn == c.ctl.opn) = true) (h9 : (a.pending == c.pending) = true) (h10 : (a.exit.kind == c.exit.kind) = true) (h11 : (a.exit.page == c.exit.page) = true) (h12 : (a.exit.write == c.exit.write) = true) (h13 : (a.exit.n == c.exit.n) = true) (h14 : (a.halted == c.halted) = true) (h15 : (a.seen.xs == c.seen.xs) = true) : Calls Tryz.prog 153 #[a.val, c.val] w fun e w' => e = .returned (.bool (a.m == c.m)) ∧ Below w.heap.size w w' := by
  obtain ⟨Z1, Z2, Z3, Z4⟩ := id hz
  simp only [big] at Z1 Z2 Z3 Z4
  have H := Hp.start w
  go_enter Tryz.func153, Tryz.ntmps153
  simp only [List.append]
  go_wp2_with (first
    | go_skip
    | (refine wpList_box_H rfl rfl H rfl (by first | exact CellsOf.agg | exact CellsOf.int | exact CellsOf.bool | exact CellsOf.slice | exact CellsOf.string | exact CellsOf.pointer | exact CellsOf.func) ?_; clear H; intro b w H)
    | (refine wpList_alloc_H rfl rfl H ?_; clear H; intro b w H)
    | (refine wpList_load_H rfl rfl H rfl (by repeat (first | exact LoadAt.here rfl | apply LoadAt.there)) ?_)
    | (refine wpList_loads_H rfl rfl H rfl (by repeat (first | (apply LoadsAt.here; repeat (first | exact GetsAt.nil | apply GetsAt.here | apply GetsAt.there)) | apply LoadsAt.there)) ?_)
    | (refine wpList_store_H rfl rfl H rfl rfl (by repeat (first | (apply StoreAt.here; (first | exact CellsOf.agg | exact CellsOf.int | exact CellsOf.bool | exact CellsOf.slice | exact CellsOf.string | exact CellsOf.pointer | exact CellsOf.func); (repeat (first | exact SetsAt.nil | apply SetsAt.here | apply SetsAt.there)); exact rfl; exact rfl) | apply StoreAt.there)) ?_; clear H; intro w H)
    | (go_at_call 204; ((with_reducible refine (sameProg_c a.prog c.prog _ (ha.prog.at_ H) (hb0.prog.at_ H) Z1).mono ?_)); rintro e w ⟨he, hb⟩; (try rw [h1] at he); subst he; replace H := H.still hb; clear hb)
    | (go_at_call 205; ((with_reducible refine (sameTable_c a.written c.written _ (ha.written.at_ H) (hb0.written.at_ H) Z2).mono ?_)); rintro e w ⟨he, hb⟩; (try rw [h4] at he); subst he; replace H := H.still hb; clear hb)
    | (go_at_call 205; ((with_reducible refine (sameTable_c a.live c.live _ (ha.live.at_ H) (hb0.live.at_ H) Z3).mono ?_)); rintro e w ⟨he, hb⟩; (try rw [h5] at he); subst he; replace H := H.still hb; clear hb)
    | (go_at_call 154; ((with_reducible refine (equalInts_c a.seen c.seen _ (ha.seen.at_ H) (hb0.seen.at_ H) Z4).mono ?_)); rintro e w ⟨he, hb⟩; (try rw [h15] at he); subst he; replace H := H.still hb; clear hb))
  all_goals (go_ret; refine ⟨ret_bool ?_, H.below⟩; clear H; rw [meq, ctl_beq, exit_beq]; simp [h1, h2, h3, h4, h5, h6, h7, h8, h9, h10, h11, h12, h13, h14, h15])
theorem sameGuest_any (a c : GV) (w : World) (ha : GRd w a) (hb0 : GRd w c) (hz : GBig a) : Calls Tryz.prog 153 #[a.val, c.val] w fun e w' => e = .returned (.bool (a.m == c.m)) ∧ Below w.heap.size w w' := by
  cases h1 : (a.prog.xs == c.prog.xs)
  · exact sameGuest_0 a c w ha hb0 hz h1
  cases h2 : (a.a == c.a)
  · exact sameGuest_1 a c w ha hb0 hz h1 h2
  cases h3 : (a.pc == c.pc)
  · exact sameGuest_2 a c w ha hb0 hz h1 h2 h3
  cases h4 : (a.written.xs == c.written.xs)
  · exact sameGuest_3 a c w ha hb0 hz h1 h2 h3 h4
  cases h5 : (a.live.xs == c.live.xs)
  · exact sameGuest_4 a c w ha hb0 hz h1 h2 h3 h4 h5
  cases h6 : (a.ctl.traps == c.ctl.traps)
  · exact sameGuest_5 a c w ha hb0 hz h1 h2 h3 h4 h5 h6
  cases h7 : (a.ctl.post == c.ctl.post)
  · exact sameGuest_6 a c w ha hb0 hz h1 h2 h3 h4 h5 h6 h7
  cases h8 : (a.ctl.opn == c.ctl.opn)
  · exact sameGuest_7 a c w ha hb0 hz h1 h2 h3 h4 h5 h6 h7 h8
  cases h9 : (a.pending == c.pending)
  · exact sameGuest_8 a c w ha hb0 hz h1 h2 h3 h4 h5 h6 h7 h8 h9
  cases h10 : (a.exit.kind == c.exit.kind)
  · exact sameGuest_9 a c w ha hb0 hz h1 h2 h3 h4 h5 h6 h7 h8 h9 h10
  cases h11 : (a.exit.page == c.exit.page)
  · exact sameGuest_10 a c w ha hb0 hz h1 h2 h3 h4 h5 h6 h7 h8 h9 h10 h11
  cases h12 : (a.exit.write == c.exit.write)
  · exact sameGuest_11 a c w ha hb0 hz h1 h2 h3 h4 h5 h6 h7 h8 h9 h10 h11 h12
  cases h13 : (a.exit.n == c.exit.n)
  · exact sameGuest_12 a c w ha hb0 hz h1 h2 h3 h4 h5 h6 h7 h8 h9 h10 h11 h12 h13
  cases h14 : (a.halted == c.halted)
  · exact sameGuest_13 a c w ha hb0 hz h1 h2 h3 h4 h5 h6 h7 h8 h9 h10 h11 h12 h13 h14
  cases h15 : (a.seen.xs == c.seen.xs)
  · exact sameGuest_14 a c w ha hb0 hz h1 h2 h3 h4 h5 h6 h7 h8 h9 h10 h11 h12 h13 h14 h15
  exact sameGuest_15 a c w ha hb0 hz h1 h2 h3 h4 h5 h6 h7 h8 h9 h10 h11 h12 h13 h14 h15
end Go.Proofs.YtaafnenmdombiaaGreat
