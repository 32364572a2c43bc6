/- Contract of SameGuest, of the reference. No condition but that the arguments lie in memory. -/
import Derived.Test.YtgeoilpmmdfemaaSamh
namespace Go.Proofs.Ytgeoilpmmdfemaa
open Go.RowKit
set_option maxRecDepth 100000 in
set_option maxHeartbeats 2000000 in
theorem specSameGuest_0 (a c : GV) (w : World) (ha : GRd w a) (hb0 : GRd w c) (hz : GBig a) (h1 : (a.prog.xs == c.prog.xs) = false) : Calls Try.prog 160 #[a.val, c.val] w fun e w' => e = .returned (.bool (a.m == c.m)) ∧ Below w.heap.size w w' := by
  obtain ⟨Z1, Z2, Z3, Z4⟩ := id hz
  simp only [big] at Z1 Z2 Z3 Z4
  have H := Hp.start w
  go_enter Try.func160, Try.ntmps160
  simp only [List.append]
  go_wp2_with (first
    | go_skip
    | (refine wpList_box_H rfl rfl H rfl (by first | exact CellsOf.agg | exact CellsOf.int | exact CellsOf.bool | exact CellsOf.slice | exact CellsOf.string | exact CellsOf.pointer | exact CellsOf.func) ?_; clear H; intro b w H)
    | (refine wpList_alloc_H rfl rfl H ?_; clear H; intro b w H)
    | (refine wpList_load_H rfl rfl H rfl (by repeat (first | exact LoadAt.here rfl | apply LoadAt.there)) ?_)
    | (refine wpList_loads_H rfl rfl H rfl (by repeat (first | (apply LoadsAt.here; repeat (first | exact GetsAt.nil | apply GetsAt.here | apply GetsAt.there)) | apply LoadsAt.there)) ?_)
    | (refine wpList_store_H rfl rfl H rfl rfl (by repeat (first | (apply StoreAt.here; (first | exact CellsOf.agg | exact CellsOf.int | exact CellsOf.bool | exact CellsOf.slice | exact CellsOf.string | exact CellsOf.pointer | exact CellsOf.func); (repeat (first | exact SetsAt.nil | apply SetsAt.here | apply SetsAt.there)); exact rfl; exact rfl) | apply StoreAt.there)) ?_; clear H; intro w H)
    | (go_at_call 198; ((with_reducible refine (specSameProg_c a.prog c.prog _ (ha.prog.at_ H) (hb0.prog.at_ H) Z1).mono ?_)); rintro e w ⟨he, hb⟩; (try rw [h1] at he); subst he; replace H := H.still hb; clear hb)
    | (go_at_call 199; ((with_reducible refine (specSameTable_c a.written c.written _ (ha.written.at_ H) (hb0.written.at_ H) Z2).mono ?_)); rintro e w ⟨he, hb⟩; subst he; replace H := H.still hb; clear hb)
    | (go_at_call 199; ((with_reducible refine (specSameTable_c a.live c.live _ (ha.live.at_ H) (hb0.live.at_ H) Z3).mono ?_)); rintro e w ⟨he, hb⟩; subst he; replace H := H.still hb; clear hb)
    | (go_at_call 87; ((with_reducible refine (specInts_c a.seen c.seen _ (ha.seen.at_ H) (hb0.seen.at_ H) Z4).mono ?_)); rintro e w ⟨he, hb⟩; subst he; replace H := H.still hb; clear hb))
  all_goals (go_ret; refine ⟨ret_bool ?_, H.below⟩; clear H; rw [meq, ctl_beq, exit_beq]; simp [h1])
set_option maxRecDepth 100000 in
set_option maxHeartbeats 2000000 in
theorem specSameGuest_1 (a c : GV) (w : World) (ha : GRd w a) (hb0 : GRd w c) (hz : GBig a) (h1 : (a.prog.xs == c.prog.xs) = true) (h2 : (a.a == c.a) = false) : Calls Try.prog 160 #[a.val, c.val] w fun e w' => e = .returned (.bool (a.m == c.m)) ∧ Below w.heap.size w w' := by
  obtain ⟨Z1, Z2, Z3, Z4⟩ := id hz
  simp only [big] at Z1 Z2 Z3 Z4
  have H := Hp.start w
  go_enter Try.func160, Try.ntmps160
  simp only [List.append]
  go_wp2_with (first
    | go_skip
    | (refine wpList_box_H rfl rfl H rfl (by first | exact CellsOf.agg | exact CellsOf.int | exact CellsOf.bool | exact CellsOf.slice | exact CellsOf.string | exact CellsOf.pointer | exact CellsOf.func) ?_; clear H; intro b w H)
    | (refine wpList_alloc_H rfl rfl H ?_; clear H; intro b w H)
    | (refine wpList_load_H rfl rfl H rfl (by repeat (first | exact LoadAt.here rfl | apply LoadAt.there)) ?_)
    | (refine wpList_loads_H rfl rfl H rfl (by repeat (first | (apply LoadsAt.here; repeat (first | exact GetsAt.nil | apply GetsAt.here | apply GetsAt.there)) | apply LoadsAt.there)) ?_)
    | (refine wpList_store_H rfl rfl H rfl rfl (by repeat (first | (apply StoreAt.here; (first | exact CellsOf.agg | exact CellsOf.int | exact CellsOf.bool | exact CellsOf.slice | exact CellsOf.string | exact CellsOf.pointer | exact CellsOf.func); (repeat (first | exact SetsAt.nil | apply SetsAt.here | apply SetsAt.there)); exact rfl; exact rfl) | apply StoreAt.there)) ?_; clear H; intro w H)
    | (go_at_call 198; ((with_reducible refine (specSameProg_c a.prog c.prog _ (ha.prog.at_ H) (hb0.prog.at_ H) Z1).mono ?_)); rintro e w ⟨he, hb⟩; (try rw [h1] at he); subst he; replace H := H.still hb; clear hb)
    | (go_at_call 199; ((with_reducible refine (specSameTable_c a.written c.written _ (ha.written.at_ H) (hb0.written.at_ H) Z2).mono ?_)); rintro e w ⟨he, hb⟩; subst he; replace H := H.still hb; clear hb)
    | (go_at_call 199; ((with_reducible refine (specSameTable_c a.live c.live _ (ha.live.at_ H) (hb0.live.at_ H) Z3).mono ?_)); rintro e w ⟨he, hb⟩; subst he; replace H := H.still hb; clear hb)
    | (go_at_call 87; ((with_reducible refine (specInts_c a.seen c.seen _ (ha.seen.at_ H) (hb0.seen.at_ H) Z4).mono ?_)); rintro e w ⟨he, hb⟩; subst he; replace H := H.still hb; clear hb))
  all_goals (go_ret; refine ⟨ret_bool ?_, H.below⟩; clear H; rw [meq, ctl_beq, exit_beq]; simp [h1, h2])
set_option maxRecDepth 100000 in
set_option maxHeartbeats 2000000 in
theorem specSameGuest_2 (a c : GV) (w : World) (ha : GRd w a) (hb0 : GRd w c) (hz : GBig a) (h1 : (a.prog.xs == c.prog.xs) = true) (h2 : (a.a == c.a) = true) (h3 : (a.pc == c.pc) = false) : Calls Try.prog 160 #[a.val, c.val] w fun e w' => e = .returned (.bool (a.m == c.m)) ∧ Below w.heap.size w w' := by
  obtain ⟨Z1, Z2, Z3, Z4⟩ := id hz
  simp only [big] at Z1 Z2 Z3 Z4
  have H := Hp.start w
  go_enter Try.func160, Try.ntmps160
  simp only [List.append]
  go_wp2_with (first
    | go_skip
    | (refine wpList_box_H rfl rfl H rfl (by first | exact CellsOf.agg | exact CellsOf.int | exact CellsOf.bool | exact CellsOf.slice | exact CellsOf.string | exact CellsOf.pointer | exact CellsOf.func) ?_; clear H; intro b w H)
    | (refine wpList_alloc_H rfl rfl H ?_; clear H; intro b w H)
    | (refine wpList_load_H rfl rfl H rfl (by repeat (first | exact LoadAt.here rfl | apply LoadAt.there)) ?_)
    | (refine wpList_loads_H rfl rfl H rfl (by repeat (first | (apply LoadsAt.here; repeat (first | exact GetsAt.nil | apply GetsAt.here | apply GetsAt.there)) | apply LoadsAt.there)) ?_)
    | (refine wpList_store_H rfl rfl H rfl rfl (by repeat (first | (apply StoreAt.here; (first | exact CellsOf.agg | exact CellsOf.int | exact CellsOf.bool | exact CellsOf.slice | exact CellsOf.string | exact CellsOf.pointer | exact CellsOf.func); (repeat (first | exact SetsAt.nil | apply SetsAt.here | apply SetsAt.there)); exact rfl; exact rfl) | apply StoreAt.there)) ?_; clear H; intro w H)
    | (go_at_call 198; ((with_reducible refine (specSameProg_c a.prog c.prog _ (ha.prog.at_ H) (hb0.prog.at_ H) Z1).mono ?_)); rintro e w ⟨he, hb⟩; (try rw [h1] at he); subst he; replace H := H.still hb; clear hb)
    | (go_at_call 199; ((with_reducible refine (specSameTable_c a.written c.written _ (ha.written.at_ H) (hb0.written.at_ H) Z2).mono ?_)); rintro e w ⟨he, hb⟩; subst he; replace H := H.still hb; clear hb)
    | (go_at_call 199; ((with_reducible refine (specSameTable_c a.live c.live _ (ha.live.at_ H) (hb0.live.at_ H) Z3).mono ?_)); rintro e w ⟨he, hb⟩; subst he; replace H := H.still hb; clear hb)
    | (go_at_call 87; ((with_reducible refine (specInts_c a.seen c.seen _ (ha.seen.at_ H) (hb0.seen.at_ H) Z4).mono ?_)); rintro e w ⟨he, hb⟩; subst he; replace H := H.still hb; clear hb))
  all_goals (go_ret; refine ⟨ret_bool ?_, H.below⟩; clear H; rw [meq, ctl_beq, exit_beq]; simp [h1, h2, h3])
set_option maxRecDepth 100000 in
set_option maxHeartbeats 2000000 in
theorem specSameGuest_3 (a c : GV) (w : World) (ha : GRd w a) (hb0 : GRd w c) (hz : GBig a) (h1 : (a.prog.xs == c.prog.xs) = true) (h2 : (a.a == c.a) = true) (h3 : (a.pc == c.pc) = true) (h4 : (a.written.xs == c.written.xs) = false) : Calls Try.prog 160 #[a.val, c.val] w fun e w' => e = .returned (.bool (a.m == c.m)) ∧ Below w.heap.size w w' := by
  obtain ⟨Z1, Z2, Z3, Z4⟩ := id hz
  simp only [big] at Z1 Z2 Z3 Z4
  have H := Hp.start w
  go_enter Try.func160, Try.ntmps160
  simp only [List.append]
  go_wp2_with (first
    | go_skip
    | (refine wpList_box_H rfl rfl H rfl (by first | exact CellsOf.agg | exact CellsOf.int | exact CellsOf.bool | exact CellsOf.slice | exact CellsOf.string | exact CellsOf.pointer | exact CellsOf.func) ?_; clear H; intro b w H)
    | (refine wpList_alloc_H rfl rfl H ?_; clear H; intro b w H)
    | (refine wpList_load_H rfl rfl H rfl (by repeat (first | exact LoadAt.here rfl | apply LoadAt.there)) ?_)
    | (refine wpList_loads_H rfl rfl H rfl (by repeat (first | (apply LoadsAt.here; repeat (first | exact GetsAt.nil | apply GetsAt.here | apply GetsAt.there)) | apply LoadsAt.there)) ?_)
    | (refine wpList_store_H rfl rfl H rfl rfl (by repeat (first | (apply StoreAt.here; (first | exact CellsOf.agg | exact CellsOf.int | exact CellsOf.bool | exact CellsOf.slice | exact CellsOf.string | exact CellsOf.pointer | exact CellsOf.func); (repeat (first | exact SetsAt.nil | apply SetsAt.here | apply SetsAt.there)); exact rfl; exact rfl) | apply StoreAt.there)) ?_; clear H; intro w H)
    | (go_at_call 198; ((with_reducible refine (specSameProg_c a.prog c.prog _ (ha.prog.at_ H) (hb0.prog.at_ H) Z1).mono ?_)); rintro e w ⟨he, hb⟩; (try rw [h1] at he); subst he; replace H := H.still hb; clear hb)
    | (go_at_call 199; ((with_reducible refine (specSameTable_c a.written c.written _ (ha.written.at_ H) (hb0.written.at_ H) Z2).mono ?_)); rintro e w ⟨he, hb⟩; (try rw [h4] at he); subst he; replace H := H.still hb; clear hb)
    | (go_at_call 199; ((with_reducible refine (specSameTable_c a.live c.live _ (ha.live.at_ H) (hb0.live.at_ H) Z3).mono ?_)); rintro e w ⟨he, hb⟩; subst he; replace H := H.still hb; clear hb)
    | (go_at_call 87; ((with_reducible refine (specInts_c a.seen c.seen _ (ha.seen.at_ H) (hb0.seen.at_ H) Z4).mono ?_)); rintro e w ⟨he, hb⟩; subst he; replace H := H.still hb; clear hb))
  all_goals (go_ret; refine ⟨ret_bool ?_, H.below⟩; clear H; rw [meq, ctl_beq, exit_beq]; simp [h1, h2, h3, h4])
set_option maxRecDepth 100000 in
set_option maxHeartbeats 2000000 in
theorem specSameGuest_4 (a c : GV) (w : World) (ha : GRd w a) (hb0 : GRd w c) (hz : GBig a) (h1 : (a.prog.xs == c.prog.xs) = true) (h2 : (a.a == c.a) = true) (h3 : (a.pc == c.pc) = true) (h4 : (a.written.xs == c.written.xs) = true) (h5 : (a.live.xs == c.live.xs) = false) : Calls Try.prog 160 #[a.val, c.val] w fun e w' => e = .returned (.bool (a.m == c.m)) ∧ Below w.heap.size w w' := by
  obtain ⟨Z1, Z2, Z3, Z4⟩ := id hz
  simp only [big] at Z1 Z2 Z3 Z4
  have H := Hp.start w
  go_enter Try.func160, Try.ntmps160
  simp only [List.append]
  go_wp2_with (first
    | go_skip
    | (refine wpList_box_H rfl rfl H rfl (by first | exact CellsOf.agg | exact CellsOf.int | exact CellsOf.bool | exact CellsOf.slice | exact CellsOf.string | exact CellsOf.pointer | exact CellsOf.func) ?_; clear H; intro b w H)
    | (refine wpList_alloc_H rfl rfl H ?_; clear H; intro b w H)
    | (refine wpList_load_H rfl rfl H rfl (by repeat (first | exact LoadAt.here rfl | apply LoadAt.there)) ?_)
    | (refine wpList_loads_H rfl rfl H rfl (by repeat (first | (apply LoadsAt.here; repeat (first | exact GetsAt.nil | apply GetsAt.here | apply GetsAt.there)) | apply LoadsAt.there)) ?_)
    | (refine wpList_store_H rfl rfl H rfl rfl (by repeat (first | (apply StoreAt.here; (first | exact CellsOf.agg | exact CellsOf.int | exact CellsOf.bool | exact CellsOf.slice | exact CellsOf.string | exact CellsOf.pointer | exact CellsOf.func); (repeat (first | exact SetsAt.nil | apply SetsAt.here | apply SetsAt.there)); exact rfl; exact rfl) | apply StoreAt.there)) ?_; clear H; intro w H)
    | (go_at_call 198; ((with_reducible refine (specSameProg_c a.prog c.prog _ (ha.prog.at_ H) (hb0.prog.at_ H) Z1).mono ?_)); rintro e w ⟨he, hb⟩; (try rw [h1] at he); subst he; replace H := H.still hb; clear hb)
    | (go_at_call 199; ((with_reducible refine (specSameTable_c a.written c.written _ (ha.written.at_ H) (hb0.written.at_ H) Z2).mono ?_)); rintro e w ⟨he, hb⟩; (try rw [h4] at he); subst he; replace H := H.still hb; clear hb)
    | (go_at_call 199; ((with_reducible refine (specSameTable_c a.live c.live _ (ha.live.at_ H) (hb0.live.at_ H) Z3).mono ?_)); rintro e w ⟨he, hb⟩; (try rw [h5] at he); subst he; replace H := H.still hb; clear hb)
    | (go_at_call 87; ((with_reducible refine (specInts_c a.seen c.seen _ (ha.seen.at_ H) (hb0.seen.at_ H) Z4).mono ?_)); rintro e w ⟨he, hb⟩; subst he; replace H := H.still hb; clear hb))
  all_goals (go_ret; refine ⟨ret_bool ?_, H.below⟩; clear H; rw [meq, ctl_beq, exit_beq]; simp [h1, h2, h3, h4, h5])
set_option maxRecDepth 100000 in
set_option maxHeartbeats 2000000 in
theorem specSameGuest_5 (a c : GV) (w : World) (ha : GRd w a) (hb0 : GRd w c) (hz : GBig a) (h1 : (a.prog.xs == c.prog.xs) = true) (h2 : (a.a == c.a) = true) (h3 : (a.pc == c.pc) = true) (h4 : (a.written.xs == c.written.xs) = true) (h5 : (a.live.xs == c.live.xs) = true) (h6 : (a.ctl.traps == c.ctl.traps) = false) : Calls Try.prog 160 #[a.val, c.val] w fun e w' => e = .returned (.bool (a.m == c.m)) ∧ Below w.heap.size w w' := by
  obtain ⟨Z1, Z2, Z3, Z4⟩ := id hz
  simp only [big] at Z1 Z2 Z3 Z4
  have H := Hp.start w
  go_enter Try.func160, Try.ntmps160
  simp only [List.append]
  go_wp2_with (first
    | go_skip
    | (refine wpList_box_H rfl rfl H rfl (by first | exact CellsOf.agg | exact CellsOf.int | exact CellsOf.bool | exact CellsOf.slice | exact CellsOf.string | exact CellsOf.pointer | exact CellsOf.func) ?_; clear H; intro b w H)
    | (refine wpList_alloc_H rfl rfl H ?_; clear H; intro b w H)
    | (refine wpList_load_H rfl rfl H rfl (by repeat (first | exact LoadAt.here rfl | apply LoadAt.there)) ?_)
    | (refine wpList_loads_H rfl rfl H rfl (by repeat (first | (apply LoadsAt.here; repeat (first | exact GetsAt.nil | apply GetsAt.here | apply GetsAt.there)) | apply LoadsAt.there)) ?_)
    | (refine wpList_store_H rfl rfl H rfl rfl (by repeat (first | (apply StoreAt.here; (first | exact CellsOf.agg | exact CellsOf.int | exact CellsOf.bool | exact CellsOf.slice | exact CellsOf.string | exact CellsOf.pointer | exact CellsOf.func); (repeat (first | exact SetsAt.nil | apply SetsAt.here | apply SetsAt.there)); exact rfl; exact rfl) | apply StoreAt.there)) ?_; clear H; intro w H)
    | (go_at_call 198; ((with_reducible refine (specSameProg_c a.prog c.prog _ (ha.prog.at_ H) (hb0.prog.at_ H) Z1).mono ?_)); rintro e w ⟨he, hb⟩; (try rw [h1] at he); subst he; replace H := H.still hb; clear hb)
    | (go_at_call 199; ((with_reducible refine (specSameTable_c a.written c.written _ (ha.written.at_ H) (hb0.written.at_ H) Z2).mono ?_)); rintro e w ⟨he, hb⟩; (try rw [h4] at he); subst he; replace H := H.still hb; clear hb)
    | (go_at_call 199; ((with_reducible refine (specSameTable_c a.live c.live _ (ha.live.at_ H) (hb0.live.at_ H) Z3).mono ?_)); rintro e w ⟨he, hb⟩; (try rw [h5] at he); subst he; replace H := H.still hb; clear hb)
    | (go_at_call 87; ((with_reducible refine (specInts_c a.seen c.seen _ (ha.seen.at_ H) (hb0.seen.at_ H) Z4).mono ?_)); rintro e w ⟨he, hb⟩; subst he; replace H := H.still hb; clear hb))
  all_goals (go_ret; refine ⟨ret_bool ?_, H.below⟩; clear H; rw [meq, ctl_beq, exit_beq]; simp [h1, h2, h3, h4, h5, h6])
set_option maxRecDepth 100000 in
set_option maxHeartbeats 2000000 in
theorem specSameGuest_6 (a c : GV) (w : World) (ha : GRd w a) (hb0 : GRd w c) (hz : GBig a) (h1 : (a.prog.xs == c.prog.xs) = true) (h2 : (a.a == c.a) = true) (h3 : (a.pc == c.pc) = true) (h4 : (a.written.xs == c.written.xs) = true) (h5 : (a.live.xs == c.live.xs) = true) (h6 : (a.ctl.traps == c.ctl.traps) = true) (h7 : (a.ctl.post == c.ctl.post) = false) : Calls Try.prog 160 #[a.val, c.val] w fun e w' => e = .returned (.bool (a.m == c.m)) ∧ Below w.heap.size w w' := by
  obtain ⟨Z1, Z2, Z3, Z4⟩ := id hz
  simp only [big] at Z1 Z2 Z3 Z4
  have H := Hp.start w
  go_enter Try.func160, Try.ntmps160
  simp only [List.append]
  go_wp2_with (first
    | go_skip
    | (refine wpList_box_H rfl rfl H rfl (by first | exact CellsOf.agg | exact CellsOf.int | exact CellsOf.bool | exact CellsOf.slice | exact CellsOf.string | exact CellsOf.pointer | exact CellsOf.func) ?_; clear H; intro b w H)
    | (refine wpList_alloc_H rfl rfl H ?_; clear H; intro b w H)
    | (refine wpList_load_H rfl rfl H rfl (by repeat (first | exact LoadAt.here rfl | apply LoadAt.there)) ?_)
    | (refine wpList_loads_H rfl rfl H rfl (by repeat (first | (apply LoadsAt.here; repeat (first | exact GetsAt.nil | apply GetsAt.here | apply GetsAt.there)) | apply LoadsAt.there)) ?_)
    | (refine wpList_store_H rfl rfl H rfl rfl (by repeat (first | (apply StoreAt.here; (first | exact CellsOf.agg | exact CellsOf.int | exact CellsOf.bool | exact CellsOf.slice | exact CellsOf.string | exact CellsOf.pointer | exact CellsOf.func); (repeat (first | exact SetsAt.nil | apply SetsAt.here | apply SetsAt.there)); exact rfl; exact rfl) | apply StoreAt.there)) ?_; clear H; intro w H)
    | (go_at_call 198; ((with_reducible refine (specSameProg_c a.prog c.prog _ (ha.prog.at_ H) (hb0.prog.at_ H) Z1).mono ?_)); rintro e w ⟨he, hb⟩; (try rw [h1] at he); subst he; replace H := H.still hb; clear hb)
    | (go_at_call 199; ((with_reducible refine (specSameTable_c a.written c.written _ (ha.written.at_ H) (hb0.written.at_ H) Z2).mono ?_)); rintro e w ⟨he, hb⟩; (try rw [h4] at he); subst he; replace H := H.still hb; clear hb)
    | (go_at_call 199; ((with_reducible refine (specSameTable_c a.live c.live _ (ha.live.at_ H) (hb0.live.at_ H) Z3).mono ?_)); rintro e w ⟨he, hb⟩; (try rw [h5] at he); subst he; replace H := H.still hb; clear hb)
    | (go_at_call 87; ((with_reducible refine (specInts_c a.seen c.seen _ (ha.seen.at_ H) (hb0.seen.at_ H) Z4).mono ?_)); rintro e w ⟨he, hb⟩; subst he; replace H := H.still hb; clear hb))
  all_goals (go_ret; refine ⟨ret_bool ?_, H.below⟩; clear H; rw [meq, ctl_beq, exit_beq]; simp [h1, h2, h3, h4, h5, h6, h7])
set_option maxRecDepth 100000 in
set_option maxHeartbeats 2000000 in
theorem specSameGuest_7 (a c : GV) (w : World) (ha : GRd w a) (hb0 : GRd w c) (hz : GBig a) (h1 : (a.prog.xs == c.prog.xs) = true) (h2 : (a.a == c.a) = true) (h3 : (a.pc == c.pc) = true) (h4 : (a.written.xs == c.written.xs) = true) (h5 : (a.live.xs == c.live.xs) = true) (h6 : (a.ctl.traps == c.ctl.traps) = true) (h7 : (a.ctl.post == c.ctl.post) = true) (h8 : (a.ctl.opn == c.ctl.opn) = false) : Calls Try.prog 160 #[a.val, c.val] w fun e w' => e = .returned (.bool (a.m == c.m)) ∧ Below w.heap.size w w' := by
  obtain ⟨Z1, Z2, Z3, Z4⟩ := id hz
  simp only [big] at Z1 Z2 Z3 Z4
  have H := Hp.start w
  go_enter Try.func160, Try.ntmps160
  simp only [List.append]
  go_wp2_with (first
    | go_skip
    | (refine wpList_box_H rfl rfl H rfl (by first | exact CellsOf.agg | exact CellsOf.int | exact CellsOf.bool | exact CellsOf.slice | exact CellsOf.string | exact CellsOf.pointer | exact CellsOf.func) ?_; clear H; intro b w H)
    | (refine wpList_alloc_H rfl rfl H ?_; clear H; intro b w H)
    | (refine wpList_load_H rfl rfl H rfl (by repeat (first | exact LoadAt.here rfl | apply LoadAt.there)) ?_)
    | (refine wpList_loads_H rfl rfl H rfl (by repeat (first | (apply LoadsAt.here; repeat (first | exact GetsAt.nil | apply GetsAt.here | apply GetsAt.there)) | apply LoadsAt.there)) ?_)
    | (refine wpList_store_H rfl rfl H rfl rfl (by repeat (first | (apply StoreAt.here; (first | exact CellsOf.agg | exact CellsOf.int | exact CellsOf.bool | exact CellsOf.slice | exact CellsOf.string | exact CellsOf.pointer | exact CellsOf.func); (repeat (first | exact SetsAt.nil | apply SetsAt.here | apply SetsAt.there)); exact rfl; exact rfl) | apply StoreAt.there)) ?_; clear H; intro w H)
    | (go_at_call 198; ((with_reducible refine (specSameProg_c a.prog c.prog _ (ha.prog.at_ H) (hb0.prog.at_ H) Z1).mono ?_)); rintro e w ⟨he, hb⟩; (try rw [h1] at he); subst he; replace H := H.still hb; clear hb)
    | (go_at_call 199; ((with_reducible refine (specSameTable_c a.written c.written _ (ha.written.at_ H) (hb0.written.at_ H) Z2).mono ?_)); rintro e w ⟨he, hb⟩; (try rw [h4] at he); subst he; replace H := H.still hb; clear hb)
    | (go_at_call 199; ((with_reducible refine (specSameTable_c a.live c.live _ (ha.live.at_ H) (hb0.live.at_ H) Z3).mono ?_)); rintro e w ⟨he, hb⟩; (try rw [h5] at he); subst he; replace H := H.still hb; clear hb)
    | (go_at_call 87; ((with_reducible refine (specInts_c a.seen c.seen _ (ha.seen.at_ H) (hb0.seen.at_ H) Z4).mono ?_)); rintro e w ⟨he, hb⟩; subst he; replace H := H.still hb; clear hb))
  all_goals (go_ret; refine ⟨ret_bool ?_, H.below⟩; clear H; rw [meq, ctl_beq, exit_beq]; simp [h1, h2, h3, h4, h5, h6, h7, h8])
set_option maxRecDepth 100000 in
set_option maxHeartbeats 2000000 in
theorem specSameGuest_8 (a c : GV) (w : World) (ha : GRd w a) (hb0 : GRd w c) (hz : GBig a) (h1 : (a.prog.xs == c.prog.xs) = true) (h2 : (a.a == c.a) = true) (h3 : (a.pc == c.pc) = true) (h4 : (a.written.xs == c.written.xs) = true) (h5 : (a.live.xs == c.live.xs) = true) (h6 : (a.ctl.traps == c.ctl.traps) = true) (h7 : (a.ctl.post == c.ctl.post) = true) (h8 : (a.ctl.opn == c.ctl.opn) = true) (h9 : (a.pending == c.pending) = false) : Calls Try.prog 160 #[a.val, c.val] w fun e w' => e = .returned (.bool (a.m == c.m)) ∧ Below w.heap.size w w' := by
  obtain ⟨Z1, Z2, Z3, Z4⟩ := id hz
  simp only [big] at Z1 Z2 Z3 Z4
  have H := Hp.start w
  go_enter Try.func160, Try.ntmps160
  simp only [List.append]
  go_wp2_with (first
    | go_skip
    | (refine wpList_box_H rfl rfl H rfl (by first | exact CellsOf.agg | exact CellsOf.int | exact CellsOf.bool | exact CellsOf.slice | exact CellsOf.string | exact CellsOf.pointer | exact CellsOf.func) ?_; clear H; intro b w H)
    | (refine wpList_alloc_H rfl rfl H ?_; clear H; intro b w H)
    | (refine wpList_load_H rfl rfl H rfl (by repeat (first | exact LoadAt.here rfl | apply LoadAt.there)) ?_)
    | (refine wpList_loads_H rfl rfl H rfl (by repeat (first | (apply LoadsAt.here; repeat (first | exact GetsAt.nil | apply GetsAt.here | apply GetsAt.there)) | apply LoadsAt.there)) ?_)
    | (refine wpList_store_H rfl rfl H rfl rfl (by repeat (first | (apply StoreAt.here; (first | exact CellsOf.agg | exact CellsOf.int | exact CellsOf.bool | exact CellsOf.slice | exact CellsOf.string | exact CellsOf.pointer | exact CellsOf.func); (repeat (first | exact SetsAt.nil | apply SetsAt.here | apply SetsAt.there)); exact rfl; exact rfl) | apply StoreAt.there)) ?_; clear H; intro w H)
    | (go_at_call 198; ((with_reducible refine (specSameProg_c a.prog c.prog _ (ha.prog.at_ H) (hb0.prog.at_ H) Z1).mono ?_)); rintro e w ⟨he, hb⟩; (try rw [h1] at he); subst he; replace H := H.still hb; clear hb)
    | (go_at_call 199; ((with_reducible refine (specSameTable_c a.written c.written _ (ha.written.at_ H) (hb0.written.at_ H) Z2).mono ?_)); rintro e w ⟨he, hb⟩; (try rw [h4] at he); subst he; replace H := H.still hb; clear hb)
    | (go_at_call 199; ((with_reducible refine (specSameTable_c a.live c.live _ (ha.live.at_ H) (hb0.live.at_ H) Z3).mono ?_)); rintro e w ⟨he, hb⟩; (try rw [h5] at he); subst he; replace H := H.still hb; clear hb)
    | (go_at_call 87; ((with_reducible refine (specInts_c a.seen c.seen _ (ha.seen.at_ H) (hb0.seen.at_ H) Z4).mono ?_)); rintro e w ⟨he, hb⟩; subst he; replace H := H.still hb; clear hb))
  all_goals (go_ret; refine ⟨ret_bool ?_, H.below⟩; clear H; rw [meq, ctl_beq, exit_beq]; simp [h1, h2, h3, h4, h5, h6, h7, h8, h9])
set_option maxRecDepth 100000 in
set_option maxHeartbeats 2000000 in
theorem specSameGuest_9 (a c : GV) (w : World) (ha : GRd w a) (hb0 : GRd w c) (hz : GBig a) (h1 : (a.prog.xs == c.prog.xs) = true) (h2 : (a.a == c.a) = true) (h3 : (a.pc == c.pc) = true) (h4 : (a.written.xs == c.written.xs) = true) (h5 : (a.live.xs == c.live.xs) = true) (h6 : (a.ctl.traps == c.ctl.traps) = true) (h7 : (a.ctl.post == c.ctl.post) = true) (h8 : (a.ctl.opn == c.ctl.opn) = true) (h9 : (a.pending == c.pending) = true) (h10 : (a.exit.kind == c.exit.kind) = false) : Calls Try.prog 160 #[a.val, c.val] w fun e w' => e = .returned (.bool (a.m == c.m)) ∧ Below w.heap.size w w' := by
  obtain ⟨Z1, Z2, Z3, Z4⟩ := id hz
  simp only [big] at Z1 Z2 Z3 Z4
  have H := Hp.start w
  go_enter Try.func160, Try.ntmps160
  simp only [List.append]
  go_wp2_with (first
    | go_skip
    | (refine wpList_box_H rfl rfl H rfl (by first | exact CellsOf.agg | exact CellsOf.int | exact CellsOf.bool | exact CellsOf.slice | exact CellsOf.string | exact CellsOf.pointer | exact CellsOf.func) ?_; clear H; intro b w H)
    | (refine wpList_alloc_H rfl rfl H ?_; clear H; intro b w H)
    | (refine wpList_load_H rfl rfl H rfl (by repeat (first | exact LoadAt.here rfl | apply LoadAt.there)) ?_)
    | (refine wpList_loads_H rfl rfl H rfl (by repeat (first | (apply LoadsAt.here; repeat (first | exact GetsAt.nil | apply GetsAt.here | apply GetsAt.there)) | apply LoadsAt.there)) ?_)
    | (refine wpList_store_H rfl rfl H rfl rfl (by repeat (first | (apply StoreAt.here; (first | exact CellsOf.agg | exact CellsOf.int | exact CellsOf.bool | exact CellsOf.slice | exact CellsOf.string | exact CellsOf.pointer | exact CellsOf.func); (repeat (first | exact SetsAt.nil | apply SetsAt.here | apply SetsAt.there)); exact rfl; exact rfl) | apply StoreAt.there)) ?_; clear H; intro w H)
    | (go_at_call 198; ((with_reducible refine (specSameProg_c a.prog c.prog _ (ha.prog.at_ H) (hb0.prog.at_ H) Z1).mono ?_)); rintro e w ⟨he, hb⟩; (try rw [h1] at he); subst he; replace H := H.still hb; clear hb)
    | (go_at_call 199; ((with_reducible refine (specSameTable_c a.written c.written _ (ha.written.at_ H) (hb0.written.at_ H) Z2).mono ?_)); rintro e w ⟨he, hb⟩; (try rw [h4] at he); subst he; replace H := H.still hb; clear hb)
    | (go_at_call 199; ((with_reducible refine (specSameTable_c a.live c.live _ (ha.live.at_ H) (hb0.live.at_ H) Z3).mono ?_)); rintro e w ⟨he, hb⟩; (try rw [h5] at he); subst he; replace H := H.still hb; clear hb)
    | (go_at_call 87; ((with_reducible refine (specInts_c a.seen c.seen _ (ha.seen.at_ H) (hb0.seen.at_ H) Z4).mono ?_)); rintro e w ⟨he, hb⟩; subst he; replace H := H.still hb; clear hb))
  all_goals (go_ret; refine ⟨ret_bool ?_, H.below⟩; clear H; rw [meq, ctl_beq, exit_beq]; simp [h1, h2, h3, h4, h5, h6, h7, h8, h9, h10])
set_option maxRecDepth 100000 in
set_option maxHeartbeats 2000000 in
theorem specSameGuest_10 (a c : GV) (w : World) (ha : GRd w a) (hb0 : GRd w c) (hz : GBig a) (h1 : (a.prog.xs == c.prog.xs) = true) (h2 : (a.a == c.a) = true) (h3 : (a.pc == c.pc) = true) (h4 : (a.written.xs == c.written.xs) = true) (h5 : (a.live.xs == c.live.xs) = true) (h6 : (a.ctl.traps == c.ctl.traps) = true) (h7 : (a.ctl.post == c.ctl.post) = true) (h8 : (a.ctl.opn == c.ctl.opn) = true) (h9 : (a.pending == c.pending) = true) (h10 : (a.exit.kind == c.exit.kind) = true) (h11 : (a.exit.page == c.exit.page) = false) : Calls Try.prog 160 #[a.val, c.val] w fun e w' => e = .returned (.bool (a.m == c.m)) ∧ Below w.heap.size w w' := by
  obtain ⟨Z1, Z2, Z3, Z4⟩ := id hz
  simp only [big] at Z1 Z2 Z3 Z4
  have H := Hp.start w
  go_enter Try.func160, Try.ntmps160
  simp only [List.append]
  go_wp2_with (first
    | go_skip
    | (refine wpList_box_H rfl rfl H rfl (by first | exact CellsOf.agg | exact CellsOf.int | exact CellsOf.bool | exact CellsOf.slice | exact CellsOf.string | exact CellsOf.pointer | exact CellsOf.func) ?_; clear H; intro b w H)
    | (refine wpList_alloc_H rfl rfl H ?_; clear H; intro b w H)
    | (refine wpList_load_H rfl rfl H rfl (by repeat (first | exact LoadAt.here rfl | apply LoadAt.there)) ?_)
    | (refine wpList_loads_H rfl rfl H rfl (by repeat (first | (apply LoadsAt.here; repeat (first | exact GetsAt.nil | apply GetsAt.here | apply GetsAt.there)) | apply LoadsAt.there)) ?_)
    | (refine wpList_store_H rfl rfl H rfl rfl (by repeat (first | (apply StoreAt.here; (first | exact CellsOf.agg | exact CellsOf.int | exact CellsOf.bool | exact CellsOf.slice | exact CellsOf.string | exact CellsOf.pointer | exact CellsOf.func); (repeat (first | exact SetsAt.nil | apply SetsAt.here | apply SetsAt.there)); exact rfl; exact rfl) | apply StoreAt.there)) ?_; clear H; intro w H)
    | (go_at_call 198; ((with_reducible refine (specSameProg_c a.prog c.prog _ (ha.prog.at_ H) (hb0.prog.at_ H) Z1).mono ?_)); rintro e w ⟨he, hb⟩; (try rw [h1] at he); subst he; replace H := H.still hb; clear hb)
    | (go_at_call 199; ((with_reducible refine (specSameTable_c a.written c.written _ (ha.written.at_ H) (hb0.written.at_ H) Z2).mono ?_)); rintro e w ⟨he, hb⟩; (try rw [h4] at he); subst he; replace H := H.still hb; clear hb)
    | (go_at_call 199; ((with_reducible refine (specSameTable_c a.live c.live _ (ha.live.at_ H) (hb0.live.at_ H) Z3).mono ?_)); rintro e w ⟨he, hb⟩; (try rw [h5] at he); subst he; replace H := H.still hb; clear hb)
    | (go_at_call 87; ((with_reducible refine (specInts_c a.seen c.seen _ (ha.seen.at_ H) (hb0.seen.at_ H) Z4).mono ?_)); rintro e w ⟨he, hb⟩; subst he; replace H := H.still hb; clear hb))
  all_goals (go_ret; refine ⟨ret_bool ?_, H.below⟩; clear H; rw [meq, ctl_beq, exit_beq]; simp [h1, h2, h3, h4, h5, h6, h7, h8, h9, h10, h11])
set_option maxRecDepth 100000 in
set_option maxHeartbeats 2000000 in
theorem specSameGuest_11 (a c : GV) (w : World) (ha : GRd w a) (hb0 : GRd w c) (hz : GBig a) (h1 : (a.prog.xs == c.prog.xs) = true) (h2 : (a.a == c.a) = true) (h3 : (a.pc == c.pc) = true) (h4 : (a.written.xs == c.written.xs) = true) (h5 : (a.live.xs == c.live.xs) = true) (h6 : (a.ctl.traps == c.ctl.traps) = true) (h7 : (a.ctl.post == c.ctl.post) = true) (h8 : (a.ctl.opn == c.ctl.opn) = true) (h9 : (a.pending == c.pending) = true) (h10 : (a.exit.kind == c.exit.kind) = true) (h11 : (a.exit.page == c.exit.page) = true) (h12 : (a.exit.write == c.exit.write) = false) : Calls Try.prog 160 #[a.val, c.val] w fun e w' => e = .returned (.bool (a.m == c.m)) ∧ Below w.heap.size w w' := by
  obtain ⟨Z1, Z2, Z3, Z4⟩ := id hz
  simp only [big] at Z1 Z2 Z3 Z4
  have H := Hp.start w
  go_enter Try.func160, Try.ntmps160
  simp only [List.append]
  go_wp2_with (first
    | go_skip
    | (refine wpList_box_H rfl rfl H rfl (by first | exact CellsOf.agg | exact CellsOf.int | exact CellsOf.bool | exact CellsOf.slice | exact CellsOf.string | exact CellsOf.pointer | exact CellsOf.func) ?_; clear H; intro b w H)
    | (refine wpList_alloc_H rfl rfl H ?_; clear H; intro b w H)
    | (refine wpList_load_H rfl rfl H rfl (by repeat (first | exact LoadAt.here rfl | apply LoadAt.there)) ?_)
    | (refine wpList_loads_H rfl rfl H rfl (by repeat (first | (apply LoadsAt.here; repeat (first | exact GetsAt.nil | apply GetsAt.here | apply GetsAt.there)) | apply LoadsAt.there)) ?_)
    | (refine wpList_store_H rfl rfl H rfl rfl (by repeat (first | (apply StoreAt.here; (first | exact CellsOf.agg | exact CellsOf.int | exact CellsOf.bool | exact CellsOf.slice | exact CellsOf.string | exact CellsOf.pointer | exact CellsOf.func); (repeat (first | exact SetsAt.nil | apply SetsAt.here | apply SetsAt.there)); exact rfl; exact rfl) | apply StoreAt.there)) ?_; clear H; intro w H)
    | (go_at_call 198; ((with_reducible refine (specSameProg_c a.prog c.prog _ (ha.prog.at_ H) (hb0.prog.at_ H) Z1).mono ?_)); rintro e w ⟨he, hb⟩; (try rw [h1] at he); subst he; replace H := H.still hb; clear hb)
    | (go_at_call 199; ((with_reducible refine (specSameTable_c a.written c.written _ (ha.written.at_ H) (hb0.written.at_ H) Z2).mono ?_)); rintro e w ⟨he, hb⟩; (try rw [h4] at he); subst he; replace H := H.still hb; clear hb)
    | (go_at_call 199; ((with_reducible refine (specSameTable_c a.live c.live _ (ha.live.at_ H) (hb0.live.at_ H) Z3).mono ?_)); rintro e w ⟨he, hb⟩; (try rw [h5] at he); subst he; replace H := H.still hb; clear hb)
    | (go_at_call 87; ((with_reducible refine (specInts_c a.seen c.seen _ (ha.seen.at_ H) (hb0.seen.at_ H) Z4).mono ?_)); rintro e w ⟨he, hb⟩; subst he; replace H := H.still hb; clear hb))
  all_goals (go_ret; refine ⟨ret_bool ?_, H.below⟩; clear H; rw [meq, ctl_beq, exit_beq]; simp [h1, h2, h3, h4, h5, h6, h7, h8, h9, h10, h11, h12])
set_option maxRecDepth 100000 in
set_option maxHeartbeats 2000000 in
theorem specSameGuest_12 (a c : GV) (w : World) (ha : GRd w a) (hb0 : GRd w c) (hz : GBig a) (h1 : (a.prog.xs == c.prog.xs) = true) (h2 : (a.a == c.a) = true) (h3 : (a.pc == c.pc) = true) (h4 : (a.written.xs == c.written.xs) = true) (h5 : (a.live.xs == c.live.xs) = true) (h6 : (a.ctl.traps == c.ctl.traps) = true) (h7 : (a.ctl.post == c.ctl.post) = true) (h8 : (a.ctl.opn == c.ctl.opn) = true) (h9 : (a.pending == c.pending) = true) (h10 : (a.exit.kind == c.exit.kind) = true) (h11 : (a.exit.page == c.exit.page) = true) (h12 : (a.exit.write == c.exit.write) = true) (h13 : (a.exit.n == c.exit.n) = false) : Calls Try.prog 160 #[a.val, c.val] w fun e w' => e = .returned (.bool (a.m == c.m)) ∧ Below w.heap.size w w' := by
  obtain ⟨Z1, Z2, Z3, Z4⟩ := id hz
  simp only [big] at Z1 Z2 Z3 Z4
  have H := Hp.start w
  go_enter Try.func160, Try.ntmps160
  simp only [List.append]
  go_wp2_with (first
    | go_skip
    | (refine wpList_box_H rfl rfl H rfl (by first | exact CellsOf.agg | exact CellsOf.int | exact CellsOf.bool | exact CellsOf.slice | exact CellsOf.string | exact CellsOf.pointer | exact CellsOf.func) ?_; clear H; intro b w H)
    | (refine wpList_alloc_H rfl rfl H ?_; clear H; intro b w H)
    | (refine wpList_load_H rfl rfl H rfl (by repeat (first | exact LoadAt.here rfl | apply LoadAt.there)) ?_)
    | (refine wpList_loads_H rfl rfl H rfl (by repeat (first | (apply LoadsAt.here; repeat (first | exact GetsAt.nil | apply GetsAt.here | apply GetsAt.there)) | apply LoadsAt.there)) ?_)
    | (refine wpList_store_H rfl rfl H rfl rfl (by repeat (first | (apply StoreAt.here; (first | exact CellsOf.agg | exact CellsOf.int | exact CellsOf.bool | exact CellsOf.slice | exact CellsOf.string | exact CellsOf.pointer | exact CellsOf.func); (repeat (first | exact SetsAt.nil | apply SetsAt.here | apply SetsAt.there)); exact rfl; exact rfl) | apply StoreAt.there)) ?_; clear H; intro w H)
    | (go_at_call 198; ((with_reducible refine (specSameProg_c a.prog c.prog _ (ha.prog.at_ H) (hb0.prog.at_ H) Z1).mono ?_)); rintro e w ⟨he, hb⟩; (try rw [h1] at he); subst he; replace H := H.still hb; clear hb)
    | (go_at_call 199; ((with_reducible refine (specSameTable_c a.written c.written _ (ha.written.at_ H) (hb0.written.at_ H) Z2).mono ?_)); rintro e w ⟨he, hb⟩; (try rw [h4] at he); subst he; replace H := H.still hb; clear hb)
    | (go_at_call 199; ((with_reducible refine (specSameTable_c a.live c.live _ (ha.live.at_ H) (hb0.live.at_ H) Z3).mono ?_)); rintro e w ⟨he, hb⟩; (try rw [h5] at he); subst he; replace H := H.still hb; clear hb)
    | (go_at_call 87; ((with_reducible refine (specInts_c a.seen c.seen _ (ha.seen.at_ H) (hb0.seen.at_ H) Z4).mono ?_)); rintro e w ⟨he, hb⟩; subst he; replace H := H.still hb; clear hb))
  all_goals (go_ret; refine ⟨ret_bool ?_, H.below⟩; clear H; rw [meq, ctl_beq, exit_beq]; simp [h1, h2, h3, h4, h5, h6, h7, h8, h9, h10, h11, h12, h13])
set_option maxRecDepth 100000 in
set_option maxHeartbeats 2000000 in
theorem specSameGuest_13 (a c : GV) (w : World) (ha : GRd w a) (hb0 : GRd w c) (hz : GBig a) (h1 : (a.prog.xs == c.prog.xs) = true) (h2 : (a.a == c.a) = true) (h3 : (a.pc == c.pc) = true) (h4 : (a.written.xs == c.written.xs) = true) (h5 : (a.live.xs == c.live.xs) = true) (h6 : (a.ctl.traps == c.ctl.traps) = true) (h7 : (a.ctl.post == c.ctl.post) = true) (h8 : (a.ctl.opn == c.ctl.opn) = true) (h9 : (a.pending == c.pending) = true) (h10 : (a.exit.kind == c.exit.kind) = true) (h11 : (a.exit.page == c.exit.page) = true) (h12 : (a.exit.write == c.exit.write) = true) (h13 : (a.exit.n == c.exit.n) = true) (h14 : (a.halted == c.halted) = false) : Calls Try.prog 160 #[a.val, c.val] w fun e w' => e = .returned (.bool (a.m == c.m)) ∧ Below w.heap.size w w' := by
  obtain ⟨Z1, Z2, Z3, Z4⟩ := id hz
  simp only [big] at Z1 Z2 Z3 Z4
  have H := Hp.start w
  go_enter Try.func160, Try.ntmps160
  simp only [List.append]
  go_wp2_with (first
    | go_skip
    | (refine wpList_box_H rfl rfl H rfl (by first | exact CellsOf.agg | exact CellsOf.int | exact CellsOf.bool | exact CellsOf.slice | exact CellsOf.string | exact CellsOf.pointer | exact CellsOf.func) ?_; clear H; intro b w H)
    | (refine wpList_alloc_H rfl rfl H ?_; clear H; intro b w H)
    | (refine wpList_load_H rfl rfl H rfl (by repeat (first | exact LoadAt.here rfl | apply LoadAt.there)) ?_)
    | (refine wpList_loads_H rfl rfl H rfl (by repeat (first | (apply LoadsAt.here; repeat (first | exact GetsAt.nil | apply GetsAt.here | apply GetsAt.there)) | apply LoadsAt.there)) ?_)
    | (refine wpList_store_H rfl rfl H rfl rfl (by repeat (first | (apply StoreAt.here; (first | exact CellsOf.agg | exact CellsOf.int | exact CellsOf.bool | exact CellsOf.slice | exact CellsOf.string | exact CellsOf.pointer | exact CellsOf.func); (repeat (first | exact SetsAt.nil | apply SetsAt.here | apply SetsAt.there)); exact rfl; exact rfl) | apply StoreAt.there)) ?_; clear H; intro w H)
    | (go_at_call 198; ((with_reducible refine (specSameProg_c a.prog c.prog _ (ha.prog.at_ H) (hb0.prog.at_ H) Z1).mono ?_)); rintro e w ⟨he, hb⟩; (try rw [h1] at he); subst he; replace H := H.still hb; clear hb)
    | (go_at_call 199; ((with_reducible refine (specSameTable_c a.written c.written _ (ha.written.at_ H) (hb0.written.at_ H) Z2).mono ?_)); rintro e w ⟨he, hb⟩; (try rw [h4] at he); subst he; replace H := H.still hb; clear hb)
    | (go_at_call 199; ((with_reducible refine (specSameTable_c a.live c.live _ (ha.live.at_ H) (hb0.live.at_ H) Z3).mono ?_)); rintro e w ⟨he, hb⟩; (try rw [h5] at he); subst he; replace H := H.still hb; clear hb)
    | (go_at_call 87; ((with_reducible refine (specInts_c a.seen c.seen _ (ha.seen.at_ H) (hb0.seen.at_ H) Z4).mono ?_)); rintro e w ⟨he, hb⟩; subst he; replace H := H.still hb; clear hb))
  all_goals (go_ret; refine ⟨ret_bool ?_, H.below⟩; clear H; rw [meq, ctl_beq, exit_beq]; simp [h1, h2, h3, h4, h5, h6, h7, h8, h9, h10, h11, h12, h13, h14])
set_option maxRecDepth 100000 in
set_option maxHeartbeats 2000000 in
theorem specSameGuest_14 (a c : GV) (w : World) (ha : GRd w a) (hb0 : GRd w c) (hz : GBig a) (h1 : (a.prog.xs == c.prog.xs) = true) (h2 : (a.a == c.a) = true) (h3 : (a.pc == c.pc) = true) (h4 : (a.written.xs == c.written.xs) = true) (h5 : (a.live.xs == c.live.xs) = true) (h6 : (a.ctl.traps == c.ctl.traps) = true) (h7 : (a.ctl.post == c.ctl.post) = true) (h8 : (a.ctl.opn == c.ctl.opn) = true) (h9 : (a.pending == c.pending) = true) (h10 : (a.exit.kind == c.exit.kind) = true) (h11 : (a.exit.page == c.exit.page) = true) (h12 : (a.exit.write == c.exit.write) = true) (h13 : (a.exit.n == c.exit.n) = true) (h14 : (a.halted == c.halted) = true) (h15 : (a.seen.xs == c.seen.xs) = false) : Calls Try.prog 160 #[a.val, c.val] w fun e w' => e = .returned (.bool (a.m == c.m)) ∧ Below w.heap.size w w' := by
  obtain ⟨Z1, Z2, Z3, Z4⟩ := id hz
  simp only [big] at Z1 Z2 Z3 Z4
  have H := Hp.start w
  go_enter Try.func160, Try.ntmps160
  simp only [List.append]
  go_wp2_with (first
    | go_skip
    | (refine wpList_box_H rfl rfl H rfl (by first | exact CellsOf.agg | exact CellsOf.int | exact CellsOf.bool | exact CellsOf.slice | exact CellsOf.string | exact CellsOf.pointer | exact CellsOf.func) ?_; clear H; intro b w H)
    | (refine wpList_alloc_H rfl rfl H ?_; clear H; intro b w H)
    | (refine wpList_load_H rfl rfl H rfl (by repeat (first | exact LoadAt.here rfl | apply LoadAt.there)) ?_)
    | (refine wpList_loads_H rfl rfl H rfl (by repeat (first | (apply LoadsAt.here; repeat (first | exact GetsAt.nil | apply GetsAt.here | apply GetsAt.there)) | apply LoadsAt.there)) ?_)
    | (refine wpList_store_H rfl rfl H rfl rfl (by repeat (first | (apply StoreAt.here; (first | exact CellsOf.agg | exact CellsOf.int | exact CellsOf.bool | exact CellsOf.slice | exact CellsOf.string | exact CellsOf.pointer | exact CellsOf.func); (repeat (first | exact SetsAt.nil | apply SetsAt.here | apply SetsAt.there)); exact rfl; exact rfl) | apply StoreAt.there)) ?_; clear H; intro w H)
    | (go_at_call 198; ((with_reducible refine (specSameProg_c a.prog c.prog _ (ha.prog.at_ H) (hb0.prog.at_ H) Z1).mono ?_)); rintro e w ⟨he, hb⟩; (try rw [h1] at he); subst he; replace H := H.still hb; clear hb)
    | (go_at_call 199; ((with_reducible refine (specSameTable_c a.written c.written _ (ha.written.at_ H) (hb0.written.at_ H) Z2).mono ?_)); rintro e w ⟨he, hb⟩; (try rw [h4] at he); subst he; replace H := H.still hb; clear hb)
    | (go_at_call 199; ((with_reducible refine (specSameTable_c a.live c.live _ (ha.live.at_ H) (hb0.live.at_ H) Z3).mono ?_)); rintro e w ⟨he, hb⟩; (try rw [h5] at he); subst he; replace H := H.still hb; clear hb)
    | (go_at_call 87; ((with_reducible refine (specInts_c a.seen c.seen _ (ha.seen.at_ H) (hb0.seen.at_ H) Z4).mono ?_)); rintro e w ⟨he, hb⟩; (try rw [h15] at he); subst he; replace H := H.still hb; clear hb))
  all_goals (go_ret; refine ⟨ret_bool ?_, H.below⟩; clear H; rw [meq, ctl_beq, exit_beq]; simp [h1, h2, h3, h4, h5, h6, h7, h8, h9, h10, h11, h12, h13, h14, h15])
set_option maxRecDepth 100000 in
set_option maxHeartbeats 2000000 in
theorem specSameGuest_15 (a c : GV) (w : World) (ha : GRd w a) (hb0 : GRd w c) (hz : GBig a) (h1 : (a.prog.xs == c.prog.xs) = true) (h2 : (a.a == c.a) = true) (h3 : (a.pc == c.pc) = true) (h4 : (a.written.xs == c.written.xs) = true) (h5 : (a.live.xs == c.live.xs) = true) (h6 : (a.ctl.traps == c.ctl.traps) = true) (h7 : (a.ctl.post == c.ctl.post) = true) (h8 : (a.ctl.opn == c.ctl.opn) = true) (h9 : (a.pending == c.pending) = true) (h10 : (a.exit.kind == c.exit.kind) = true) (h11 : (a.exit.page == c.exit.page) = true) (h12 : (a.exit.write == c.exit.write) = true) (h13 : (a.exit.n == c.exit.n) = true) (h14 : (a.halted == c.halted) = true) (h15 : (a.seen.xs == c.seen.xs) = true) : Calls Try.prog 160 #[a.val, c.val] w fun e w' => e = .returned (.bool (a.m == c.m)) ∧ Below w.heap.size w w' := by
  obtain ⟨Z1, Z2, Z3, Z4⟩ := id hz
  simp only [big] at Z1 Z2 Z3 Z4
  have H := Hp.start w
  go_enter Try.func160, Try.ntmps160
  simp only [List.append]
  go_wp2_with (first
    | go_skip
    | (refine wpList_box_H rfl rfl H rfl (by first | exact CellsOf.agg | exact CellsOf.int | exact CellsOf.bool | exact CellsOf.slice | exact CellsOf.string | exact CellsOf.pointer | exact CellsOf.func) ?_; clear H; intro b w H)
    | (refine wpList_alloc_H rfl rfl H ?_; clear H; intro b w H)
    | (refine wpList_load_H rfl rfl H rfl (by repeat (first | exact LoadAt.here rfl | apply LoadAt.there)) ?_)
    | (refine wpList_loads_H rfl rfl H rfl (by repeat (first | (apply LoadsAt.here; repeat (first | exact GetsAt.nil | apply GetsAt.here | apply GetsAt.there)) | apply LoadsAt.there)) ?_)
    | (refine wpList_store_H rfl rfl H rfl rfl (by repeat (first | (apply StoreAt.here; (first | exact CellsOf.agg | exact CellsOf.int | exact CellsOf.bool | exact CellsOf.slice | exact CellsOf.string | exact CellsOf.pointer | exact CellsOf.func); (repeat (first | exact SetsAt.nil | apply SetsAt.here | apply SetsAt.there)); exact rfl; exact rfl) | apply StoreAt.there)) ?_; clear H; intro w H)
    | (go_at_call 198; ((with_reducible refine (specSameProg_c a.prog c.prog _ (ha.prog.at_ H) (hb0.prog.at_ H) Z1).mono ?_)); rintro e w ⟨he, hb⟩; (try rw [h1] at he); subst he; replace H := H.still hb; clear hb)
    | (go_at_call 199; ((with_reducible refine (specSameTable_c a.written c.written _ (ha.written.at_ H) (hb0.written.at_ H) Z2).mono ?_)); rintro e w ⟨he, hb⟩; (try rw [h4] at he); subst he; replace H := H.still hb; clear hb)
    | (go_at_call 199; ((with_reducible refine (specSameTable_c a.live c.live _ (ha.live.at_ H) (hb0.live.at_ H) Z3).mono ?_)); rintro e w ⟨he, hb⟩; (try rw [h5] at he); subst he; replace H := H.still hb; clear hb)
    | (go_at_call 87; ((with_reducible refine (specInts_c a.seen c.seen _ (ha.seen.at_ H) (hb0.seen.at_ H) Z4).mono ?_)); rintro e w ⟨he, hb⟩; (try rw [h15] at he); subst he; replace H := H.still hb; clear hb))
  all_goals (go_ret; refine ⟨ret_bool ?_, H.below⟩; clear H; rw [meq, ctl_beq, exit_beq]; simp [h1, h2, h3, h4, h5, h6, h7, h8, h9, h10, h11, h12, h13, h14, h15])
theorem specSameGuest_any (a c : GV) (w : World) (ha : GRd w a) (hb0 : GRd w c) (hz : GBig a) : Calls Try.prog 160 #[a.val, c.val] w fun e w' => e = .returned (.bool (a.m == c.m)) ∧ Below w.heap.size w w' := by
  cases h1 : (a.prog.xs == c.prog.xs)
  · exact specSameGuest_0 a c w ha hb0 hz h1
  cases h2 : (a.a == c.a)
  · exact specSameGuest_1 a c w ha hb0 hz h1 h2
  cases h3 : (a.pc == c.pc)
  · exact specSameGuest_2 a c w ha hb0 hz h1 h2 h3
  cases h4 : (a.written.xs == c.written.xs)
  · exact specSameGuest_3 a c w ha hb0 hz h1 h2 h3 h4
  cases h5 : (a.live.xs == c.live.xs)
  · exact specSameGuest_4 a c w ha hb0 hz h1 h2 h3 h4 h5
  cases h6 : (a.ctl.traps == c.ctl.traps)
  · exact specSameGuest_5 a c w ha hb0 hz h1 h2 h3 h4 h5 h6
  cases h7 : (a.ctl.post == c.ctl.post)
  · exact specSameGuest_6 a c w ha hb0 hz h1 h2 h3 h4 h5 h6 h7
  cases h8 : (a.ctl.opn == c.ctl.opn)
  · exact specSameGuest_7 a c w ha hb0 hz h1 h2 h3 h4 h5 h6 h7 h8
  cases h9 : (a.pending == c.pending)
  · exact specSameGuest_8 a c w ha hb0 hz h1 h2 h3 h4 h5 h6 h7 h8 h9
  cases h10 : (a.exit.kind == c.exit.kind)
  · exact specSameGuest_9 a c w ha hb0 hz h1 h2 h3 h4 h5 h6 h7 h8 h9 h10
  cases h11 : (a.exit.page == c.exit.page)
  · exact specSameGuest_10 a c w ha hb0 hz h1 h2 h3 h4 h5 h6 h7 h8 h9 h10 h11
  cases h12 : (a.exit.write == c.exit.write)
  · exact specSameGuest_11 a c w ha hb0 hz h1 h2 h3 h4 h5 h6 h7 h8 h9 h10 h11 h12
  cases h13 : (a.exit.n == c.exit.n)
  · exact specSameGuest_12 a c w ha hb0 hz h1 h2 h3 h4 h5 h6 h7 h8 h9 h10 h11 h12 h13
  cases h14 : (a.halted == c.halted)
  · exact specSameGuest_13 a c w ha hb0 hz h1 h2 h3 h4 h5 h6 h7 h8 h9 h10 h11 h12 h13 h14
  cases h15 : (a.seen.xs == c.seen.xs)
  · exact specSameGuest_14 a c w ha hb0 hz h1 h2 h3 h4 h5 h6 h7 h8 h9 h10 h11 h12 h13 h14 h15
  exact specSameGuest_15 a c w ha hb0 hz h1 h2 h3 h4 h5 h6 h7 h8 h9 h10 h11 h12 h13 h14 h15
end Go.Proofs.Ytgeoilpmmdfemaa
