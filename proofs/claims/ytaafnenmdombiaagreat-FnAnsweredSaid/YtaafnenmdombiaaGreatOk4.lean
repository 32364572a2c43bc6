/- Contract of GuestOk, of the program and of the reference. No condition but that the argument lies in memory. -/
import Derived.Test.YtaafnenmdombiaaGreatOk3
namespace Go.Proofs.YtaafnenmdombiaaGreat
open Go.RowKit
set_option maxRecDepth 100000 in
set_option maxHeartbeats 2000000 in
theorem guestOk_0 (g : GV) (w : World) (hg : GRd w g) (hz : GBig g) (h1 : (progOkM g.prog.xs) = false) : Calls Tryz.prog 155 #[g.val] w fun e w' => e = .returned (.bool (guestOkM g.m)) ∧ Below w.heap.size w w' := by
  obtain ⟨Z1, Z2, Z3, Z4⟩ := id hz
  simp only [big] at Z1 Z2 Z3 Z4
  have H := Hp.start w
  go_enter Tryz.func155, Tryz.ntmps155
  go_wp2_with (first
    | (refine wpList_box_H rfl rfl H rfl (by constructor) ?_; clear H; intro b w H)
    | (refine wpList_alloc_H rfl rfl H ?_; clear H; intro b w H)
    | (refine wpList_load_H rfl rfl H rfl (by repeat constructor) ?_)
    | (refine wpList_loads_H rfl rfl H rfl (by repeat constructor) ?_)
    | (refine wpList_store_H rfl rfl H rfl rfl (by repeat constructor) ?_; clear H; intro w H)
    | (go_at_call 206; ((with_reducible refine (progOk_c g.prog _ (hg.prog.at_ H) Z1).mono ?_)); rintro e w ⟨he, hb⟩; (try rw [h1] at he); subst he; replace H := H.still hb; clear hb)
    | (go_at_call 72; ((with_reducible refine (within_any g.a 0 99 _).mono ?_)); rintro e w' ⟨he, hw⟩; subst hw; (try rw [h1] at he); subst he)
    | (go_at_call 72; ((with_reducible refine (within_any g.pc 0 12 _).mono ?_)); rintro e w' ⟨he, hw⟩; subst hw; (try rw [h1] at he); subst he)
    | (go_at_call 207; ((with_reducible refine (tableOk_c g.written 4 8 _ (hg.written.at_ H) Z2).mono ?_)); rintro e w ⟨he, hb⟩; (try rw [h1] at he); subst he; replace H := H.still hb; clear hb)
    | (go_at_call 207; ((with_reducible refine (tableOk_c g.live 4 8 _ (hg.live.at_ H) Z3).mono ?_)); rintro e w ⟨he, hb⟩; (try rw [h1] at he); subst he; replace H := H.still hb; clear hb)
    | (go_at_call 89; ((with_reducible refine (ctlOk_c g.ctl _).mono ?_)); rintro e w ⟨he, hb⟩; (try rw [h1] at he); subst he; replace H := H.still hb; clear hb)
    | (go_at_call 157; ((with_reducible refine (pendOk_any g.pending _).mono ?_)); rintro e w' ⟨he, hw⟩; subst hw; (try rw [h1] at he); subst he)
    | (go_at_call 208; ((with_reducible refine (exitOk_c g.exit _).mono ?_)); rintro e w ⟨he, hb⟩; (try rw [h1] at he); subst he; replace H := H.still hb; clear hb))
  all_goals (go_ret; refine ⟨ret_bool ?_, H.below⟩; clear H; unfold guestOkM; simp [GV.m, *] <;> (rw [Bool.eq_iff_iff]; simp; (try exact decide_eq_true_iff.symm)))
set_option maxRecDepth 100000 in
set_option maxHeartbeats 2000000 in
theorem guestOk_1 (g : GV) (w : World) (hg : GRd w g) (hz : GBig g) (h1 : (progOkM g.prog.xs) = true) (h2 : (inB g.a 0 99) = false) : Calls Tryz.prog 155 #[g.val] w fun e w' => e = .returned (.bool (guestOkM g.m)) ∧ Below w.heap.size w w' := by
  obtain ⟨Z1, Z2, Z3, Z4⟩ := id hz
  simp only [big] at Z1 Z2 Z3 Z4
  have H := Hp.start w
  go_enter Tryz.func155, Tryz.ntmps155
  go_wp2_with (first
    | (refine wpList_box_H rfl rfl H rfl (by constructor) ?_; clear H; intro b w H)
    | (refine wpList_alloc_H rfl rfl H ?_; clear H; intro b w H)
    | (refine wpList_load_H rfl rfl H rfl (by repeat constructor) ?_)
    | (refine wpList_loads_H rfl rfl H rfl (by repeat constructor) ?_)
    | (refine wpList_store_H rfl rfl H rfl rfl (by repeat constructor) ?_; clear H; intro w H)
    | (go_at_call 206; ((with_reducible refine (progOk_c g.prog _ (hg.prog.at_ H) Z1).mono ?_)); rintro e w ⟨he, hb⟩; (try rw [h1] at he); (try rw [h2] at he); subst he; replace H := H.still hb; clear hb)
    | (go_at_call 72; ((with_reducible refine (within_any g.a 0 99 _).mono ?_)); rintro e w' ⟨he, hw⟩; subst hw; (try rw [h1] at he); (try rw [h2] at he); subst he)
    | (go_at_call 72; ((with_reducible refine (within_any g.pc 0 12 _).mono ?_)); rintro e w' ⟨he, hw⟩; subst hw; (try rw [h1] at he); (try rw [h2] at he); subst he)
    | (go_at_call 207; ((with_reducible refine (tableOk_c g.written 4 8 _ (hg.written.at_ H) Z2).mono ?_)); rintro e w ⟨he, hb⟩; (try rw [h1] at he); (try rw [h2] at he); subst he; replace H := H.still hb; clear hb)
    | (go_at_call 207; ((with_reducible refine (tableOk_c g.live 4 8 _ (hg.live.at_ H) Z3).mono ?_)); rintro e w ⟨he, hb⟩; (try rw [h1] at he); (try rw [h2] at he); subst he; replace H := H.still hb; clear hb)
    | (go_at_call 89; ((with_reducible refine (ctlOk_c g.ctl _).mono ?_)); rintro e w ⟨he, hb⟩; (try rw [h1] at he); (try rw [h2] at he); subst he; replace H := H.still hb; clear hb)
    | (go_at_call 157; ((with_reducible refine (pendOk_any g.pending _).mono ?_)); rintro e w' ⟨he, hw⟩; subst hw; (try rw [h1] at he); (try rw [h2] at he); subst he)
    | (go_at_call 208; ((with_reducible refine (exitOk_c g.exit _).mono ?_)); rintro e w ⟨he, hb⟩; (try rw [h1] at he); (try rw [h2] at he); subst he; replace H := H.still hb; clear hb))
  all_goals (go_ret; refine ⟨ret_bool ?_, H.below⟩; clear H; unfold guestOkM; simp [GV.m, *] <;> (rw [Bool.eq_iff_iff]; simp; (try exact decide_eq_true_iff.symm)))
set_option maxRecDepth 100000 in
set_option maxHeartbeats 2000000 in
theorem guestOk_2 (g : GV) (w : World) (hg : GRd w g) (hz : GBig g) (h1 : (progOkM g.prog.xs) = true) (h2 : (inB g.a 0 99) = true) (h3 : (inB g.pc 0 12) = false) : Calls Tryz.prog 155 #[g.val] w fun e w' => e = .returned (.bool (guestOkM g.m)) ∧ Below w.heap.size w w' := by
  obtain ⟨Z1, Z2, Z3, Z4⟩ := id hz
  simp only [big] at Z1 Z2 Z3 Z4
  have H := Hp.start w
  go_enter Tryz.func155, Tryz.ntmps155
  go_wp2_with (first
    | (refine wpList_box_H rfl rfl H rfl (by constructor) ?_; clear H; intro b w H)
    | (refine wpList_alloc_H rfl rfl H ?_; clear H; intro b w H)
    | (refine wpList_load_H rfl rfl H rfl (by repeat constructor) ?_)
    | (refine wpList_loads_H rfl rfl H rfl (by repeat constructor) ?_)
    | (refine wpList_store_H rfl rfl H rfl rfl (by repeat constructor) ?_; clear H; intro w H)
    | (go_at_call 206; ((with_reducible refine (progOk_c g.prog _ (hg.prog.at_ H) Z1).mono ?_)); rintro e w ⟨he, hb⟩; (try rw [h1] at he); (try rw [h2] at he); (try rw [h3] at he); subst he; replace H := H.still hb; clear hb)
    | (go_at_call 72; ((with_reducible refine (within_any g.a 0 99 _).mono ?_)); rintro e w' ⟨he, hw⟩; subst hw; (try rw [h1] at he); (try rw [h2] at he); (try rw [h3] at he); subst he)
    | (go_at_call 72; ((with_reducible refine (within_any g.pc 0 12 _).mono ?_)); rintro e w' ⟨he, hw⟩; subst hw; (try rw [h1] at he); (try rw [h2] at he); (try rw [h3] at he); subst he)
    | (go_at_call 207; ((with_reducible refine (tableOk_c g.written 4 8 _ (hg.written.at_ H) Z2).mono ?_)); rintro e w ⟨he, hb⟩; (try rw [h1] at he); (try rw [h2] at he); (try rw [h3] at he); subst he; replace H := H.still hb; clear hb)
    | (go_at_call 207; ((with_reducible refine (tableOk_c g.live 4 8 _ (hg.live.at_ H) Z3).mono ?_)); rintro e w ⟨he, hb⟩; (try rw [h1] at he); (try rw [h2] at he); (try rw [h3] at he); subst he; replace H := H.still hb; clear hb)
    | (go_at_call 89; ((with_reducible refine (ctlOk_c g.ctl _).mono ?_)); rintro e w ⟨he, hb⟩; (try rw [h1] at he); (try rw [h2] at he); (try rw [h3] at he); subst he; replace H := H.still hb; clear hb)
    | (go_at_call 157; ((with_reducible refine (pendOk_any g.pending _).mono ?_)); rintro e w' ⟨he, hw⟩; subst hw; (try rw [h1] at he); (try rw [h2] at he); (try rw [h3] at he); subst he)
    | (go_at_call 208; ((with_reducible refine (exitOk_c g.exit _).mono ?_)); rintro e w ⟨he, hb⟩; (try rw [h1] at he); (try rw [h2] at he); (try rw [h3] at he); subst he; replace H := H.still hb; clear hb))
  all_goals (go_ret; refine ⟨ret_bool ?_, H.below⟩; clear H; unfold guestOkM; simp [GV.m, *] <;> (rw [Bool.eq_iff_iff]; simp; (try exact decide_eq_true_iff.symm)))
set_option maxRecDepth 100000 in
set_option maxHeartbeats 2000000 in
theorem guestOk_3 (g : GV) (w : World) (hg : GRd w g) (hz : GBig g) (h1 : (progOkM g.prog.xs) = true) (h2 : (inB g.a 0 99) = true) (h3 : (inB g.pc 0 12) = true) (h4 : (tableOkM 4 8 g.written.xs) = false) : Calls Tryz.prog 155 #[g.val] w fun e w' => e = .returned (.bool (guestOkM g.m)) ∧ Below w.heap.size w w' := by
  obtain ⟨Z1, Z2, Z3, Z4⟩ := id hz
  simp only [big] at Z1 Z2 Z3 Z4
  have H := Hp.start w
  go_enter Tryz.func155, Tryz.ntmps155
  go_wp2_with (first
    | (refine wpList_box_H rfl rfl H rfl (by constructor) ?_; clear H; intro b w H)
    | (refine wpList_alloc_H rfl rfl H ?_; clear H; intro b w H)
    | (refine wpList_load_H rfl rfl H rfl (by repeat constructor) ?_)
    | (refine wpList_loads_H rfl rfl H rfl (by repeat constructor) ?_)
    | (refine wpList_store_H rfl rfl H rfl rfl (by repeat constructor) ?_; clear H; intro w H)
    | (go_at_call 206; ((with_reducible refine (progOk_c g.prog _ (hg.prog.at_ H) Z1).mono ?_)); rintro e w ⟨he, hb⟩; (try rw [h1] at he); (try rw [h2] at he); (try rw [h3] at he); (try rw [h4] at he); subst he; replace H := H.still hb; clear hb)
    | (go_at_call 72; ((with_reducible refine (within_any g.a 0 99 _).mono ?_)); rintro e w' ⟨he, hw⟩; subst hw; (try rw [h1] at he); (try rw [h2] at he); (try rw [h3] at he); (try rw [h4] at he); subst he)
    | (go_at_call 72; ((with_reducible refine (within_any g.pc 0 12 _).mono ?_)); rintro e w' ⟨he, hw⟩; subst hw; (try rw [h1] at he); (try rw [h2] at he); (try rw [h3] at he); (try rw [h4] at he); subst he)
    | (go_at_call 207; ((with_reducible refine (tableOk_c g.written 4 8 _ (hg.written.at_ H) Z2).mono ?_)); rintro e w ⟨he, hb⟩; (try rw [h1] at he); (try rw [h2] at he); (try rw [h3] at he); (try rw [h4] at he); subst he; replace H := H.still hb; clear hb)
    | (go_at_call 207; ((with_reducible refine (tableOk_c g.live 4 8 _ (hg.live.at_ H) Z3).mono ?_)); rintro e w ⟨he, hb⟩; (try rw [h1] at he); (try rw [h2] at he); (try rw [h3] at he); (try rw [h4] at he); subst he; replace H := H.still hb; clear hb)
    | (go_at_call 89; ((with_reducible refine (ctlOk_c g.ctl _).mono ?_)); rintro e w ⟨he, hb⟩; (try rw [h1] at he); (try rw [h2] at he); (try rw [h3] at he); (try rw [h4] at he); subst he; replace H := H.still hb; clear hb)
    | (go_at_call 157; ((with_reducible refine (pendOk_any g.pending _).mono ?_)); rintro e w' ⟨he, hw⟩; subst hw; (try rw [h1] at he); (try rw [h2] at he); (try rw [h3] at he); (try rw [h4] at he); subst he)
    | (go_at_call 208; ((with_reducible refine (exitOk_c g.exit _).mono ?_)); rintro e w ⟨he, hb⟩; (try rw [h1] at he); (try rw [h2] at he); (try rw [h3] at he); (try rw [h4] at he); subst he; replace H := H.still hb; clear hb))
  all_goals (go_ret; refine ⟨ret_bool ?_, H.below⟩; clear H; unfold guestOkM; simp [GV.m, *] <;> (rw [Bool.eq_iff_iff]; simp; (try exact decide_eq_true_iff.symm)))
set_option maxRecDepth 100000 in
set_option maxHeartbeats 2000000 in
theorem guestOk_4 (g : GV) (w : World) (hg : GRd w g) (hz : GBig g) (h1 : (progOkM g.prog.xs) = true) (h2 : (inB g.a 0 99) = true) (h3 : (inB g.pc 0 12) = true) (h4 : (tableOkM 4 8 g.written.xs) = true) (h5 : (tableOkM 4 8 g.live.xs) = false) : Calls Tryz.prog 155 #[g.val] w fun e w' => e = .returned (.bool (guestOkM g.m)) ∧ Below w.heap.size w w' := by
  obtain ⟨Z1, Z2, Z3, Z4⟩ := id hz
  simp only [big] at Z1 Z2 Z3 Z4
  have H := Hp.start w
  go_enter Tryz.func155, Tryz.ntmps155
  go_wp2_with (first
    | (refine wpList_box_H rfl rfl H rfl (by constructor) ?_; clear H; intro b w H)
    | (refine wpList_alloc_H rfl rfl H ?_; clear H; intro b w H)
    | (refine wpList_load_H rfl rfl H rfl (by repeat constructor) ?_)
    | (refine wpList_loads_H rfl rfl H rfl (by repeat constructor) ?_)
    | (refine wpList_store_H rfl rfl H rfl rfl (by repeat constructor) ?_; clear H; intro w H)
    | (go_at_call 206; ((with_reducible refine (progOk_c g.prog _ (hg.prog.at_ H) Z1).mono ?_)); rintro e w ⟨he, hb⟩; (try rw [h1] at he); (try rw [h2] at he); (try rw [h3] at he); (try rw [h4] at he); (try rw [h5] at he); subst he; replace H := H.still hb; clear hb)
    | (go_at_call 72; ((with_reducible refine (within_any g.a 0 99 _).mono ?_)); rintro e w' ⟨he, hw⟩; subst hw; (try rw [h1] at he); (try rw [h2] at he); (try rw [h3] at he); (try rw [h4] at he); (try rw [h5] at he); subst he)
    | (go_at_call 72; ((with_reducible refine (within_any g.pc 0 12 _).mono ?_)); rintro e w' ⟨he, hw⟩; subst hw; (try rw [h1] at he); (try rw [h2] at he); (try rw [h3] at he); (try rw [h4] at he); (try rw [h5] at he); subst he)
    | (go_at_call 207; ((with_reducible refine (tableOk_c g.written 4 8 _ (hg.written.at_ H) Z2).mono ?_)); rintro e w ⟨he, hb⟩; (try rw [h1] at he); (try rw [h2] at he); (try rw [h3] at he); (try rw [h4] at he); (try rw [h5] at he); subst he; replace H := H.still hb; clear hb)
    | (go_at_call 207; ((with_reducible refine (tableOk_c g.live 4 8 _ (hg.live.at_ H) Z3).mono ?_)); rintro e w ⟨he, hb⟩; (try rw [h1] at he); (try rw [h2] at he); (try rw [h3] at he); (try rw [h4] at he); (try rw [h5] at he); subst he; replace H := H.still hb; clear hb)
    | (go_at_call 89; ((with_reducible refine (ctlOk_c g.ctl _).mono ?_)); rintro e w ⟨he, hb⟩; (try rw [h1] at he); (try rw [h2] at he); (try rw [h3] at he); (try rw [h4] at he); (try rw [h5] at he); subst he; replace H := H.still hb; clear hb)
    | (go_at_call 157; ((with_reducible refine (pendOk_any g.pending _).mono ?_)); rintro e w' ⟨he, hw⟩; subst hw; (try rw [h1] at he); (try rw [h2] at he); (try rw [h3] at he); (try rw [h4] at he); (try rw [h5] at he); subst he)
    | (go_at_call 208; ((with_reducible refine (exitOk_c g.exit _).mono ?_)); rintro e w ⟨he, hb⟩; (try rw [h1] at he); (try rw [h2] at he); (try rw [h3] at he); (try rw [h4] at he); (try rw [h5] at he); subst he; replace H := H.still hb; clear hb))
  all_goals (go_ret; refine ⟨ret_bool ?_, H.below⟩; clear H; unfold guestOkM; simp [GV.m, *] <;> (rw [Bool.eq_iff_iff]; simp; (try exact decide_eq_true_iff.symm)))
set_option maxRecDepth 100000 in
set_option maxHeartbeats 2000000 in
theorem guestOk_5 (g : GV) (w : World) (hg : GRd w g) (hz : GBig g) (h1 : (progOkM g.prog.xs) = true) (h2 : (inB g.a 0 99) = true) (h3 : (inB g.pc 0 12) = true) (h4 : (tableOkM 4 8 g.written.xs) = true) (h5 : (tableOkM 4 8 g.live.xs) = true) (h6 : (ctlOkM g.ctl) = false) : Calls Tryz.prog 155 #[g.val] w fun e w' => e = .returned (.bool (guestOkM g.m)) ∧ Below w.heap.size w w' := by
  obtain ⟨Z1, Z2, Z3, Z4⟩ := id hz
  simp only [big] at Z1 Z2 Z3 Z4
  have H := Hp.start w
  go_enter Tryz.func155, Tryz.ntmps155
  go_wp2_with (first
    | (refine wpList_box_H rfl rfl H rfl (by constructor) ?_; clear H; intro b w H)
    | (refine wpList_alloc_H rfl rfl H ?_; clear H; intro b w H)
    | (refine wpList_load_H rfl rfl H rfl (by repeat constructor) ?_)
    | (refine wpList_loads_H rfl rfl H rfl (by repeat constructor) ?_)
    | (refine wpList_store_H rfl rfl H rfl rfl (by repeat constructor) ?_; clear H; intro w H)
    | (go_at_call 206; ((with_reducible refine (progOk_c g.prog _ (hg.prog.at_ H) Z1).mono ?_)); rintro e w ⟨he, hb⟩; (try rw [h1] at he); (try rw [h2] at he); (try rw [h3] at he); (try rw [h4] at he); (try rw [h5] at he); (try rw [h6] at he); subst he; replace H := H.still hb; clear hb)
    | (go_at_call 72; ((with_reducible refine (within_any g.a 0 99 _).mono ?_)); rintro e w' ⟨he, hw⟩; subst hw; (try rw [h1] at he); (try rw [h2] at he); (try rw [h3] at he); (try rw [h4] at he); (try rw [h5] at he); (try rw [h6] at he); subst he)
    | (go_at_call 72; ((with_reducible refine (within_any g.pc 0 12 _).mono ?_)); rintro e w' ⟨he, hw⟩; subst hw; (try rw [h1] at he); (try rw [h2] at he); (try rw [h3] at he); (try rw [h4] at he); (try rw [h5] at he); (try rw [h6] at he); subst he)
    | (go_at_call 207; ((with_reducible refine (tableOk_c g.written 4 8 _ (hg.written.at_ H) Z2).mono ?_)); rintro e w ⟨he, hb⟩; (try rw [h1] at he); (try rw [h2] at he); (try rw [h3] at he); (try rw [h4] at he); (try rw [h5] at he); (try rw [h6] at he); subst he; replace H := H.still hb; clear hb)
    | (go_at_call 207; ((with_reducible refine (tableOk_c g.live 4 8 _ (hg.live.at_ H) Z3).mono ?_)); rintro e w ⟨he, hb⟩; (try rw [h1] at he); (try rw [h2] at he); (try rw [h3] at he); (try rw [h4] at he); (try rw [h5] at he); (try rw [h6] at he); subst he; replace H := H.still hb; clear hb)
    | (go_at_call 89; ((with_reducible refine (ctlOk_c g.ctl _).mono ?_)); rintro e w ⟨he, hb⟩; (try rw [h1] at he); (try rw [h2] at he); (try rw [h3] at he); (try rw [h4] at he); (try rw [h5] at he); (try rw [h6] at he); subst he; replace H := H.still hb; clear hb)
    | (go_at_call 157; ((with_reducible refine (pendOk_any g.pending _).mono ?_)); rintro e w' ⟨he, hw⟩; subst hw; (try rw [h1] at he); (try rw [h2] at he); (try rw [h3] at he); (try rw [h4] at he); (try rw [h5] at he); (try rw [h6] at he); subst he)
    | (go_at_call 208; ((with_reducible refine (exitOk_c g.exit _).mono ?_)); rintro e w ⟨he, hb⟩; (try rw [h1] at he); (try rw [h2] at he); (try rw [h3] at he); (try rw [h4] at he); (try rw [h5] at he); (try rw [h6] at he); subst he; replace H := H.still hb; clear hb))
  all_goals (go_ret; refine ⟨ret_bool ?_, H.below⟩; clear H; unfold guestOkM; simp [GV.m, *] <;> (rw [Bool.eq_iff_iff]; simp; (try exact decide_eq_true_iff.symm)))
set_option maxRecDepth 100000 in
set_option maxHeartbeats 2000000 in
theorem guestOk_6 (g : GV) (w : World) (hg : GRd w g) (hz : GBig g) (h1 : (progOkM g.prog.xs) = true) (h2 : (inB g.a 0 99) = true) (h3 : (inB g.pc 0 12) = true) (h4 : (tableOkM 4 8 g.written.xs) = true) (h5 : (tableOkM 4 8 g.live.xs) = true) (h6 : (ctlOkM g.ctl) = true) (h7 : (pendB g.pending) = false) : Calls Tryz.prog 155 #[g.val] w fun e w' => e = .returned (.bool (guestOkM g.m)) ∧ Below w.heap.size w w' := by
  obtain ⟨Z1, Z2, Z3, Z4⟩ := id hz
  simp only [big] at Z1 Z2 Z3 Z4
  have H := Hp.start w
  go_enter Tryz.func155, Tryz.ntmps155
  go_wp2_with (first
    | (refine wpList_box_H rfl rfl H rfl (by constructor) ?_; clear H; intro b w H)
    | (refine wpList_alloc_H rfl rfl H ?_; clear H; intro b w H)
    | (refine wpList_load_H rfl rfl H rfl (by repeat constructor) ?_)
    | (refine wpList_loads_H rfl rfl H rfl (by repeat constructor) ?_)
    | (refine wpList_store_H rfl rfl H rfl rfl (by repeat constructor) ?_; clear H; intro w H)
    | (go_at_call 206; ((with_reducible refine (progOk_c g.prog _ (hg.prog.at_ H) Z1).mono ?_)); rintro e w ⟨he, hb⟩; (try rw [h1] at he); (try rw [h2] at he); (try rw [h3] at he); (try rw [h4] at he); (try rw [h5] at he); (try rw [h6] at he); (try rw [h7] at he); subst he; replace H := H.still hb; clear hb)
    | (go_at_call 72; ((with_reducible refine (within_any g.a 0 99 _).mono ?_)); rintro e w' ⟨he, hw⟩; subst hw; (try rw [h1] at he); (try rw [h2] at he); (try rw [h3] at he); (try rw [h4] at he); (try rw [h5] at he); (try rw [h6] at he); (try rw [h7] at he); subst he)
    | (go_at_call 72; ((with_reducible refine (within_any g.pc 0 12 _).mono ?_)); rintro e w' ⟨he, hw⟩; subst hw; (try rw [h1] at he); (try rw [h2] at he); (try rw [h3] at he); (try rw [h4] at he); (try rw [h5] at he); (try rw [h6] at he); (try rw [h7] at he); subst he)
    | (go_at_call 207; ((with_reducible refine (tableOk_c g.written 4 8 _ (hg.written.at_ H) Z2).mono ?_)); rintro e w ⟨he, hb⟩; (try rw [h1] at he); (try rw [h2] at he); (try rw [h3] at he); (try rw [h4] at he); (try rw [h5] at he); (try rw [h6] at he); (try rw [h7] at he); subst he; replace H := H.still hb; clear hb)
    | (go_at_call 207; ((with_reducible refine (tableOk_c g.live 4 8 _ (hg.live.at_ H) Z3).mono ?_)); rintro e w ⟨he, hb⟩; (try rw [h1] at he); (try rw [h2] at he); (try rw [h3] at he); (try rw [h4] at he); (try rw [h5] at he); (try rw [h6] at he); (try rw [h7] at he); subst he; replace H := H.still hb; clear hb)
    | (go_at_call 89; ((with_reducible refine (ctlOk_c g.ctl _).mono ?_)); rintro e w ⟨he, hb⟩; (try rw [h1] at he); (try rw [h2] at he); (try rw [h3] at he); (try rw [h4] at he); (try rw [h5] at he); (try rw [h6] at he); (try rw [h7] at he); subst he; replace H := H.still hb; clear hb)
    | (go_at_call 157; ((with_reducible refine (pendOk_any g.pending _).mono ?_)); rintro e w' ⟨he, hw⟩; subst hw; (try rw [h1] at he); (try rw [h2] at he); (try rw [h3] at he); (try rw [h4] at he); (try rw [h5] at he); (try rw [h6] at he); (try rw [h7] at he); subst he)
    | (go_at_call 208; ((with_reducible refine (exitOk_c g.exit _).mono ?_)); rintro e w ⟨he, hb⟩; (try rw [h1] at he); (try rw [h2] at he); (try rw [h3] at he); (try rw [h4] at he); (try rw [h5] at he); (try rw [h6] at he); (try rw [h7] at he); subst he; replace H := H.still hb; clear hb))
  all_goals (go_ret; refine ⟨ret_bool ?_, H.below⟩; clear H; unfold guestOkM; simp [GV.m, *] <;> (rw [Bool.eq_iff_iff]; simp; (try exact decide_eq_true_iff.symm)))
set_option maxRecDepth 100000 in
set_option maxHeartbeats 2000000 in
theorem guestOk_7 (g : GV) (w : World) (hg : GRd w g) (hz : GBig g) (h1 : (progOkM g.prog.xs) = true) (h2 : (inB g.a 0 99) = true) (h3 : (inB g.pc 0 12) = true) (h4 : (tableOkM 4 8 g.written.xs) = true) (h5 : (tableOkM 4 8 g.live.xs) = true) (h6 : (ctlOkM g.ctl) = true) (h7 : (pendB g.pending) = true) (h8 : (exitOkM g.exit) = false) : Calls Tryz.prog 155 #[g.val] w fun e w' => e = .returned (.bool (guestOkM g.m)) ∧ Below w.heap.size w w' := by
  obtain ⟨Z1, Z2, Z3, Z4⟩ := id hz
  simp only [big] at Z1 Z2 Z3 Z4
  have H := Hp.start w
  go_enter Tryz.func155, Tryz.ntmps155
  go_wp2_with (first
    | (refine wpList_box_H rfl rfl H rfl (by constructor) ?_; clear H; intro b w H)
    | (refine wpList_alloc_H rfl rfl H ?_; clear H; intro b w H)
    | (refine wpList_load_H rfl rfl H rfl (by repeat constructor) ?_)
    | (refine wpList_loads_H rfl rfl H rfl (by repeat constructor) ?_)
    | (refine wpList_store_H rfl rfl H rfl rfl (by repeat constructor) ?_; clear H; intro w H)
    | (go_at_call 206; ((with_reducible refine (progOk_c g.prog _ (hg.prog.at_ H) Z1).mono ?_)); rintro e w ⟨he, hb⟩; (try rw [h1] at he); (try rw [h2] at he); (try rw [h3] at he); (try rw [h4] at he); (try rw [h5] at he); (try rw [h6] at he); (try rw [h7] at he); (try rw [h8] at he); subst he; replace H := H.still hb; clear hb)
    | (go_at_call 72; ((with_reducible refine (within_any g.a 0 99 _).mono ?_)); rintro e w' ⟨he, hw⟩; subst hw; (try rw [h1] at he); (try rw [h2] at he); (try rw [h3] at he); (try rw [h4] at he); (try rw [h5] at he); (try rw [h6] at he); (try rw [h7] at he); (try rw [h8] at he); subst he)
    | (go_at_call 72; ((with_reducible refine (within_any g.pc 0 12 _).mono ?_)); rintro e w' ⟨he, hw⟩; subst hw; (try rw [h1] at he); (try rw [h2] at he); (try rw [h3] at he); (try rw [h4] at he); (try rw [h5] at he); (try rw [h6] at he); (try rw [h7] at he); (try rw [h8] at he); subst he)
    | (go_at_call 207; ((with_reducible refine (tableOk_c g.written 4 8 _ (hg.written.at_ H) Z2).mono ?_)); rintro e w ⟨he, hb⟩; (try rw [h1] at he); (try rw [h2] at he); (try rw [h3] at he); (try rw [h4] at he); (try rw [h5] at he); (try rw [h6] at he); (try rw [h7] at he); (try rw [h8] at he); subst he; replace H := H.still hb; clear hb)
    | (go_at_call 207; ((with_reducible refine (tableOk_c g.live 4 8 _ (hg.live.at_ H) Z3).mono ?_)); rintro e w ⟨he, hb⟩; (try rw [h1] at he); (try rw [h2] at he); (try rw [h3] at he); (try rw [h4] at he); (try rw [h5] at he); (try rw [h6] at he); (try rw [h7] at he); (try rw [h8] at he); subst he; replace H := H.still hb; clear hb)
    | (go_at_call 89; ((with_reducible refine (ctlOk_c g.ctl _).mono ?_)); rintro e w ⟨he, hb⟩; (try rw [h1] at he); (try rw [h2] at he); (try rw [h3] at he); (try rw [h4] at he); (try rw [h5] at he); (try rw [h6] at he); (try rw [h7] at he); (try rw [h8] at he); subst he; replace H := H.still hb; clear hb)
    | (go_at_call 157; ((with_reducible refine (pendOk_any g.pending _).mono ?_)); rintro e w' ⟨he, hw⟩; subst hw; (try rw [h1] at he); (try rw [h2] at he); (try rw [h3] at he); (try rw [h4] at he); (try rw [h5] at he); (try rw [h6] at he); (try rw [h7] at he); (try rw [h8] at he); subst he)
    | (go_at_call 208; ((with_reducible refine (exitOk_c g.exit _).mono ?_)); rintro e w ⟨he, hb⟩; (try rw [h1] at he); (try rw [h2] at he); (try rw [h3] at he); (try rw [h4] at he); (try rw [h5] at he); (try rw [h6] at he); (try rw [h7] at he); (try rw [h8] at he); subst he; replace H := H.still hb; clear hb))
  all_goals (go_ret; refine ⟨ret_bool ?_, H.below⟩; clear H; unfold guestOkM; simp [GV.m, *] <;> (rw [Bool.eq_iff_iff]; simp; (try exact decide_eq_true_iff.symm)))
set_option maxRecDepth 100000 in
set_option maxHeartbeats 2000000 in
theorem guestOk_8 (g : GV) (w : World) (hg : GRd w g) (hz : GBig g) (h1 : (progOkM g.prog.xs) = true) (h2 : (inB g.a 0 99) = true) (h3 : (inB g.pc 0 12) = true) (h4 : (tableOkM 4 8 g.written.xs) = true) (h5 : (tableOkM 4 8 g.live.xs) = true) (h6 : (ctlOkM g.ctl) = true) (h7 : (pendB g.pending) = true) (h8 : (exitOkM g.exit) = true) : Calls Tryz.prog 155 #[g.val] w fun e w' => e = .returned (.bool (guestOkM g.m)) ∧ Below w.heap.size w w' := by
  obtain ⟨Z1, Z2, Z3, Z4⟩ := id hz
  simp only [big] at Z1 Z2 Z3 Z4
  have H := Hp.start w
  go_enter Tryz.func155, Tryz.ntmps155
  go_wp2_with (first
    | (refine wpList_box_H rfl rfl H rfl (by constructor) ?_; clear H; intro b w H)
    | (refine wpList_alloc_H rfl rfl H ?_; clear H; intro b w H)
    | (refine wpList_load_H rfl rfl H rfl (by repeat constructor) ?_)
    | (refine wpList_loads_H rfl rfl H rfl (by repeat constructor) ?_)
    | (refine wpList_store_H rfl rfl H rfl rfl (by repeat constructor) ?_; clear H; intro w H)
    | (go_at_call 206; ((with_reducible refine (progOk_c g.prog _ (hg.prog.at_ H) Z1).mono ?_)); rintro e w ⟨he, hb⟩; (try rw [h1] at he); (try rw [h2] at he); (try rw [h3] at he); (try rw [h4] at he); (try rw [h5] at he); (try rw [h6] at he); (try rw [h7] at he); (try rw [h8] at he); subst he; replace H := H.still hb; clear hb)
    | (go_at_call 72; ((with_reducible refine (within_any g.a 0 99 _).mono ?_)); rintro e w' ⟨he, hw⟩; subst hw; (try rw [h1] at he); (try rw [h2] at he); (try rw [h3] at he); (try rw [h4] at he); (try rw [h5] at he); (try rw [h6] at he); (try rw [h7] at he); (try rw [h8] at he); subst he)
    | (go_at_call 72; ((with_reducible refine (within_any g.pc 0 12 _).mono ?_)); rintro e w' ⟨he, hw⟩; subst hw; (try rw [h1] at he); (try rw [h2] at he); (try rw [h3] at he); (try rw [h4] at he); (try rw [h5] at he); (try rw [h6] at he); (try rw [h7] at he); (try rw [h8] at he); subst he)
    | (go_at_call 207; ((with_reducible refine (tableOk_c g.written 4 8 _ (hg.written.at_ H) Z2).mono ?_)); rintro e w ⟨he, hb⟩; (try rw [h1] at he); (try rw [h2] at he); (try rw [h3] at he); (try rw [h4] at he); (try rw [h5] at he); (try rw [h6] at he); (try rw [h7] at he); (try rw [h8] at he); subst he; replace H := H.still hb; clear hb)
    | (go_at_call 207; ((with_reducible refine (tableOk_c g.live 4 8 _ (hg.live.at_ H) Z3).mono ?_)); rintro e w ⟨he, hb⟩; (try rw [h1] at he); (try rw [h2] at he); (try rw [h3] at he); (try rw [h4] at he); (try rw [h5] at he); (try rw [h6] at he); (try rw [h7] at he); (try rw [h8] at he); subst he; replace H := H.still hb; clear hb)
    | (go_at_call 89; ((with_reducible refine (ctlOk_c g.ctl _).mono ?_)); rintro e w ⟨he, hb⟩; (try rw [h1] at he); (try rw [h2] at he); (try rw [h3] at he); (try rw [h4] at he); (try rw [h5] at he); (try rw [h6] at he); (try rw [h7] at he); (try rw [h8] at he); subst he; replace H := H.still hb; clear hb)
    | (go_at_call 157; ((with_reducible refine (pendOk_any g.pending _).mono ?_)); rintro e w' ⟨he, hw⟩; subst hw; (try rw [h1] at he); (try rw [h2] at he); (try rw [h3] at he); (try rw [h4] at he); (try rw [h5] at he); (try rw [h6] at he); (try rw [h7] at he); (try rw [h8] at he); subst he)
    | (go_at_call 208; ((with_reducible refine (exitOk_c g.exit _).mono ?_)); rintro e w ⟨he, hb⟩; (try rw [h1] at he); (try rw [h2] at he); (try rw [h3] at he); (try rw [h4] at he); (try rw [h5] at he); (try rw [h6] at he); (try rw [h7] at he); (try rw [h8] at he); subst he; replace H := H.still hb; clear hb))
  all_goals (go_ret; refine ⟨ret_bool ?_, H.below⟩; clear H; unfold guestOkM; simp [GV.m, *] <;> (rw [Bool.eq_iff_iff]; simp; (try exact decide_eq_true_iff.symm)))
theorem guestOk_any (g : GV) (w : World) (hg : GRd w g) (hz : GBig g) : Calls Tryz.prog 155 #[g.val] w fun e w' => e = .returned (.bool (guestOkM g.m)) ∧ Below w.heap.size w w' := by
  cases h1 : (progOkM g.prog.xs)
  · exact guestOk_0 g w hg hz h1
  cases h2 : (inB g.a 0 99)
  · exact guestOk_1 g w hg hz h1 h2
  cases h3 : (inB g.pc 0 12)
  · exact guestOk_2 g w hg hz h1 h2 h3
  cases h4 : (tableOkM 4 8 g.written.xs)
  · exact guestOk_3 g w hg hz h1 h2 h3 h4
  cases h5 : (tableOkM 4 8 g.live.xs)
  · exact guestOk_4 g w hg hz h1 h2 h3 h4 h5
  cases h6 : (ctlOkM g.ctl)
  · exact guestOk_5 g w hg hz h1 h2 h3 h4 h5 h6
  cases h7 : (pendB g.pending)
  · exact guestOk_6 g w hg hz h1 h2 h3 h4 h5 h6 h7
  cases h8 : (exitOkM g.exit)
  · exact guestOk_7 g w hg hz h1 h2 h3 h4 h5 h6 h7 h8
  exact guestOk_8 g w hg hz h1 h2 h3 h4 h5 h6 h7 h8
set_option maxRecDepth 100000 in
set_option maxHeartbeats 2000000 in
theorem specGuestOk_0 (g : GV) (w : World) (hg : GRd w g) (hz : GBig g) (h1 : (progOkM g.prog.xs) = false) : Calls Tryz.prog 158 #[g.val] w fun e w' => e = .returned (.bool (guestOkM g.m)) ∧ Below w.heap.size w w' := by
  obtain ⟨Z1, Z2, Z3, Z4⟩ := id hz
  simp only [big] at Z1 Z2 Z3 Z4
  have H := Hp.start w
  go_enter Tryz.func158, Tryz.ntmps158
  go_wp2_with (first
    | (refine wpList_box_H rfl rfl H rfl (by constructor) ?_; clear H; intro b w H)
    | (refine wpList_alloc_H rfl rfl H ?_; clear H; intro b w H)
    | (refine wpList_load_H rfl rfl H rfl (by repeat constructor) ?_)
    | (refine wpList_loads_H rfl rfl H rfl (by repeat constructor) ?_)
    | (refine wpList_store_H rfl rfl H rfl rfl (by repeat constructor) ?_; clear H; intro w H)
    | (go_at_call 210; ((with_reducible refine (specProgOk_c g.prog _ (hg.prog.at_ H) Z1).mono ?_)); rintro e w ⟨he, hb⟩; (try rw [h1] at he); subst he; replace H := H.still hb; clear hb)
    | (go_at_call 78; ((with_reducible refine (in_any g.a 0 99 _).mono ?_)); rintro e w' ⟨he, hw⟩; subst hw; (try rw [h1] at he); subst he)
    | (go_at_call 78; ((with_reducible refine (in_any g.pc 0 12 _).mono ?_)); rintro e w' ⟨he, hw⟩; subst hw; (try rw [h1] at he); subst he)
    | (go_at_call 211; ((with_reducible refine (specTableOk_c g.written 4 8 _ (hg.written.at_ H) Z2).mono ?_)); rintro e w ⟨he, hb⟩; (try rw [h1] at he); subst he; replace H := H.still hb; clear hb)
    | (go_at_call 211; ((with_reducible refine (specTableOk_c g.live 4 8 _ (hg.live.at_ H) Z3).mono ?_)); rintro e w ⟨he, hb⟩; (try rw [h1] at he); subst he; replace H := H.still hb; clear hb)
    | (go_at_call 91; ((with_reducible refine (specCtlOk_c g.ctl _).mono ?_)); rintro e w ⟨he, hb⟩; (try rw [h1] at he); subst he; replace H := H.still hb; clear hb)
    | (go_at_call 160; ((with_reducible refine (specPendOk_any g.pending _).mono ?_)); rintro e w' ⟨he, hw⟩; subst hw; (try rw [h1] at he); subst he)
    | (go_at_call 212; ((with_reducible refine (specExitOk_c g.exit _).mono ?_)); rintro e w ⟨he, hb⟩; (try rw [h1] at he); subst he; replace H := H.still hb; clear hb))
  all_goals (go_ret; refine ⟨ret_bool ?_, H.below⟩; clear H; unfold guestOkM; simp [GV.m, *] <;> (rw [Bool.eq_iff_iff]; simp; (try exact decide_eq_true_iff.symm)))
set_option maxRecDepth 100000 in
set_option maxHeartbeats 2000000 in
theorem specGuestOk_1 (g : GV) (w : World) (hg : GRd w g) (hz : GBig g) (h1 : (progOkM g.prog.xs) = true) (h2 : (inB g.a 0 99) = false) : Calls Tryz.prog 158 #[g.val] w fun e w' => e = .returned (.bool (guestOkM g.m)) ∧ Below w.heap.size w w' := by
  obtain ⟨Z1, Z2, Z3, Z4⟩ := id hz
  simp only [big] at Z1 Z2 Z3 Z4
  have H := Hp.start w
  go_enter Tryz.func158, Tryz.ntmps158
  go_wp2_with (first
    | (refine wpList_box_H rfl rfl H rfl (by constructor) ?_; clear H; intro b w H)
    | (refine wpList_alloc_H rfl rfl H ?_; clear H; intro b w H)
    | (refine wpList_load_H rfl rfl H rfl (by repeat constructor) ?_)
    | (refine wpList_loads_H rfl rfl H rfl (by repeat constructor) ?_)
    | (refine wpList_store_H rfl rfl H rfl rfl (by repeat constructor) ?_; clear H; intro w H)
    | (go_at_call 210; ((with_reducible refine (specProgOk_c g.prog _ (hg.prog.at_ H) Z1).mono ?_)); rintro e w ⟨he, hb⟩; (try rw [h1] at he); (try rw [h2] at he); subst he; replace H := H.still hb; clear hb)
    | (go_at_call 78; ((with_reducible refine (in_any g.a 0 99 _).mono ?_)); rintro e w' ⟨he, hw⟩; subst hw; (try rw [h1] at he); (try rw [h2] at he); subst he)
    | (go_at_call 78; ((with_reducible refine (in_any g.pc 0 12 _).mono ?_)); rintro e w' ⟨he, hw⟩; subst hw; (try rw [h1] at he); (try rw [h2] at he); subst he)
    | (go_at_call 211; ((with_reducible refine (specTableOk_c g.written 4 8 _ (hg.written.at_ H) Z2).mono ?_)); rintro e w ⟨he, hb⟩; (try rw [h1] at he); (try rw [h2] at he); subst he; replace H := H.still hb; clear hb)
    | (go_at_call 211; ((with_reducible refine (specTableOk_c g.live 4 8 _ (hg.live.at_ H) Z3).mono ?_)); rintro e w ⟨he, hb⟩; (try rw [h1] at he); (try rw [h2] at he); subst he; replace H := H.still hb; clear hb)
    | (go_at_call 91; ((with_reducible refine (specCtlOk_c g.ctl _).mono ?_)); rintro e w ⟨he, hb⟩; (try rw [h1] at he); (try rw [h2] at he); subst he; replace H := H.still hb; clear hb)
    | (go_at_call 160; ((with_reducible refine (specPendOk_any g.pending _).mono ?_)); rintro e w' ⟨he, hw⟩; subst hw; (try rw [h1] at he); (try rw [h2] at he); subst he)
    | (go_at_call 212; ((with_reducible refine (specExitOk_c g.exit _).mono ?_)); rintro e w ⟨he, hb⟩; (try rw [h1] at he); (try rw [h2] at he); subst he; replace H := H.still hb; clear hb))
  all_goals (go_ret; refine ⟨ret_bool ?_, H.below⟩; clear H; unfold guestOkM; simp [GV.m, *] <;> (rw [Bool.eq_iff_iff]; simp; (try exact decide_eq_true_iff.symm)))
set_option maxRecDepth 100000 in
set_option maxHeartbeats 2000000 in
theorem specGuestOk_2 (g : GV) (w : World) (hg : GRd w g) (hz : GBig g) (h1 : (progOkM g.prog.xs) = true) (h2 : (inB g.a 0 99) = true) (h3 : (inB g.pc 0 12) = false) : Calls Tryz.prog 158 #[g.val] w fun e w' => e = .returned (.bool (guestOkM g.m)) ∧ Below w.heap.size w w' := by
  obtain ⟨Z1, Z2, Z3, Z4⟩ := id hz
  simp only [big] at Z1 Z2 Z3 Z4
  have H := Hp.start w
  go_enter Tryz.func158, Tryz.ntmps158
  go_wp2_with (first
    | (refine wpList_box_H rfl rfl H rfl (by constructor) ?_; clear H; intro b w H)
    | (refine wpList_alloc_H rfl rfl H ?_; clear H; intro b w H)
    | (refine wpList_load_H rfl rfl H rfl (by repeat constructor) ?_)
    | (refine wpList_loads_H rfl rfl H rfl (by repeat constructor) ?_)
    | (refine wpList_store_H rfl rfl H rfl rfl (by repeat constructor) ?_; clear H; intro w H)
    | (go_at_call 210; ((with_reducible refine (specProgOk_c g.prog _ (hg.prog.at_ H) Z1).mono ?_)); rintro e w ⟨he, hb⟩; (try rw [h1] at he); (try rw [h2] at he); (try rw [h3] at he); subst he; replace H := H.still hb; clear hb)
    | (go_at_call 78; ((with_reducible refine (in_any g.a 0 99 _).mono ?_)); rintro e w' ⟨he, hw⟩; subst hw; (try rw [h1] at he); (try rw [h2] at he); (try rw [h3] at he); subst he)
    | (go_at_call 78; ((with_reducible refine (in_any g.pc 0 12 _).mono ?_)); rintro e w' ⟨he, hw⟩; subst hw; (try rw [h1] at he); (try rw [h2] at he); (try rw [h3] at he); subst he)
    | (go_at_call 211; ((with_reducible refine (specTableOk_c g.written 4 8 _ (hg.written.at_ H) Z2).mono ?_)); rintro e w ⟨he, hb⟩; (try rw [h1] at he); (try rw [h2] at he); (try rw [h3] at he); subst he; replace H := H.still hb; clear hb)
    | (go_at_call 211; ((with_reducible refine (specTableOk_c g.live 4 8 _ (hg.live.at_ H) Z3).mono ?_)); rintro e w ⟨he, hb⟩; (try rw [h1] at he); (try rw [h2] at he); (try rw [h3] at he); subst he; replace H := H.still hb; clear hb)
    | (go_at_call 91; ((with_reducible refine (specCtlOk_c g.ctl _).mono ?_)); rintro e w ⟨he, hb⟩; (try rw [h1] at he); (try rw [h2] at he); (try rw [h3] at he); subst he; replace H := H.still hb; clear hb)
    | (go_at_call 160; ((with_reducible refine (specPendOk_any g.pending _).mono ?_)); rintro e w' ⟨he, hw⟩; subst hw; (try rw [h1] at he); (try rw [h2] at he); (try rw [h3] at he); subst he)
    | (go_at_call 212; ((with_reducible refine (specExitOk_c g.exit _).mono ?_)); rintro e w ⟨he, hb⟩; (try rw [h1] at he); (try rw [h2] at he); (try rw [h3] at he); subst he; replace H := H.still hb; clear hb))
  all_goals (go_ret; refine ⟨ret_bool ?_, H.below⟩; clear H; unfold guestOkM; simp [GV.m, *] <;> (rw [Bool.eq_iff_iff]; simp; (try exact decide_eq_true_iff.symm)))
set_option maxRecDepth 100000 in
set_option maxHeartbeats 2000000 in
theorem specGuestOk_3 (g : GV) (w : World) (hg : GRd w g) (hz : GBig g) (h1 : (progOkM g.prog.xs) = true) (h2 : (inB g.a 0 99) = true) (h3 : (inB g.pc 0 12) = true) (h4 : (tableOkM 4 8 g.written.xs) = false) : Calls Tryz.prog 158 #[g.val] w fun e w' => e = .returned (.bool (guestOkM g.m)) ∧ Below w.heap.size w w' := by
  obtain ⟨Z1, Z2, Z3, Z4⟩ := id hz
  simp only [big] at Z1 Z2 Z3 Z4
  have H := Hp.start w
  go_enter Tryz.func158, Tryz.ntmps158
  go_wp2_with (first
    | (refine wpList_box_H rfl rfl H rfl (by constructor) ?_; clear H; intro b w H)
    | (refine wpList_alloc_H rfl rfl H ?_; clear H; intro b w H)
    | (refine wpList_load_H rfl rfl H rfl (by repeat constructor) ?_)
    | (refine wpList_loads_H rfl rfl H rfl (by repeat constructor) ?_)
    | (refine wpList_store_H rfl rfl H rfl rfl (by repeat constructor) ?_; clear H; intro w H)
    | (go_at_call 210; ((with_reducible refine (specProgOk_c g.prog _ (hg.prog.at_ H) Z1).mono ?_)); rintro e w ⟨he, hb⟩; (try rw [h1] at he); (try rw [h2] at he); (try rw [h3] at he); (try rw [h4] at he); subst he; replace H := H.still hb; clear hb)
    | (go_at_call 78; ((with_reducible refine (in_any g.a 0 99 _).mono ?_)); rintro e w' ⟨he, hw⟩; subst hw; (try rw [h1] at he); (try rw [h2] at he); (try rw [h3] at he); (try rw [h4] at he); subst he)
    | (go_at_call 78; ((with_reducible refine (in_any g.pc 0 12 _).mono ?_)); rintro e w' ⟨he, hw⟩; subst hw; (try rw [h1] at he); (try rw [h2] at he); (try rw [h3] at he); (try rw [h4] at he); subst he)
    | (go_at_call 211; ((with_reducible refine (specTableOk_c g.written 4 8 _ (hg.written.at_ H) Z2).mono ?_)); rintro e w ⟨he, hb⟩; (try rw [h1] at he); (try rw [h2] at he); (try rw [h3] at he); (try rw [h4] at he); subst he; replace H := H.still hb; clear hb)
    | (go_at_call 211; ((with_reducible refine (specTableOk_c g.live 4 8 _ (hg.live.at_ H) Z3).mono ?_)); rintro e w ⟨he, hb⟩; (try rw [h1] at he); (try rw [h2] at he); (try rw [h3] at he); (try rw [h4] at he); subst he; replace H := H.still hb; clear hb)
    | (go_at_call 91; ((with_reducible refine (specCtlOk_c g.ctl _).mono ?_)); rintro e w ⟨he, hb⟩; (try rw [h1] at he); (try rw [h2] at he); (try rw [h3] at he); (try rw [h4] at he); subst he; replace H := H.still hb; clear hb)
    | (go_at_call 160; ((with_reducible refine (specPendOk_any g.pending _).mono ?_)); rintro e w' ⟨he, hw⟩; subst hw; (try rw [h1] at he); (try rw [h2] at he); (try rw [h3] at he); (try rw [h4] at he); subst he)
    | (go_at_call 212; ((with_reducible refine (specExitOk_c g.exit _).mono ?_)); rintro e w ⟨he, hb⟩; (try rw [h1] at he); (try rw [h2] at he); (try rw [h3] at he); (try rw [h4] at he); subst he; replace H := H.still hb; clear hb))
  all_goals (go_ret; refine ⟨ret_bool ?_, H.below⟩; clear H; unfold guestOkM; simp [GV.m, *] <;> (rw [Bool.eq_iff_iff]; simp; (try exact decide_eq_true_iff.symm)))
set_option maxRecDepth 100000 in
set_option maxHeartbeats 2000000 in
theorem specGuestOk_4 (g : GV) (w : World) (hg : GRd w g) (hz : GBig g) (h1 : (progOkM g.prog.xs) = true) (h2 : (inB g.a 0 99) = true) (h3 : (inB g.pc 0 12) = true) (h4 : (tableOkM 4 8 g.written.xs) = true) (h5 : (tableOkM 4 8 g.live.xs) = false) : Calls Tryz.prog 158 #[g.val] w fun e w' => e = .returned (.bool (guestOkM g.m)) ∧ Below w.heap.size w w' := by
  obtain ⟨Z1, Z2, Z3, Z4⟩ := id hz
  simp only [big] at Z1 Z2 Z3 Z4
  have H := Hp.start w
  go_enter Tryz.func158, Tryz.ntmps158
  go_wp2_with (first
    | (refine wpList_box_H rfl rfl H rfl (by constructor) ?_; clear H; intro b w H)
    | (refine wpList_alloc_H rfl rfl H ?_; clear H; intro b w H)
    | (refine wpList_load_H rfl rfl H rfl (by repeat constructor) ?_)
    | (refine wpList_loads_H rfl rfl H rfl (by repeat constructor) ?_)
    | (refine wpList_store_H rfl rfl H rfl rfl (by repeat constructor) ?_; clear H; intro w H)
    | (go_at_call 210; ((with_reducible refine (specProgOk_c g.prog _ (hg.prog.at_ H) Z1).mono ?_)); rintro e w ⟨he, hb⟩; (try rw [h1] at he); (try rw [h2] at he); (try rw [h3] at he); (try rw [h4] at he); (try rw [h5] at he); subst he; replace H := H.still hb; clear hb)
    | (go_at_call 78; ((with_reducible refine (in_any g.a 0 99 _).mono ?_)); rintro e w' ⟨he, hw⟩; subst hw; (try rw [h1] at he); (try rw [h2] at he); (try rw [h3] at he); (try rw [h4] at he); (try rw [h5] at he); subst he)
    | (go_at_call 78; ((with_reducible refine (in_any g.pc 0 12 _).mono ?_)); rintro e w' ⟨he, hw⟩; subst hw; (try rw [h1] at he); (try rw [h2] at he); (try rw [h3] at he); (try rw [h4] at he); (try rw [h5] at he); subst he)
    | (go_at_call 211; ((with_reducible refine (specTableOk_c g.written 4 8 _ (hg.written.at_ H) Z2).mono ?_)); rintro e w ⟨he, hb⟩; (try rw [h1] at he); (try rw [h2] at he); (try rw [h3] at he); (try rw [h4] at he); (try rw [h5] at he); subst he; replace H := H.still hb; clear hb)
    | (go_at_call 211; ((with_reducible refine (specTableOk_c g.live 4 8 _ (hg.live.at_ H) Z3).mono ?_)); rintro e w ⟨he, hb⟩; (try rw [h1] at he); (try rw [h2] at he); (try rw [h3] at he); (try rw [h4] at he); (try rw [h5] at he); subst he; replace H := H.still hb; clear hb)
    | (go_at_call 91; ((with_reducible refine (specCtlOk_c g.ctl _).mono ?_)); rintro e w ⟨he, hb⟩; (try rw [h1] at he); (try rw [h2] at he); (try rw [h3] at he); (try rw [h4] at he); (try rw [h5] at he); subst he; replace H := H.still hb; clear hb)
    | (go_at_call 160; ((with_reducible refine (specPendOk_any g.pending _).mono ?_)); rintro e w' ⟨he, hw⟩; subst hw; (try rw [h1] at he); (try rw [h2] at he); (try rw [h3] at he); (try rw [h4] at he); (try rw [h5] at he); subst he)
    | (go_at_call 212; ((with_reducible refine (specExitOk_c g.exit _).mono ?_)); rintro e w ⟨he, hb⟩; (try rw [h1] at he); (try rw [h2] at he); (try rw [h3] at he); (try rw [h4] at he); (try rw [h5] at he); subst he; replace H := H.still hb; clear hb))
  all_goals (go_ret; refine ⟨ret_bool ?_, H.below⟩; clear H; unfold guestOkM; simp [GV.m, *] <;> (rw [Bool.eq_iff_iff]; simp; (try exact decide_eq_true_iff.symm)))
set_option maxRecDepth 100000 in
set_option maxHeartbeats 2000000 in
theorem specGuestOk_5 (g : GV) (w : World) (hg : GRd w g) (hz : GBig g) (h1 : (progOkM g.prog.xs) = true) (h2 : (inB g.a 0 99) = true) (h3 : (inB g.pc 0 12) = true) (h4 : (tableOkM 4 8 g.written.xs) = true) (h5 : (tableOkM 4 8 g.live.xs) = true) (h6 : (ctlOkM g.ctl) = false) : Calls Tryz.prog 158 #[g.val] w fun e w' => e = .returned (.bool (guestOkM g.m)) ∧ Below w.heap.size w w' := by
  obtain ⟨Z1, Z2, Z3, Z4⟩ := id hz
  simp only [big] at Z1 Z2 Z3 Z4
  have H := Hp.start w
  go_enter Tryz.func158, Tryz.ntmps158
  go_wp2_with (first
    | (refine wpList_box_H rfl rfl H rfl (by constructor) ?_; clear H; intro b w H)
    | (refine wpList_alloc_H rfl rfl H ?_; clear H; intro b w H)
    | (refine wpList_load_H rfl rfl H rfl (by repeat constructor) ?_)
    | (refine wpList_loads_H rfl rfl H rfl (by repeat constructor) ?_)
    | (refine wpList_store_H rfl rfl H rfl rfl (by repeat constructor) ?_; clear H; intro w H)
    | (go_at_call 210; ((with_reducible refine (specProgOk_c g.prog _ (hg.prog.at_ H) Z1).mono ?_)); rintro e w ⟨he, hb⟩; (try rw [h1] at he); (try rw [h2] at he); (try rw [h3] at he); (try rw [h4] at he); (try rw [h5] at he); (try rw [h6] at he); subst he; replace H := H.still hb; clear hb)
    | (go_at_call 78; ((with_reducible refine (in_any g.a 0 99 _).mono ?_)); rintro e w' ⟨he, hw⟩; subst hw; (try rw [h1] at he); (try rw [h2] at he); (try rw [h3] at he); (try rw [h4] at he); (try rw [h5] at he); (try rw [h6] at he); subst he)
    | (go_at_call 78; ((with_reducible refine (in_any g.pc 0 12 _).mono ?_)); rintro e w' ⟨he, hw⟩; subst hw; (try rw [h1] at he); (try rw [h2] at he); (try rw [h3] at he); (try rw [h4] at he); (try rw [h5] at he); (try rw [h6] at he); subst he)
    | (go_at_call 211; ((with_reducible refine (specTableOk_c g.written 4 8 _ (hg.written.at_ H) Z2).mono ?_)); rintro e w ⟨he, hb⟩; (try rw [h1] at he); (try rw [h2] at he); (try rw [h3] at he); (try rw [h4] at he); (try rw [h5] at he); (try rw [h6] at he); subst he; replace H := H.still hb; clear hb)
    | (go_at_call 211; ((with_reducible refine (specTableOk_c g.live 4 8 _ (hg.live.at_ H) Z3).mono ?_)); rintro e w ⟨he, hb⟩; (try rw [h1] at he); (try rw [h2] at he); (try rw [h3] at he); (try rw [h4] at he); (try rw [h5] at he); (try rw [h6] at he); subst he; replace H := H.still hb; clear hb)
    | (go_at_call 91; ((with_reducible refine (specCtlOk_c g.ctl _).mono ?_)); rintro e w ⟨he, hb⟩; (try rw [h1] at he); (try rw [h2] at he); (try rw [h3] at he); (try rw [h4] at he); (try rw [h5] at he); (try rw [h6] at he); subst he; replace H := H.still hb; clear hb)
    | (go_at_call 160; ((with_reducible refine (specPendOk_any g.pending _).mono ?_)); rintro e w' ⟨he, hw⟩; subst hw; (try rw [h1] at he); (try rw [h2] at he); (try rw [h3] at he); (try rw [h4] at he); (try rw [h5] at he); (try rw [h6] at he); subst he)
    | (go_at_call 212; ((with_reducible refine (specExitOk_c g.exit _).mono ?_)); rintro e w ⟨he, hb⟩; (try rw [h1] at he); (try rw [h2] at he); (try rw [h3] at he); (try rw [h4] at he); (try rw [h5] at he); (try rw [h6] at he); subst he; replace H := H.still hb; clear hb))
  all_goals (go_ret; refine ⟨ret_bool ?_, H.below⟩; clear H; unfold guestOkM; simp [GV.m, *] <;> (rw [Bool.eq_iff_iff]; simp; (try exact decide_eq_true_iff.symm)))
set_option maxRecDepth 100000 in
set_option maxHeartbeats 2000000 in
theorem specGuestOk_6 (g : GV) (w : World) (hg : GRd w g) (hz : GBig g) (h1 : (progOkM g.prog.xs) = true) (h2 : (inB g.a 0 99) = true) (h3 : (inB g.pc 0 12) = true) (h4 : (tableOkM 4 8 g.written.xs) = true) (h5 : (tableOkM 4 8 g.live.xs) = true) (h6 : (ctlOkM g.ctl) = true) (h7 : (pendB g.pending) = false) : Calls Tryz.prog 158 #[g.val] w fun e w' => e = .returned (.bool (guestOkM g.m)) ∧ Below w.heap.size w w' := by
  obtain ⟨Z1, Z2, Z3, Z4⟩ := id hz
  simp only [big] at Z1 Z2 Z3 Z4
  have H := Hp.start w
  go_enter Tryz.func158, Tryz.ntmps158
  go_wp2_with (first
    | (refine wpList_box_H rfl rfl H rfl (by constructor) ?_; clear H; intro b w H)
    | (refine wpList_alloc_H rfl rfl H ?_; clear H; intro b w H)
    | (refine wpList_load_H rfl rfl H rfl (by repeat constructor) ?_)
    | (refine wpList_loads_H rfl rfl H rfl (by repeat constructor) ?_)
    | (refine wpList_store_H rfl rfl H rfl rfl (by repeat constructor) ?_; clear H; intro w H)
    | (go_at_call 210; ((with_reducible refine (specProgOk_c g.prog _ (hg.prog.at_ H) Z1).mono ?_)); rintro e w ⟨he, hb⟩; (try rw [h1] at he); (try rw [h2] at he); (try rw [h3] at he); (try rw [h4] at he); (try rw [h5] at he); (try rw [h6] at he); (try rw [h7] at he); subst he; replace H := H.still hb; clear hb)
    | (go_at_call 78; ((with_reducible refine (in_any g.a 0 99 _).mono ?_)); rintro e w' ⟨he, hw⟩; subst hw; (try rw [h1] at he); (try rw [h2] at he); (try rw [h3] at he); (try rw [h4] at he); (try rw [h5] at he); (try rw [h6] at he); (try rw [h7] at he); subst he)
    | (go_at_call 78; ((with_reducible refine (in_any g.pc 0 12 _).mono ?_)); rintro e w' ⟨he, hw⟩; subst hw; (try rw [h1] at he); (try rw [h2] at he); (try rw [h3] at he); (try rw [h4] at he); (try rw [h5] at he); (try rw [h6] at he); (try rw [h7] at he); subst he)
    | (go_at_call 211; ((with_reducible refine (specTableOk_c g.written 4 8 _ (hg.written.at_ H) Z2).mono ?_)); rintro e w ⟨he, hb⟩; (try rw [h1] at he); (try rw [h2] at he); (try rw [h3] at he); (try rw [h4] at he); (try rw [h5] at he); (try rw [h6] at he); (try rw [h7] at he); subst he; replace H := H.still hb; clear hb)
    | (go_at_call 211; ((with_reducible refine (specTableOk_c g.live 4 8 _ (hg.live.at_ H) Z3).mono ?_)); rintro e w ⟨he, hb⟩; (try rw [h1] at he); (try rw [h2] at he); (try rw [h3] at he); (try rw [h4] at he); (try rw [h5] at he); (try rw [h6] at he); (try rw [h7] at he); subst he; replace H := H.still hb; clear hb)
    | (go_at_call 91; ((with_reducible refine (specCtlOk_c g.ctl _).mono ?_)); rintro e w ⟨he, hb⟩; (try rw [h1] at he); (try rw [h2] at he); (try rw [h3] at he); (try rw [h4] at he); (try rw [h5] at he); (try rw [h6] at he); (try rw [h7] at he); subst he; replace H := H.still hb; clear hb)
    | (go_at_call 160; ((with_reducible refine (specPendOk_any g.pending _).mono ?_)); rintro e w' ⟨he, hw⟩; subst hw; (try rw [h1] at he); (try rw [h2] at he); (try rw [h3] at he); (try rw [h4] at he); (try rw [h5] at he); (try rw [h6] at he); (try rw [h7] at he); subst he)
    | (go_at_call 212; ((with_reducible refine (specExitOk_c g.exit _).mono ?_)); rintro e w ⟨he, hb⟩; (try rw [h1] at he); (try rw [h2] at he); (try rw [h3] at he); (try rw [h4] at he); (try rw [h5] at he); (try rw [h6] at he); (try rw [h7] at he); subst he; replace H := H.still hb; clear hb))
  all_goals (go_ret; refine ⟨ret_bool ?_, H.below⟩; clear H; unfold guestOkM; simp [GV.m, *] <;> (rw [Bool.eq_iff_iff]; simp; (try exact decide_eq_true_iff.symm)))
set_option maxRecDepth 100000 in
set_option maxHeartbeats 2000000 in
theorem specGuestOk_7 (g : GV) (w : World) (hg : GRd w g) (hz : GBig g) (h1 : (progOkM g.prog.xs) = true) (h2 : (inB g.a 0 99) = true) (h3 : (inB g.pc 0 12) = true) (h4 : (tableOkM 4 8 g.written.xs) = true) (h5 : (tableOkM 4 8 g.live.xs) = true) (h6 : (ctlOkM g.ctl) = true) (h7 : (pendB g.pending) = true) (h8 : (exitOkM g.exit) = false) : Calls Tryz.prog 158 #[g.val] w fun e w' => e = .returned (.bool (guestOkM g.m)) ∧ Below w.heap.size w w' := by
  obtain ⟨Z1, Z2, Z3, Z4⟩ := id hz
  simp only [big] at Z1 Z2 Z3 Z4
  have H := Hp.start w
  go_enter Tryz.func158, Tryz.ntmps158
  go_wp2_with (first
    | (refine wpList_box_H rfl rfl H rfl (by constructor) ?_; clear H; intro b w H)
    | (refine wpList_alloc_H rfl rfl H ?_; clear H; intro b w H)
    | (refine wpList_load_H rfl rfl H rfl (by repeat constructor) ?_)
    | (refine wpList_loads_H rfl rfl H rfl (by repeat constructor) ?_)
    | (refine wpList_store_H rfl rfl H rfl rfl (by repeat constructor) ?_; clear H; intro w H)
    | (go_at_call 210; ((with_reducible refine (specProgOk_c g.prog _ (hg.prog.at_ H) Z1).mono ?_)); rintro e w ⟨he, hb⟩; (try rw [h1] at he); (try rw [h2] at he); (try rw [h3] at he); (try rw [h4] at he); (try rw [h5] at he); (try rw [h6] at he); (try rw [h7] at he); (try rw [h8] at he); subst he; replace H := H.still hb; clear hb)
    | (go_at_call 78; ((with_reducible refine (in_any g.a 0 99 _).mono ?_)); rintro e w' ⟨he, hw⟩; subst hw; (try rw [h1] at he); (try rw [h2] at he); (try rw [h3] at he); (try rw [h4] at he); (try rw [h5] at he); (try rw [h6] at he); (try rw [h7] at he); (try rw [h8] at he); subst he)
    | (go_at_call 78; ((with_reducible refine (in_any g.pc 0 12 _).mono ?_)); rintro e w' ⟨he, hw⟩; subst hw; (try rw [h1] at he); (try rw [h2] at he); (try rw [h3] at he); (try rw [h4] at he); (try rw [h5] at he); (try rw [h6] at he); (try rw [h7] at he); (try rw [h8] at he); subst he)
    | (go_at_call 211; ((with_reducible refine (specTableOk_c g.written 4 8 _ (hg.written.at_ H) Z2).mono ?_)); rintro e w ⟨he, hb⟩; (try rw [h1] at he); (try rw [h2] at he); (try rw [h3] at he); (try rw [h4] at he); (try rw [h5] at he); (try rw [h6] at he); (try rw [h7] at he); (try rw [h8] at he); subst he; replace H := H.still hb; clear hb)
    | (go_at_call 211; ((with_reducible refine (specTableOk_c g.live 4 8 _ (hg.live.at_ H) Z3).mono ?_)); rintro e w ⟨he, hb⟩; (try rw [h1] at he); (try rw [h2] at he); (try rw [h3] at he); (try rw [h4] at he); (try rw [h5] at he); (try rw [h6] at he); (try rw [h7] at he); (try rw [h8] at he); subst he; replace H := H.still hb; clear hb)
    | (go_at_call 91; ((with_reducible refine (specCtlOk_c g.ctl _).mono ?_)); rintro e w ⟨he, hb⟩; (try rw [h1] at he); (try rw [h2] at he); (try rw [h3] at he); (try rw [h4] at he); (try rw [h5] at he); (try rw [h6] at he); (try rw [h7] at he); (try rw [h8] at he); subst he; replace H := H.still hb; clear hb)
    | (go_at_call 160; ((with_reducible refine (specPendOk_any g.pending _).mono ?_)); rintro e w' ⟨he, hw⟩; subst hw; (try rw [h1] at he); (try rw [h2] at he); (try rw [h3] at he); (try rw [h4] at he); (try rw [h5] at he); (try rw [h6] at he); (try rw [h7] at he); (try rw [h8] at he); subst he)
    | (go_at_call 212; ((with_reducible refine (specExitOk_c g.exit _).mono ?_)); rintro e w ⟨he, hb⟩; (try rw [h1] at he); (try rw [h2] at he); (try rw [h3] at he); (try rw [h4] at he); (try rw [h5] at he); (try rw [h6] at he); (try rw [h7] at he); (try rw [h8] at he); subst he; replace H := H.still hb; clear hb))
  all_goals (go_ret; refine ⟨ret_bool ?_, H.below⟩; clear H; unfold guestOkM; simp [GV.m, *] <;> (rw [Bool.eq_iff_iff]; simp; (try exact decide_eq_true_iff.symm)))
set_option maxRecDepth 100000 in
set_option maxHeartbeats 2000000 in
theorem specGuestOk_8 (g : GV) (w : World) (hg : GRd w g) (hz : GBig g) (h1 : (progOkM g.prog.xs) = true) (h2 : (inB g.a 0 99) = true) (h3 : (inB g.pc 0 12) = true) (h4 : (tableOkM 4 8 g.written.xs) = true) (h5 : (tableOkM 4 8 g.live.xs) = true) (h6 : (ctlOkM g.ctl) = true) (h7 : (pendB g.pending) = true) (h8 : (exitOkM g.exit) = true) : Calls Tryz.prog 158 #[g.val] w fun e w' => e = .returned (.bool (guestOkM g.m)) ∧ Below w.heap.size w w' := by
  obtain ⟨Z1, Z2, Z3, Z4⟩ := id hz
  simp only [big] at Z1 Z2 Z3 Z4
  have H := Hp.start w
  go_enter Tryz.func158, Tryz.ntmps158
  go_wp2_with (first
    | (refine wpList_box_H rfl rfl H rfl (by constructor) ?_; clear H; intro b w H)
    | (refine wpList_alloc_H rfl rfl H ?_; clear H; intro b w H)
    | (refine wpList_load_H rfl rfl H rfl (by repeat constructor) ?_)
    | (refine wpList_loads_H rfl rfl H rfl (by repeat constructor) ?_)
    | (refine wpList_store_H rfl rfl H rfl rfl (by repeat constructor) ?_; clear H; intro w H)
    | (go_at_call 210; ((with_reducible refine (specProgOk_c g.prog _ (hg.prog.at_ H) Z1).mono ?_)); rintro e w ⟨he, hb⟩; (try rw [h1] at he); (try rw [h2] at he); (try rw [h3] at he); (try rw [h4] at he); (try rw [h5] at he); (try rw [h6] at he); (try rw [h7] at he); (try rw [h8] at he); subst he; replace H := H.still hb; clear hb)
    | (go_at_call 78; ((with_reducible refine (in_any g.a 0 99 _).mono ?_)); rintro e w' ⟨he, hw⟩; subst hw; (try rw [h1] at he); (try rw [h2] at he); (try rw [h3] at he); (try rw [h4] at he); (try rw [h5] at he); (try rw [h6] at he); (try rw [h7] at he); (try rw [h8] at he); subst he)
    | (go_at_call 78; ((with_reducible refine (in_any g.pc 0 12 _).mono ?_)); rintro e w' ⟨he, hw⟩; subst hw; (try rw [h1] at he); (try rw [h2] at he); (try rw [h3] at he); (try rw [h4] at he); (try rw [h5] at he); (try rw [h6] at he); (try rw [h7] at he); (try rw [h8] at he); subst he)
    | (go_at_call 211; ((with_reducible refine (specTableOk_c g.written 4 8 _ (hg.written.at_ H) Z2).mono ?_)); rintro e w ⟨he, hb⟩; (try rw [h1] at he); (try rw [h2] at he); (try rw [h3] at he); (try rw [h4] at he); (try rw [h5] at he); (try rw [h6] at he); (try rw [h7] at he); (try rw [h8] at he); subst he; replace H := H.still hb; clear hb)
    | (go_at_call 211; ((with_reducible refine (specTableOk_c g.live 4 8 _ (hg.live.at_ H) Z3).mono ?_)); rintro e w ⟨he, hb⟩; (try rw [h1] at he); (try rw [h2] at he); (try rw [h3] at he); (try rw [h4] at he); (try rw [h5] at he); (try rw [h6] at he); (try rw [h7] at he); (try rw [h8] at he); subst he; replace H := H.still hb; clear hb)
    | (go_at_call 91; ((with_reducible refine (specCtlOk_c g.ctl _).mono ?_)); rintro e w ⟨he, hb⟩; (try rw [h1] at he); (try rw [h2] at he); (try rw [h3] at he); (try rw [h4] at he); (try rw [h5] at he); (try rw [h6] at he); (try rw [h7] at he); (try rw [h8] at he); subst he; replace H := H.still hb; clear hb)
    | (go_at_call 160; ((with_reducible refine (specPendOk_any g.pending _).mono ?_)); rintro e w' ⟨he, hw⟩; subst hw; (try rw [h1] at he); (try rw [h2] at he); (try rw [h3] at he); (try rw [h4] at he); (try rw [h5] at he); (try rw [h6] at he); (try rw [h7] at he); (try rw [h8] at he); subst he)
    | (go_at_call 212; ((with_reducible refine (specExitOk_c g.exit _).mono ?_)); rintro e w ⟨he, hb⟩; (try rw [h1] at he); (try rw [h2] at he); (try rw [h3] at he); (try rw [h4] at he); (try rw [h5] at he); (try rw [h6] at he); (try rw [h7] at he); (try rw [h8] at he); subst he; replace H := H.still hb; clear hb))
  all_goals (go_ret; refine ⟨ret_bool ?_, H.below⟩; clear H; unfold guestOkM; simp [GV.m, *] <;> (rw [Bool.eq_iff_iff]; simp; (try exact decide_eq_true_iff.symm)))
theorem specGuestOk_any (g : GV) (w : World) (hg : GRd w g) (hz : GBig g) : Calls Tryz.prog 158 #[g.val] w fun e w' => e = .returned (.bool (guestOkM g.m)) ∧ Below w.heap.size w w' := by
  cases h1 : (progOkM g.prog.xs)
  · exact specGuestOk_0 g w hg hz h1
  cases h2 : (inB g.a 0 99)
  · exact specGuestOk_1 g w hg hz h1 h2
  cases h3 : (inB g.pc 0 12)
  · exact specGuestOk_2 g w hg hz h1 h2 h3
  cases h4 : (tableOkM 4 8 g.written.xs)
  · exact specGuestOk_3 g w hg hz h1 h2 h3 h4
  cases h5 : (tableOkM 4 8 g.live.xs)
  · exact specGuestOk_4 g w hg hz h1 h2 h3 h4 h5
  cases h6 : (ctlOkM g.ctl)
  · exact specGuestOk_5 g w hg hz h1 h2 h3 h4 h5 h6
  cases h7 : (pendB g.pending)
  · exact specGuestOk_6 g w hg hz h1 h2 h3 h4 h5 h6 h7
  cases h8 : (exitOkM g.exit)
  · exact specGuestOk_7 g w hg hz h1 h2 h3 h4 h5 h6 h7 h8
  exact specGuestOk_8 g w hg hz h1 h2 h3 h4 h5 h6 h7 h8
end Go.Proofs.YtaafnenmdombiaaGreat
