/- Contracts of BareSet, BareAnswer and BareResume, of the program and of the reference. No condition but that the arguments lie in memory. -/
import Derived.Maps.RangeWalk
import Derived.Test.YtaafnenmdombiaaGreatBza
namespace Go.Proofs.YtaafnenmdombiaaGreat
set_option linter.unusedSimpArgs false
set_option linter.unusedVariables false
set_option linter.unusedSimpArgs false
set_option linter.unusedVariables false
open Go.RowKit
set_option maxRecDepth 100000 in
set_option maxHeartbeats 4000000 in
theorem bareSet1_c (x : GV) (p : Int) (s : Slot) (b c : Nat) (W0 : World) (R : GRd W0 x) (Z : GBig x) (h5 : Rw W0 b 3 ([.int .i64 p] : List Value).toArray) (h6 : Rw W0 c 56 ([.int .i64 s.page, .int .i64 s.rights] : List Value).toArray) : Calls Tryz.prog 135 #[x.val, .pointer (some ⟨b, 0, none⟩), .pointer (some ⟨c, 0, none⟩)] W0 fun e w' => ∃ y : GV, e = .returned y.val ∧ (y.m = setG p s x.m ∧ GRd w' y) ∧ Below W0.heap.size W0 w' := by
  have zw := Z.2.1
  unfold big at zw
  have H := Hp.start W0
  go_enter Tryz.func135, Tryz.ntmps135
  go_wp2_with (first
    | go_skip
    | ((with_reducible refine at_box ?_); first | (refine wpList_box_H rfl rfl H rfl (by constructor) ?_; clear H; intro bX w H))
    | ((with_reducible refine at_alloc ?_); first | (refine wpList_alloc_H rfl rfl H ?_; clear H; intro bR w H))
    | ((with_reducible refine at_load ?_); first | (refine wpList_loadc rfl rfl H rfl h5 rfl ?_) | (refine wpList_loadsc rfl rfl H rfl h6 (by repeat constructor) ?_) | (refine wpList_load_H rfl rfl H rfl (by repeat constructor) ?_) | (refine wpList_loads_H rfl rfl H rfl (by repeat constructor) ?_))
    | ((with_reducible refine at_store ?_); first | (refine wpList_store_H rfl rfl H rfl rfl (by repeat constructor) ?_; clear H; intro w H))
    | (go_at_call 136; refine (withSlot_c x.written p s _ (R.written.at_ H) zw).mono ?_; rintro e w ⟨t, rfl, x1, K⟩; have HT := Lib.hid x1; clear x1; replace H := H.add_all K; clear K))
  refine bodyPost_ret (results_H rfl H rfl (by repeat constructor)) rfl ⟨⟨x.prog, x.a, x.pc, t, x.live, x.ctl, x.pending, x.exit, x.halted, x.seen⟩, rfl, ⟨by unfold setG; simp only [GV.m, HT.out], ⟨R.prog.at_ H, H.rd (by repeat constructor) slot_len, R.live.at_ H, R.seen.at_ H⟩⟩, H.below⟩
theorem val_eq {P : Program} {f : FuncId} {args : Array Value} {w0 w : World} {L : List En} {v v' : Value} (h : Calls P f args w (fun e w' => ∃ u, e = .returned u ∧ (u = v ∧ Hp w0 w' L))) (e : v = v') : Calls P f args w (fun e w' => ∃ u, e = .returned u ∧ (u = v' ∧ Hp w0 w' L)) := e ▸ h
set_option maxRecDepth 100000 in
set_option maxHeartbeats 4000000 in
theorem bareSet_c (B : BV) (g p : Int) (s : Slot) (W0 : World) (R : BRd W0 B) (Z : BBig B) : Calls Tryz.prog 28 #[B.val, .int .i64 g, .int .i64 p, s.val] W0 fun e w' => ∃ d : BV, e = .returned (.tuple #[d.val, .bool (chOkM B.m g (hasB p 4 && slotOkM 8 s))]) ∧ d.m = changedM B.m g (hasB p 4 && slotOkM 8 s) (setG p s) ∧ Hp W0 w' [.bare d] := by
  cases e1 : hasB p 4
  · rw [Bool.false_and]
    have H := Hp.start W0
    go_enter Tryz.func28, Tryz.ntmps28
    go_wp2_with (first
      | go_skip
      | ((with_reducible refine at_box ?_); first | (refine wpList_box_H (cs := (barr B).toList) rfl rfl H rfl CellsOf.agg ?_; clear H; intro bB w H) | (refine wpList_box_H (cs := [.int .i64 p]) rfl rfl H rfl CellsOf.int ?_; clear H; intro bP w H) | (refine wpList_box_H rfl rfl H rfl (by constructor) ?_; clear H; intro bS w H))
      | ((with_reducible refine at_alloc ?_); first | (refine wpList_alloc_H rfl rfl H ?_; clear H; intro bR w H))
      | ((with_reducible refine at_load ?_); first | (refine wpList_load_H rfl rfl H rfl (by repeat constructor) ?_) | (refine wpList_loads_H rfl rfl H rfl (by repeat constructor) ?_))
      | ((with_reducible refine at_store ?_); first | (refine wpList_store_H rfl rfl H rfl rfl (by repeat constructor) ?_; clear H; intro w H)))
    refine wp_cut (fun u a' w' => ∃ (d : BV), Hid (d.m = changedM B.m g false (setG p s)) ∧ Hp W0 w' [.bare d, .box bR 28 (barr d).toList] ∧ a' = puts u [(10, B.val), (11, (.int .i64 g)), (12, (.int .i64 p)), (13, (.bool false)), (14, (.bool false)), (15, undef), (16, undef), (17, (.bool false)), (18, (.func (.func 135) #[] #[.pointer (some ⟨bP, 0, none⟩), .pointer (some ⟨bS, 0, none⟩)])), (19, (.tuple #[d.val, .bool (chOkM B.m g false)])), (20, d.val), (21, (.bool (chOkM B.m g false))), (9, (.bool (chOkM B.m g false)))]) ?_ ?_
    · refine wp_region_held (S := (fun w' => Rw w' bB 28 (barr B) ∧ (Rw w' bP 3 ([.int .i64 p] : List Value).toArray ∧ Rw w' bS 56 ([.int .i64 s.page, .int .i64 s.rights] : List Value).toArray))) (by kernel_rfl) ?_
      replace H := H.drew
      refine tkH (i := 0) rfl .here (yields_loads_R rfl rfl rfl (fun _ hS => hS.1) (by repeat constructor)) ⟨H.rw_ (by repeat constructor), H.rw_ (by repeat constructor), H.rw_ (by repeat constructor)⟩ ?_
      (try go_frame)
      refine tkH (i := 1) rfl (.of rfl) (yields_val (v := (.int .i64 g)) rfl (fun _ => by go_simp)) ⟨H.rw_ (by repeat constructor), H.rw_ (by repeat constructor), H.rw_ (by repeat constructor)⟩ ?_
      (try go_frame)
      refine tkH (i := 2) rfl (.of rfl) (yields_load1_R rfl rfl rfl (fun _ hS => hS.2.1) rfl) ⟨H.rw_ (by repeat constructor), H.rw_ (by repeat constructor), H.rw_ (by repeat constructor)⟩ ?_
      (try go_frame)
      refine tkH (i := 8) rfl (.of rfl) (yields_val (v := (.func (.func 135) #[] #[.pointer (some ⟨bP, 0, none⟩), .pointer (some ⟨bS, 0, none⟩)])) rfl (fun _ => by go_simp)) ⟨H.rw_ (by repeat constructor), H.rw_ (by repeat constructor), H.rw_ (by repeat constructor)⟩ ?_
      (try go_frame)
      refine anyH_1 (i := 3) (by kernel_rfl) ?_
      refine wpOp_at rfl (.of rfl) rfl ?_
      refine wp_call_H Tryz.f133 rfl rfl Tryz.func133 (by kernel_rfl) rfl rfl (val_eq (same_v H (has_any p 4 _)) (by rw [e1])) ?_
      clear H
      rintro _ w ⟨rfl, H⟩
      refine ⟨⟨H.rw_ (by repeat constructor), H.rw_ (by repeat constructor), H.rw_ (by repeat constructor)⟩, ?_⟩
      (try go_frame)
      refine tkH (i := 4) rfl (.of rfl) (yields_val (v := (.bool false)) rfl (fun _ => by go_simp)) ⟨H.rw_ (by repeat constructor), H.rw_ (by repeat constructor), H.rw_ (by repeat constructor)⟩ ?_
      (try go_frame)
      refine tkH (i := 5) rfl (.of rfl) (.inr ⟨rfl, rfl⟩) ⟨H.rw_ (by repeat constructor), H.rw_ (by repeat constructor), H.rw_ (by repeat constructor)⟩ ?_
      (try go_frame)
      refine tkH (i := 6) rfl (.of rfl) (.inr ⟨rfl, rfl⟩) ⟨H.rw_ (by repeat constructor), H.rw_ (by repeat constructor), H.rw_ (by repeat constructor)⟩ ?_
      (try go_frame)
      refine tkH (i := 7) rfl (.of rfl) (yields_val (v := (.bool false)) rfl (fun _ => by go_simp)) ⟨H.rw_ (by repeat constructor), H.rw_ (by repeat constructor), H.rw_ (by repeat constructor)⟩ ?_
      (try go_frame)
      refine anyH_1 (i := 9) (by kernel_rfl) ?_
      refine wpOp_at rfl (.of rfl) rfl ?_
      refine wp_call_H Tryz.f71 rfl rfl Tryz.func71 (by kernel_rfl) rfl rfl (made_H (val := fun d : BV => .tuple #[d.val, .bool (chOkM B.m g false)]) H (changed_c B g false 135 Tryz.f135 Tryz.func135 (by kernel_rfl) #[.pointer (some ⟨bP, 0, none⟩), .pointer (some ⟨bS, 0, none⟩)] (setG p s) _ (R.at_ H) Z (by unfold setG MG.size; rw [withSlot_len]; exact Nat.le_trans (gAtM_size B.m g) Z) (fun x _ hb Rx Zx => bareSet1_c x p s bP bS _ Rx Zx ((H.rw_ (cs := [.int .i64 p]) (by repeat constructor)).below_ hb) ((H.rw_ (cs := [.int .i64 s.page, .int .i64 s.rights]) (by repeat constructor)).below_ hb)))) ?_
      clear H
      rintro _ w ⟨d, rfl, HD, H⟩
      refine ⟨⟨H.rw_ (by repeat constructor), H.rw_ (by repeat constructor), H.rw_ (by repeat constructor)⟩, ?_⟩
      (try go_frame)
      refine tkH (i := 10) rfl (.of rfl) (yields_val (v := d.val) rfl (fun _ => by go_simp)) ⟨H.rw_ (by repeat constructor), H.rw_ (by repeat constructor), H.rw_ (by repeat constructor)⟩ ?_
      (try go_frame)
      refine tkH (i := 11) rfl (.of rfl) (yields_val (v := (.bool (chOkM B.m g false))) rfl (fun _ => by go_simp)) ⟨H.rw_ (by repeat constructor), H.rw_ (by repeat constructor), H.rw_ (by repeat constructor)⟩ ?_
      (try go_frame)
      refine anyH_1 (i := 12) (by kernel_rfl) ?_
      refine wpOp_at rfl (.of rfl) rfl ?_
      refine wp_store_H rfl H rfl rfl (by repeat constructor) ?_
      clear H
      intro w H
      refine ⟨⟨H.rw_ (by repeat constructor), H.rw_ (by repeat constructor), H.rw_ (by repeat constructor)⟩, ?_⟩
      (try go_frame)
      refine tkH (i := 13) rfl (.of rfl) (yields_val (v := (.bool (chOkM B.m g false))) rfl (fun _ => by go_simp)) ⟨H.rw_ (by repeat constructor), H.rw_ (by repeat constructor), H.rw_ (by repeat constructor)⟩ ?_
      (try go_frame)
      refine wpAnyH_done (by kernel_rfl) ?_ _
      exact ⟨rfl, d, HD, H.pick (.cons (by repeat constructor) (.cons (by repeat constructor) .nil)), by first | (simp only [puts_cons, puts_nil, Act.put, List.setIfInBounds_toArray, List.set_cons_succ, List.set_cons_zero]; done) | (simp only [puts_cons, puts_nil, Act.put, List.setIfInBounds_toArray, List.set_cons_succ, List.set_cons_zero]; rfl)⟩
    clear H
    rintro u w ⟨d, HD, H, rfl⟩
    simp only [puts_cons, puts_nil, Act.put, List.setIfInBounds_toArray, List.set_cons_succ, List.set_cons_zero]
    go_wp2_with (first
      | go_skip
      | ((with_reducible refine at_box ?_); first | (refine wpList_box_H rfl rfl H rfl (by constructor) ?_; clear H; intro b w H))
      | ((with_reducible refine at_alloc ?_); first | (refine wpList_alloc_H rfl rfl H ?_; clear H; intro b w H))
      | ((with_reducible refine at_load ?_); first | (refine wpList_load_H rfl rfl H rfl (by repeat constructor) ?_) | (refine wpList_loads_H rfl rfl H rfl (by repeat constructor) ?_))
      | ((with_reducible refine at_store ?_); first | (refine wpList_store_H rfl rfl H rfl rfl (by repeat constructor) ?_; clear H; intro w H)))
    refine bodyPost_ret (results_H2 rfl H rfl (by repeat constructor)) rfl ⟨d, rfl, HD.out, H.pick (.cons (by repeat constructor) .nil)⟩
  · rw [Bool.true_and]
    cases e2 : slotOkM 8 s
    · have H := Hp.start W0
      go_enter Tryz.func28, Tryz.ntmps28
      go_wp2_with (first
        | go_skip
        | ((with_reducible refine at_box ?_); first | (refine wpList_box_H (cs := (barr B).toList) rfl rfl H rfl CellsOf.agg ?_; clear H; intro bB w H) | (refine wpList_box_H (cs := [.int .i64 p]) rfl rfl H rfl CellsOf.int ?_; clear H; intro bP w H) | (refine wpList_box_H rfl rfl H rfl (by constructor) ?_; clear H; intro bS w H))
        | ((with_reducible refine at_alloc ?_); first | (refine wpList_alloc_H rfl rfl H ?_; clear H; intro bR w H))
        | ((with_reducible refine at_load ?_); first | (refine wpList_load_H rfl rfl H rfl (by repeat constructor) ?_) | (refine wpList_loads_H rfl rfl H rfl (by repeat constructor) ?_))
        | ((with_reducible refine at_store ?_); first | (refine wpList_store_H rfl rfl H rfl rfl (by repeat constructor) ?_; clear H; intro w H)))
      refine wp_cut (fun u a' w' => ∃ (d : BV), Hid (d.m = changedM B.m g false (setG p s)) ∧ Hp W0 w' [.bare d, .box bR 28 (barr d).toList] ∧ a' = puts u [(10, B.val), (11, (.int .i64 g)), (12, (.int .i64 p)), (13, (.bool true)), (14, (.bool true)), (15, s.val), (16, (.bool false)), (17, (.bool false)), (18, (.func (.func 135) #[] #[.pointer (some ⟨bP, 0, none⟩), .pointer (some ⟨bS, 0, none⟩)])), (19, (.tuple #[d.val, .bool (chOkM B.m g false)])), (20, d.val), (21, (.bool (chOkM B.m g false))), (9, (.bool (chOkM B.m g false)))]) ?_ ?_
      · refine wp_region_held (S := (fun w' => Rw w' bB 28 (barr B) ∧ (Rw w' bP 3 ([.int .i64 p] : List Value).toArray ∧ Rw w' bS 56 ([.int .i64 s.page, .int .i64 s.rights] : List Value).toArray))) (by kernel_rfl) ?_
        replace H := H.drew
        refine tkH (i := 0) rfl .here (yields_loads_R rfl rfl rfl (fun _ hS => hS.1) (by repeat constructor)) ⟨H.rw_ (by repeat constructor), H.rw_ (by repeat constructor), H.rw_ (by repeat constructor)⟩ ?_
        (try go_frame)
        refine tkH (i := 1) rfl (.of rfl) (yields_val (v := (.int .i64 g)) rfl (fun _ => by go_simp)) ⟨H.rw_ (by repeat constructor), H.rw_ (by repeat constructor), H.rw_ (by repeat constructor)⟩ ?_
        (try go_frame)
        refine tkH (i := 2) rfl (.of rfl) (yields_load1_R rfl rfl rfl (fun _ hS => hS.2.1) rfl) ⟨H.rw_ (by repeat constructor), H.rw_ (by repeat constructor), H.rw_ (by repeat constructor)⟩ ?_
        (try go_frame)
        refine tkH (i := 8) rfl (.of rfl) (yields_val (v := (.func (.func 135) #[] #[.pointer (some ⟨bP, 0, none⟩), .pointer (some ⟨bS, 0, none⟩)])) rfl (fun _ => by go_simp)) ⟨H.rw_ (by repeat constructor), H.rw_ (by repeat constructor), H.rw_ (by repeat constructor)⟩ ?_
        (try go_frame)
        refine anyH_1 (i := 3) (by kernel_rfl) ?_
        refine wpOp_at rfl (.of rfl) rfl ?_
        refine wp_call_H Tryz.f133 rfl rfl Tryz.func133 (by kernel_rfl) rfl rfl (val_eq (same_v H (has_any p 4 _)) (by rw [e1])) ?_
        clear H
        rintro _ w ⟨rfl, H⟩
        refine ⟨⟨H.rw_ (by repeat constructor), H.rw_ (by repeat constructor), H.rw_ (by repeat constructor)⟩, ?_⟩
        (try go_frame)
        refine tkH (i := 4) rfl (.of rfl) (yields_val (v := (.bool true)) rfl (fun _ => by go_simp)) ⟨H.rw_ (by repeat constructor), H.rw_ (by repeat constructor), H.rw_ (by repeat constructor)⟩ ?_
        (try go_frame)
        refine tkH (i := 5) rfl (.of rfl) (yields_loads_R rfl rfl rfl (fun _ hS => hS.2.2) (by repeat constructor)) ⟨H.rw_ (by repeat constructor), H.rw_ (by repeat constructor), H.rw_ (by repeat constructor)⟩ ?_
        (try go_frame)
        refine anyH_1 (i := 6) (by kernel_rfl) ?_
        refine wpOp_at rfl (.of rfl) rfl ?_
        refine wp_call_H Tryz.f134 rfl rfl Tryz.func134 (by kernel_rfl) rfl rfl (val_eq (below_v H (slotOk_c s 8 _)) (by rw [e2])) ?_
        clear H
        rintro _ w ⟨rfl, H⟩
        refine ⟨⟨H.rw_ (by repeat constructor), H.rw_ (by repeat constructor), H.rw_ (by repeat constructor)⟩, ?_⟩
        (try go_frame)
        refine tkH (i := 7) rfl (.of rfl) (yields_val (v := (.bool false)) rfl (fun _ => by go_simp)) ⟨H.rw_ (by repeat constructor), H.rw_ (by repeat constructor), H.rw_ (by repeat constructor)⟩ ?_
        (try go_frame)
        refine anyH_1 (i := 9) (by kernel_rfl) ?_
        refine wpOp_at rfl (.of rfl) rfl ?_
        refine wp_call_H Tryz.f71 rfl rfl Tryz.func71 (by kernel_rfl) rfl rfl (made_H (val := fun d : BV => .tuple #[d.val, .bool (chOkM B.m g false)]) H (changed_c B g false 135 Tryz.f135 Tryz.func135 (by kernel_rfl) #[.pointer (some ⟨bP, 0, none⟩), .pointer (some ⟨bS, 0, none⟩)] (setG p s) _ (R.at_ H) Z (by unfold setG MG.size; rw [withSlot_len]; exact Nat.le_trans (gAtM_size B.m g) Z) (fun x _ hb Rx Zx => bareSet1_c x p s bP bS _ Rx Zx ((H.rw_ (cs := [.int .i64 p]) (by repeat constructor)).below_ hb) ((H.rw_ (cs := [.int .i64 s.page, .int .i64 s.rights]) (by repeat constructor)).below_ hb)))) ?_
        clear H
        rintro _ w ⟨d, rfl, HD, H⟩
        refine ⟨⟨H.rw_ (by repeat constructor), H.rw_ (by repeat constructor), H.rw_ (by repeat constructor)⟩, ?_⟩
        (try go_frame)
        refine tkH (i := 10) rfl (.of rfl) (yields_val (v := d.val) rfl (fun _ => by go_simp)) ⟨H.rw_ (by repeat constructor), H.rw_ (by repeat constructor), H.rw_ (by repeat constructor)⟩ ?_
        (try go_frame)
        refine tkH (i := 11) rfl (.of rfl) (yields_val (v := (.bool (chOkM B.m g false))) rfl (fun _ => by go_simp)) ⟨H.rw_ (by repeat constructor), H.rw_ (by repeat constructor), H.rw_ (by repeat constructor)⟩ ?_
        (try go_frame)
        refine anyH_1 (i := 12) (by kernel_rfl) ?_
        refine wpOp_at rfl (.of rfl) rfl ?_
        refine wp_store_H rfl H rfl rfl (by repeat constructor) ?_
        clear H
        intro w H
        refine ⟨⟨H.rw_ (by repeat constructor), H.rw_ (by repeat constructor), H.rw_ (by repeat constructor)⟩, ?_⟩
        (try go_frame)
        refine tkH (i := 13) rfl (.of rfl) (yields_val (v := (.bool (chOkM B.m g false))) rfl (fun _ => by go_simp)) ⟨H.rw_ (by repeat constructor), H.rw_ (by repeat constructor), H.rw_ (by repeat constructor)⟩ ?_
        (try go_frame)
        refine wpAnyH_done (by kernel_rfl) ?_ _
        exact ⟨rfl, d, HD, H.pick (.cons (by repeat constructor) (.cons (by repeat constructor) .nil)), by first | (simp only [puts_cons, puts_nil, Act.put, List.setIfInBounds_toArray, List.set_cons_succ, List.set_cons_zero]; done) | (simp only [puts_cons, puts_nil, Act.put, List.setIfInBounds_toArray, List.set_cons_succ, List.set_cons_zero]; rfl)⟩
      clear H
      rintro u w ⟨d, HD, H, rfl⟩
      simp only [puts_cons, puts_nil, Act.put, List.setIfInBounds_toArray, List.set_cons_succ, List.set_cons_zero]
      go_wp2_with (first
        | go_skip
        | ((with_reducible refine at_box ?_); first | (refine wpList_box_H rfl rfl H rfl (by constructor) ?_; clear H; intro b w H))
        | ((with_reducible refine at_alloc ?_); first | (refine wpList_alloc_H rfl rfl H ?_; clear H; intro b w H))
        | ((with_reducible refine at_load ?_); first | (refine wpList_load_H rfl rfl H rfl (by repeat constructor) ?_) | (refine wpList_loads_H rfl rfl H rfl (by repeat constructor) ?_))
        | ((with_reducible refine at_store ?_); first | (refine wpList_store_H rfl rfl H rfl rfl (by repeat constructor) ?_; clear H; intro w H)))
      refine bodyPost_ret (results_H2 rfl H rfl (by repeat constructor)) rfl ⟨d, rfl, HD.out, H.pick (.cons (by repeat constructor) .nil)⟩
    · have H := Hp.start W0
      go_enter Tryz.func28, Tryz.ntmps28
      go_wp2_with (first
        | go_skip
        | ((with_reducible refine at_box ?_); first | (refine wpList_box_H (cs := (barr B).toList) rfl rfl H rfl CellsOf.agg ?_; clear H; intro bB w H) | (refine wpList_box_H (cs := [.int .i64 p]) rfl rfl H rfl CellsOf.int ?_; clear H; intro bP w H) | (refine wpList_box_H rfl rfl H rfl (by constructor) ?_; clear H; intro bS w H))
        | ((with_reducible refine at_alloc ?_); first | (refine wpList_alloc_H rfl rfl H ?_; clear H; intro bR w H))
        | ((with_reducible refine at_load ?_); first | (refine wpList_load_H rfl rfl H rfl (by repeat constructor) ?_) | (refine wpList_loads_H rfl rfl H rfl (by repeat constructor) ?_))
        | ((with_reducible refine at_store ?_); first | (refine wpList_store_H rfl rfl H rfl rfl (by repeat constructor) ?_; clear H; intro w H)))
      refine wp_cut (fun u a' w' => ∃ (d : BV), Hid (d.m = changedM B.m g true (setG p s)) ∧ Hp W0 w' [.bare d, .box bR 28 (barr d).toList] ∧ a' = puts u [(10, B.val), (11, (.int .i64 g)), (12, (.int .i64 p)), (13, (.bool true)), (14, (.bool true)), (15, s.val), (16, (.bool true)), (17, (.bool true)), (18, (.func (.func 135) #[] #[.pointer (some ⟨bP, 0, none⟩), .pointer (some ⟨bS, 0, none⟩)])), (19, (.tuple #[d.val, .bool (chOkM B.m g true)])), (20, d.val), (21, (.bool (chOkM B.m g true))), (9, (.bool (chOkM B.m g true)))]) ?_ ?_
      · refine wp_region_held (S := (fun w' => Rw w' bB 28 (barr B) ∧ (Rw w' bP 3 ([.int .i64 p] : List Value).toArray ∧ Rw w' bS 56 ([.int .i64 s.page, .int .i64 s.rights] : List Value).toArray))) (by kernel_rfl) ?_
        replace H := H.drew
        refine tkH (i := 0) rfl .here (yields_loads_R rfl rfl rfl (fun _ hS => hS.1) (by repeat constructor)) ⟨H.rw_ (by repeat constructor), H.rw_ (by repeat constructor), H.rw_ (by repeat constructor)⟩ ?_
        (try go_frame)
        refine tkH (i := 1) rfl (.of rfl) (yields_val (v := (.int .i64 g)) rfl (fun _ => by go_simp)) ⟨H.rw_ (by repeat constructor), H.rw_ (by repeat constructor), H.rw_ (by repeat constructor)⟩ ?_
        (try go_frame)
        refine tkH (i := 2) rfl (.of rfl) (yields_load1_R rfl rfl rfl (fun _ hS => hS.2.1) rfl) ⟨H.rw_ (by repeat constructor), H.rw_ (by repeat constructor), H.rw_ (by repeat constructor)⟩ ?_
        (try go_frame)
        refine tkH (i := 8) rfl (.of rfl) (yields_val (v := (.func (.func 135) #[] #[.pointer (some ⟨bP, 0, none⟩), .pointer (some ⟨bS, 0, none⟩)])) rfl (fun _ => by go_simp)) ⟨H.rw_ (by repeat constructor), H.rw_ (by repeat constructor), H.rw_ (by repeat constructor)⟩ ?_
        (try go_frame)
        refine anyH_1 (i := 3) (by kernel_rfl) ?_
        refine wpOp_at rfl (.of rfl) rfl ?_
        refine wp_call_H Tryz.f133 rfl rfl Tryz.func133 (by kernel_rfl) rfl rfl (val_eq (same_v H (has_any p 4 _)) (by rw [e1])) ?_
        clear H
        rintro _ w ⟨rfl, H⟩
        refine ⟨⟨H.rw_ (by repeat constructor), H.rw_ (by repeat constructor), H.rw_ (by repeat constructor)⟩, ?_⟩
        (try go_frame)
        refine tkH (i := 4) rfl (.of rfl) (yields_val (v := (.bool true)) rfl (fun _ => by go_simp)) ⟨H.rw_ (by repeat constructor), H.rw_ (by repeat constructor), H.rw_ (by repeat constructor)⟩ ?_
        (try go_frame)
        refine tkH (i := 5) rfl (.of rfl) (yields_loads_R rfl rfl rfl (fun _ hS => hS.2.2) (by repeat constructor)) ⟨H.rw_ (by repeat constructor), H.rw_ (by repeat constructor), H.rw_ (by repeat constructor)⟩ ?_
        (try go_frame)
        refine anyH_1 (i := 6) (by kernel_rfl) ?_
        refine wpOp_at rfl (.of rfl) rfl ?_
        refine wp_call_H Tryz.f134 rfl rfl Tryz.func134 (by kernel_rfl) rfl rfl (val_eq (below_v H (slotOk_c s 8 _)) (by rw [e2])) ?_
        clear H
        rintro _ w ⟨rfl, H⟩
        refine ⟨⟨H.rw_ (by repeat constructor), H.rw_ (by repeat constructor), H.rw_ (by repeat constructor)⟩, ?_⟩
        (try go_frame)
        refine tkH (i := 7) rfl (.of rfl) (yields_val (v := (.bool true)) rfl (fun _ => by go_simp)) ⟨H.rw_ (by repeat constructor), H.rw_ (by repeat constructor), H.rw_ (by repeat constructor)⟩ ?_
        (try go_frame)
        refine anyH_1 (i := 9) (by kernel_rfl) ?_
        refine wpOp_at rfl (.of rfl) rfl ?_
        refine wp_call_H Tryz.f71 rfl rfl Tryz.func71 (by kernel_rfl) rfl rfl (made_H (val := fun d : BV => .tuple #[d.val, .bool (chOkM B.m g true)]) H (changed_c B g true 135 Tryz.f135 Tryz.func135 (by kernel_rfl) #[.pointer (some ⟨bP, 0, none⟩), .pointer (some ⟨bS, 0, none⟩)] (setG p s) _ (R.at_ H) Z (by unfold setG MG.size; rw [withSlot_len]; exact Nat.le_trans (gAtM_size B.m g) Z) (fun x _ hb Rx Zx => bareSet1_c x p s bP bS _ Rx Zx ((H.rw_ (cs := [.int .i64 p]) (by repeat constructor)).below_ hb) ((H.rw_ (cs := [.int .i64 s.page, .int .i64 s.rights]) (by repeat constructor)).below_ hb)))) ?_
        clear H
        rintro _ w ⟨d, rfl, HD, H⟩
        refine ⟨⟨H.rw_ (by repeat constructor), H.rw_ (by repeat constructor), H.rw_ (by repeat constructor)⟩, ?_⟩
        (try go_frame)
        refine tkH (i := 10) rfl (.of rfl) (yields_val (v := d.val) rfl (fun _ => by go_simp)) ⟨H.rw_ (by repeat constructor), H.rw_ (by repeat constructor), H.rw_ (by repeat constructor)⟩ ?_
        (try go_frame)
        refine tkH (i := 11) rfl (.of rfl) (yields_val (v := (.bool (chOkM B.m g true))) rfl (fun _ => by go_simp)) ⟨H.rw_ (by repeat constructor), H.rw_ (by repeat constructor), H.rw_ (by repeat constructor)⟩ ?_
        (try go_frame)
        refine anyH_1 (i := 12) (by kernel_rfl) ?_
        refine wpOp_at rfl (.of rfl) rfl ?_
        refine wp_store_H rfl H rfl rfl (by repeat constructor) ?_
        clear H
        intro w H
        refine ⟨⟨H.rw_ (by repeat constructor), H.rw_ (by repeat constructor), H.rw_ (by repeat constructor)⟩, ?_⟩
        (try go_frame)
        refine tkH (i := 13) rfl (.of rfl) (yields_val (v := (.bool (chOkM B.m g true))) rfl (fun _ => by go_simp)) ⟨H.rw_ (by repeat constructor), H.rw_ (by repeat constructor), H.rw_ (by repeat constructor)⟩ ?_
        (try go_frame)
        refine wpAnyH_done (by kernel_rfl) ?_ _
        exact ⟨rfl, d, HD, H.pick (.cons (by repeat constructor) (.cons (by repeat constructor) .nil)), by first | (simp only [puts_cons, puts_nil, Act.put, List.setIfInBounds_toArray, List.set_cons_succ, List.set_cons_zero]; done) | (simp only [puts_cons, puts_nil, Act.put, List.setIfInBounds_toArray, List.set_cons_succ, List.set_cons_zero]; rfl)⟩
      clear H
      rintro u w ⟨d, HD, H, rfl⟩
      simp only [puts_cons, puts_nil, Act.put, List.setIfInBounds_toArray, List.set_cons_succ, List.set_cons_zero]
      go_wp2_with (first
        | go_skip
        | ((with_reducible refine at_box ?_); first | (refine wpList_box_H rfl rfl H rfl (by constructor) ?_; clear H; intro b w H))
        | ((with_reducible refine at_alloc ?_); first | (refine wpList_alloc_H rfl rfl H ?_; clear H; intro b w H))
        | ((with_reducible refine at_load ?_); first | (refine wpList_load_H rfl rfl H rfl (by repeat constructor) ?_) | (refine wpList_loads_H rfl rfl H rfl (by repeat constructor) ?_))
        | ((with_reducible refine at_store ?_); first | (refine wpList_store_H rfl rfl H rfl rfl (by repeat constructor) ?_; clear H; intro w H)))
      refine bodyPost_ret (results_H2 rfl H rfl (by repeat constructor)) rfl ⟨d, rfl, HD.out, H.pick (.cons (by repeat constructor) .nil)⟩
set_option maxRecDepth 100000 in
set_option maxHeartbeats 4000000 in
theorem specBareSet_c (B : BV) (g : Int) (p : Int) (s : Slot) (W0 : World) (R : BRd W0 B) (Z : BBig B) : Calls Tryz.prog 29 #[B.val, .int .i64 g, .int .i64 p, s.val] W0 fun e w' => ∃ d : BV, e = .returned (.tuple #[d.val, .bool (chOkM B.m g (hasB p 4 && slotOkM 8 s))]) ∧ d.m = changedM B.m g (hasB p 4 && slotOkM 8 s) (setG p s) ∧ Hp W0 w' [.bare d] := by
  have ho : chOkM B.m g (hasB p 4 && slotOkM 8 s) = ((bareOkM B.m && hasM B.m g) && (hasB p 4 && slotOkM 8 s)) := rfl
  cases e1 : (bareOkM B.m && hasM B.m g) <;> cases e2 : hasB p 4 <;> cases e3 : slotOkM 8 s
  case true.true.true =>
    rw [e1, e2, e3] at ho
    simp only [Bool.and_true, Bool.and_false, Bool.true_and, Bool.false_and, Bool.and_self] at ho; try simp only [Bool.and_true, Bool.and_false, Bool.true_and, Bool.false_and, Bool.and_self]
    have hg : 0 ≤ g ∧ g < B.gs.xs.length := by simp only [Bool.and_eq_true] at e1; simpa [hasM, hasB, BV.m, gsOf] using e1.2
    obtain ⟨k, rfl⟩ := Int.eq_ofNat_of_zero_le hg.1
    have hk : k < B.gs.xs.length := by omega
    clear hg
    have HO := Lib.hid ho
    clear ho
    have H := Hp.start W0
    go_enter Tryz.func29, Tryz.ntmps29
    go_wp2_with (first
      | go_skip
      | ((with_reducible refine at_box ?_); first | (refine wpList_box_H (cs := (barr B).toList) rfl rfl H rfl CellsOf.agg ?_; clear H; intro bB w H) | (refine wpList_box_H (cs := [.int .i64 s.page, .int .i64 s.rights]) rfl rfl H rfl CellsOf.agg ?_; clear H; intro bS w H) | (refine wpList_box_H rfl rfl H rfl (by constructor) ?_; clear H; intro bB w H))
      | ((with_reducible refine at_alloc ?_); first | ((with_reducible refine at_dst 8 ?_); refine wpList_alloc_H rfl rfl H ?_; clear H; intro bR w H) | (refine wpList_alloc_H rfl rfl H ?_; clear H; intro b w H))
      | ((with_reducible refine at_load ?_); first | (refine wpList_load_H rfl rfl H rfl (by repeat constructor) ?_) | (refine wpList_loads_H rfl rfl H rfl (by repeat constructor) ?_))
      | ((with_reducible refine at_store ?_); first | (refine wpList_store_H rfl rfl H rfl rfl (by repeat constructor) ?_; clear H; intro w H))
      | (go_at_call 76; refine (l17Copy_c B _ (R.at_ H) Z).mono ?_; rintro e w ⟨d, rfl, x1, K⟩; have HD := Lib.hid x1; clear x1; have Zd := m_big HD Z; replace H := (H.add_all K); clear K)
      | (go_at_call 77; refine (l19Is_c d k _ (H.brd (by repeat constructor)) Zd).mono ?_; rintro e w ⟨he, K⟩; rw [HD.out, e1] at he; subst he; replace H := H.add_all K; clear K)
      | (go_at_call 78; refine (in_any _ _ _ _).mono ?_; rintro e w' ⟨he, hw⟩; subst hw; rw [in4, e2] at he; subst he)
      | (go_at_call 137; refine (specSlotOk_c s 8 _).mono ?_; rintro e w ⟨he, hb⟩; rw [e3] at he; subst he; replace H := H.still hb; clear hb))
    replace H := (H.take (e := .bare d) (by repeat constructor)).bparts
    obtain ⟨y, hy⟩ : ∃ y, d.gs.xs[k]? = some y := ⟨_, List.getElem?_eq_getElem (by rw [m_glen HD]; exact hk)⟩
    have HK := Lib.hid hy; clear hy
    have zw : y.written.xs.length ≤ 4194304 := (Zd.gsi y (List.mem_of_getElem? HK.out)).2.1
    have zl : y.live.xs.length ≤ 4194304 := (Zd.gsi y (List.mem_of_getElem? HK.out)).2.2.1
    obtain ⟨l1, l2, hl, hl1, H⟩ := Hp.gst_open HK.out (H.take (e := .many En.gst d.gs.xs) (by repeat constructor))
    have HL := Lib.hid hl; have HL1 := Lib.hid hl1; clear hl hl1
    refine wp_cut (fun u a' w' => ∃ (t : Sl Slot), Hid (t.xs = withSlotM y.written.xs p s) ∧ Hp W0 w' [.ins y.prog, .slot t, .slot y.live, .int y.seen, .many En.gst l1, .many En.gst l2, .gsl ⟨d.gs.A, d.gs.c, d.gs.xs.set k ⟨y.prog, y.a, y.pc, t, y.live, y.ctl, y.pending, y.exit, y.halted, y.seen⟩⟩, .rows d.mem, .many En.int d.mem.xs, .int d.outs, .box bB 28 (barr d).toList, .box bR 28 [.slice none 0 0, .slice none 0 0, .slice none 0 0, .int .i64 0]] ∧ a' = puts u [(27, .pointer (some ⟨bB, 1, none⟩)), (28, .slice d.gs.A d.gs.xs.length d.gs.c), (29, (.int .i64 k)), (30, .pointer (some ⟨bB, 1, none⟩)), (31, .slice d.gs.A d.gs.xs.length d.gs.c), (32, (.int .i64 k)), (33, (.pointer (some ⟨ablk d.gs.A, aoff d.gs.A + k * 15, none⟩))), (34, (.pointer (some ⟨ablk d.gs.A, aoff d.gs.A + k * 15 + 3, none⟩))), (35, (.slice y.written.A y.written.xs.length y.written.c)), (36, (.int .i64 p)), (37, s.val), (38, .slice t.A t.xs.length t.c), (39, (.pointer (some ⟨ablk d.gs.A, aoff d.gs.A + k * 15, none⟩))), (40, (.pointer (some ⟨ablk d.gs.A, aoff d.gs.A + k * 15 + 3, none⟩)))]) ?_ ?_
    · refine wp_region_last 14 (S := (fun w' => Rw w' bB 28 (barr d) ∧ (Rd GV.cells 15 w' d.gs ∧ Rw w' bS 56 ([.int .i64 s.page, .int .i64 s.rights] : List Value).toArray))) (by kernel_rfl) ?_
      replace H := H.drew
      refine tkL (i := 0) rfl .here (yields_val (v := .pointer (some ⟨bB, 1, none⟩)) rfl (fun _ => by go_simp)) ⟨H.rw_ (by repeat constructor), H.rdgsl (by repeat constructor), H.rw_ (by repeat constructor)⟩ ?_
      (try go_frame)
      refine tkL (i := 1) rfl (.of rfl) (yields_load1_R rfl rfl rfl (fun _ hS => hS.1) rfl) ⟨H.rw_ (by repeat constructor), H.rdgsl (by repeat constructor), H.rw_ (by repeat constructor)⟩ ?_
      (try go_frame)
      refine tkL (i := 2) rfl (.of rfl) (yields_val (v := (.int .i64 k)) rfl (fun _ => by go_simp)) ⟨H.rw_ (by repeat constructor), H.rdgsl (by repeat constructor), H.rw_ (by repeat constructor)⟩ ?_
      (try go_frame)
      refine tkL (i := 3) rfl (.of rfl) (yields_val (v := .pointer (some ⟨bB, 1, none⟩)) rfl (fun _ => by go_simp)) ⟨H.rw_ (by repeat constructor), H.rdgsl (by repeat constructor), H.rw_ (by repeat constructor)⟩ ?_
      (try go_frame)
      refine tkL (i := 4) rfl (.of rfl) (yields_load1_R rfl rfl rfl (fun _ hS => hS.1) rfl) ⟨H.rw_ (by repeat constructor), H.rdgsl (by repeat constructor), H.rw_ (by repeat constructor)⟩ ?_
      (try go_frame)
      refine tkL (i := 5) rfl (.of rfl) (yields_val (v := (.int .i64 k)) rfl (fun _ => by go_simp)) ⟨H.rw_ (by repeat constructor), H.rdgsl (by repeat constructor), H.rw_ (by repeat constructor)⟩ ?_
      (try go_frame)
      refine tkL (i := 6) rfl (.of rfl) (yields_index_n rfl rfl d.gs (fun _ hS => hS.2.1) rfl rfl rfl (by rw [m_glen HD]; exact hk)) ⟨H.rw_ (by repeat constructor), H.rdgsl (by repeat constructor), H.rw_ (by repeat constructor)⟩ ?_
      (try go_frame)
      refine tkL (i := 7) rfl (.of rfl) (yields_val (v := (.pointer (some ⟨ablk d.gs.A, aoff d.gs.A + k * 15 + 3, none⟩))) rfl (fun _ => by go_simp)) ⟨H.rw_ (by repeat constructor), H.rdgsl (by repeat constructor), H.rw_ (by repeat constructor)⟩ ?_
      (try go_frame)
      refine tkL (i := 8) rfl (.of rfl) (yields_load_rd rfl rfl d.gs (fun _ hS => hS.2.1) rfl y HK.out (by first | exact rfl | exact (Nat.add_zero _).symm) rfl) ⟨H.rw_ (by repeat constructor), H.rdgsl (by repeat constructor), H.rw_ (by repeat constructor)⟩ ?_
      (try go_frame)
      refine tkL (i := 9) rfl (.of rfl) (yields_val (v := (.int .i64 p)) rfl (fun _ => by go_simp)) ⟨H.rw_ (by repeat constructor), H.rdgsl (by repeat constructor), H.rw_ (by repeat constructor)⟩ ?_
      (try go_frame)
      refine tkL (i := 10) rfl (.of rfl) (yields_loads_R rfl rfl rfl (fun _ hS => hS.2.2) (by repeat constructor)) ⟨H.rw_ (by repeat constructor), H.rdgsl (by repeat constructor), H.rw_ (by repeat constructor)⟩ ?_
      (try go_frame)
      refine anyL_1 (i := 11) (by kernel_rfl) ?_
      refine wpOp_at rfl (.of rfl) rfl ?_
      refine wp_call_H Tryz.f138 rfl rfl Tryz.func138 (by kernel_rfl) rfl rfl (made_H H (specWithSlot_c y.written p s _ (H.rd (enc := Slot.cells) (sz := 2) (e := 56) (s := y.written) (by repeat constructor) slot_len) zw)) ?_
      clear H
      rintro _ w ⟨t, rfl, HT, H⟩
      refine ⟨fun _ => ⟨H.rw_ (by repeat constructor), H.rdgsl (by repeat constructor), H.rw_ (by repeat constructor)⟩, ?_⟩
      (try go_frame)
      refine anyL_1 (i := 12) (by kernel_rfl) ?_
      refine wpOp_at rfl (.of rfl) rfl ?_
      refine wp_index_n rfl d.gs (H.rdgsl (by repeat constructor)) rfl rfl rfl (by rw [m_glen HD]; exact hk) ?_
      refine ⟨fun _ => ⟨H.rw_ (by repeat constructor), H.rdgsl (by repeat constructor), H.rw_ (by repeat constructor)⟩, ?_⟩
      (try go_frame)
      refine tkL (i := 13) rfl (.of rfl) (yields_val (v := (.pointer (some ⟨ablk d.gs.A, aoff d.gs.A + k * 15 + 3, none⟩))) rfl (fun _ => by go_simp)) ⟨H.rw_ (by repeat constructor), H.rdgsl (by repeat constructor), H.rw_ (by repeat constructor)⟩ ?_
      (try go_frame)
      refine anyL_1 (i := 14) (by kernel_rfl) ?_
      refine wpOp_at rfl (.of rfl) rfl ?_
      refine wp_store_el rfl H d.gs (by repeat constructor) g_len rfl rfl y ⟨y.prog, y.a, y.pc, t, y.live, y.ctl, y.pending, y.exit, y.halted, y.seen⟩ HK.out rfl (by constructor) (by repeat constructor) (by exact rfl) (by exact rfl) ?_
      clear H
      intro w H
      refine ⟨fun hw => absurd rfl hw, ?_⟩
      (try go_frame)
      refine anyL_done (by kernel_rfl) ?_ _
      exact ⟨rfl, t, HT, H.pick (.cons (by repeat constructor) (.cons (by repeat constructor) (.cons (by repeat constructor) (.cons (by repeat constructor) (.cons (by repeat constructor) (.cons (by repeat constructor) (.cons (by repeat constructor) (.cons (by repeat constructor) (.cons (by repeat constructor) (.cons (by repeat constructor) (.cons (by repeat constructor) (.cons (by repeat constructor) .nil)))))))))))), by first | (simp only [puts_cons, puts_nil, Act.put, List.setIfInBounds_toArray, List.set_cons_succ, List.set_cons_zero]; done) | (simp only [puts_cons, puts_nil, Act.put, List.setIfInBounds_toArray, List.set_cons_succ, List.set_cons_zero]; rfl)⟩
    clear H
    rintro u w ⟨t, HT, H, rfl⟩
    simp only [puts_cons, puts_nil, Act.put, List.setIfInBounds_toArray, List.set_cons_succ, List.set_cons_zero]
    replace H := Hp.gst_close y.a y.pc y.ctl y.pending y.exit y.halted H
    rw [← set_app HL.out HL1.out] at H
    go_wp2_with (first
      | go_skip
      | ((with_reducible refine at_box ?_); first | (refine wpList_box_H rfl rfl H rfl (by constructor) ?_; clear H; intro b w H))
      | ((with_reducible refine at_alloc ?_); first | (refine wpList_alloc_H rfl rfl H ?_; clear H; intro b w H))
      | ((with_reducible refine at_load ?_); first | (refine wpList_load_H rfl rfl H rfl (by repeat constructor) ?_) | (refine wpList_loads_H rfl rfl H rfl (by repeat constructor) ?_))
      | ((with_reducible refine at_store ?_); first | (refine wpList_store_H rfl rfl H rfl rfl (by repeat constructor) ?_; clear H; intro w H)))
    refine bodyPost_ret (results_H2 rfl H rfl (by repeat constructor)) rfl ⟨⟨d.mem, ⟨d.gs.A, d.gs.c, d.gs.xs.set k ⟨y.prog, y.a, y.pc, t, y.live, y.ctl, y.pending, y.exit, y.halted, y.seen⟩⟩, d.outs, d.pend⟩, by rw [HO.out]; simp [BV.val], ?_, H.bare5 (.cons (by repeat constructor) (.cons (by repeat constructor) (.cons (by repeat constructor) (.cons (by repeat constructor) (.cons (by repeat constructor) .nil))))) rfl rfl⟩
    rw [ch_hit (by first | exact HO.out | (rw [HO.out]; rfl)), ← HD.out, wg_hit HK.out]
    simp only [BV.m, gsOf, List.map_set, GV.m, HT.out]; rfl
  all_goals
    rw [e1, e2, e3] at ho
    simp only [Bool.and_true, Bool.and_false, Bool.true_and, Bool.false_and, Bool.and_self] at ho; try simp only [Bool.and_true, Bool.and_false, Bool.true_and, Bool.false_and, Bool.and_self]
    have HO := Lib.hid ho
    clear ho
    have H := Hp.start W0
    go_enter Tryz.func29, Tryz.ntmps29
    go_wp2_with (first
      | go_skip
      | ((with_reducible refine at_box ?_); first | (refine wpList_box_H (cs := (barr B).toList) rfl rfl H rfl CellsOf.agg ?_; clear H; intro bB w H) | (refine wpList_box_H (cs := [.int .i64 s.page, .int .i64 s.rights]) rfl rfl H rfl CellsOf.agg ?_; clear H; intro bS w H) | (refine wpList_box_H rfl rfl H rfl (by constructor) ?_; clear H; intro bB w H))
      | ((with_reducible refine at_alloc ?_); first | ((with_reducible refine at_dst 8 ?_); refine wpList_alloc_H rfl rfl H ?_; clear H; intro bR w H) | (refine wpList_alloc_H rfl rfl H ?_; clear H; intro b w H))
      | ((with_reducible refine at_load ?_); first | (refine wpList_load_H rfl rfl H rfl (by repeat constructor) ?_) | (refine wpList_loads_H rfl rfl H rfl (by repeat constructor) ?_))
      | ((with_reducible refine at_store ?_); first | (refine wpList_store_H rfl rfl H rfl rfl (by repeat constructor) ?_; clear H; intro w H))
      | (go_at_call 76; refine (l17Copy_c B _ (R.at_ H) Z).mono ?_; rintro e w ⟨d, rfl, x1, K⟩; have HD := Lib.hid x1; clear x1; have Zd := m_big HD Z; replace H := (H.add_all K); clear K)
      | (go_at_call 77; refine (l19Is_c d g _ (H.brd (by repeat constructor)) Zd).mono ?_; rintro e w ⟨he, K⟩; rw [HD.out, e1] at he; subst he; replace H := H.add_all K; clear K)
      | (go_at_call 78; refine (in_any _ _ _ _).mono ?_; rintro e w' ⟨he, hw⟩; subst hw; rw [in4, e2] at he; subst he)
      | (go_at_call 137; refine (specSlotOk_c s 8 _).mono ?_; rintro e w ⟨he, hb⟩; rw [e3] at he; subst he; replace H := H.still hb; clear hb))
    refine bodyPost_ret (results_H2 rfl H rfl (by repeat constructor)) rfl ⟨d, by rw [HO.out]; rfl, by unfold changedM; rw [HO.out]; exact HD.out, H.pick (.cons (by repeat constructor) .nil)⟩
end Go.Proofs.YtaafnenmdombiaaGreat
