/- Contracts of BareInject, BareFlush and BareSet, of the program and of the reference. No condition but that the arguments lie in memory. -/
import Derived.Maps.RangeWalk
import Derived.Test.YtaafnenmdombiaaGreatBz
import Derived.Test.YtaafnenmdombiaaGreatDl
namespace Go.Proofs.YtaafnenmdombiaaGreat
set_option linter.unusedSimpArgs false
set_option linter.unusedVariables false
set_option linter.unusedSimpArgs false
set_option linter.unusedVariables false
open Go.RowKit
set_option maxRecDepth 100000 in
set_option maxHeartbeats 4000000 in
theorem bareFlush1_c (x : GV) (p : Int) (b : Nat) (W0 : World) (R : GRd W0 x) (Z : GBig x) (h5 : Rw W0 b 3 ([.int .i64 p] : List Value).toArray) : Calls Tryz.prog 139 #[x.val, .pointer (some ⟨b, 0, none⟩)] W0 fun e w' => ∃ y : GV, e = .returned y.val ∧ (y.m = flushG p x.m ∧ GRd w' y) ∧ Below W0.heap.size W0 w' := by
  have zw := Z.2.1
  have zl := Z.2.2.1
  unfold big at zw zl
  have H := Hp.start W0
  go_enter Tryz.func139, Tryz.ntmps139
  go_wp2_with (first
    | go_skip
    | ((with_reducible refine at_box ?_); first | (refine wpList_box_H rfl rfl H rfl (by constructor) ?_; clear H; intro bX w H))
    | ((with_reducible refine at_alloc ?_); first | (refine wpList_alloc_H rfl rfl H ?_; clear H; intro bR w H))
    | ((with_reducible refine at_load ?_); first | (refine wpList_load_H rfl rfl H rfl (by repeat constructor) ?_) | (refine wpList_loads_H rfl rfl H rfl (by repeat constructor) ?_))
    | ((with_reducible refine at_store ?_); first | (refine wpList_store_H rfl rfl H rfl rfl (by repeat constructor) ?_; clear H; intro w H)))
  refine wp_cut (fun u a' w' => ∃ (t : Sl Slot), Hid (t.xs = withSlotM x.live.xs p (slotAtM x.written.xs p)) ∧ Hp W0 w' [.slot t, .box bX 53 [.slice x.prog.A x.prog.xs.length x.prog.c, .int .i64 x.a, .int .i64 x.pc, .slice x.written.A x.written.xs.length x.written.c, .slice t.A t.xs.length t.c, .int .i64 x.ctl.traps, .int .i64 x.ctl.post, .bool x.ctl.opn, .int .i64 x.pending, .int .i64 x.exit.kind, .int .i64 x.exit.page, .bool x.exit.write, .int .i64 x.exit.n, .bool x.halted, .slice x.seen.A x.seen.xs.length x.seen.c], .box bR 53 [.slice none 0 0, .int .i64 0, .int .i64 0, .slice none 0 0, .slice none 0 0, .int .i64 0, .int .i64 0, .bool false, .int .i64 0, .int .i64 0, .int .i64 0, .bool false, .int .i64 0, .bool false, .slice none 0 0]] ∧ a' = puts u [(4, .pointer (some ⟨bX, 4, none⟩)), (5, .slice x.live.A x.live.xs.length x.live.c), (6, (.int .i64 p)), (7, .pointer (some ⟨bX, 3, none⟩)), (8, .slice x.written.A x.written.xs.length x.written.c), (9, (.int .i64 p)), (10, ((slotAtM x.written.xs p).val)), (11, .slice t.A t.xs.length t.c), (12, .pointer (some ⟨bX, 4, none⟩))]) ?_ ?_
  · refine wp_region_last 9 (S := (fun w' => Rw w' bX 53 (garr x) ∧ Rw w' b 3 ([.int .i64 p] : List Value).toArray)) (by kernel_rfl) ?_
    replace H := H.drew
    refine tkL (i := 0) rfl .here (yields_val (v := .pointer (some ⟨bX, 4, none⟩)) rfl (fun _ => by go_simp)) ⟨H.rw_ (by repeat constructor), h5.at_ H⟩ ?_
    (try go_frame)
    refine tkL (i := 1) rfl (.of rfl) (yields_load1_R rfl rfl rfl (fun _ hS => hS.1) rfl) ⟨H.rw_ (by repeat constructor), h5.at_ H⟩ ?_
    (try go_frame)
    refine tkL (i := 2) rfl (.of rfl) (yields_load1_R rfl rfl rfl (fun _ hS => hS.2) rfl) ⟨H.rw_ (by repeat constructor), h5.at_ H⟩ ?_
    (try go_frame)
    refine tkL (i := 3) rfl (.of rfl) (yields_val (v := .pointer (some ⟨bX, 3, none⟩)) rfl (fun _ => by go_simp)) ⟨H.rw_ (by repeat constructor), h5.at_ H⟩ ?_
    (try go_frame)
    refine tkL (i := 4) rfl (.of rfl) (yields_load1_R rfl rfl rfl (fun _ hS => hS.1) rfl) ⟨H.rw_ (by repeat constructor), h5.at_ H⟩ ?_
    (try go_frame)
    refine tkL (i := 5) rfl (.of rfl) (yields_load1_R rfl rfl rfl (fun _ hS => hS.2) rfl) ⟨H.rw_ (by repeat constructor), h5.at_ H⟩ ?_
    (try go_frame)
    refine anyL_1 (i := 6) (by kernel_rfl) ?_
    refine wpOp_at rfl (.of rfl) rfl ?_
    refine wp_call_H Tryz.f140 rfl rfl Tryz.func140 (by kernel_rfl) rfl rfl (val_H H (slotAt_c x.written p _ (R.written.at_ H) zw)) ?_
    clear H
    rintro _ w ⟨rfl, H⟩
    refine ⟨fun _ => ⟨H.rw_ (by repeat constructor), h5.at_ H⟩, ?_⟩
    (try go_frame)
    refine anyL_1 (i := 7) (by kernel_rfl) ?_
    refine wpOp_at rfl (.of rfl) rfl ?_
    refine wp_call_H Tryz.f136 rfl rfl Tryz.func136 (by kernel_rfl) rfl rfl (made_H H (withSlot_c x.live p (slotAtM x.written.xs p) _ (R.live.at_ H) zl)) ?_
    clear H
    rintro _ w ⟨t, rfl, HT, H⟩
    refine ⟨fun _ => ⟨H.rw_ (by repeat constructor), h5.at_ H⟩, ?_⟩
    (try go_frame)
    refine tkL (i := 8) rfl (.of rfl) (yields_val (v := .pointer (some ⟨bX, 4, none⟩)) rfl (fun _ => by go_simp)) ⟨H.rw_ (by repeat constructor), h5.at_ H⟩ ?_
    (try go_frame)
    refine anyL_1 (i := 9) (by kernel_rfl) ?_
    refine wpOp_at rfl (.of rfl) rfl ?_
    refine wp_store_H rfl H rfl rfl (by repeat constructor) ?_
    clear H
    intro w H
    refine ⟨fun hw => absurd rfl hw, ?_⟩
    (try go_frame)
    refine anyL_done (by kernel_rfl) ?_ _
    exact ⟨rfl, t, HT, H.pick (.cons (by repeat constructor) (.cons (by repeat constructor) (.cons (by repeat constructor) .nil))), by first | (simp only [puts_cons, puts_nil, Act.put, List.setIfInBounds_toArray, List.set_cons_succ, List.set_cons_zero]; done) | (simp only [puts_cons, puts_nil, Act.put, List.setIfInBounds_toArray, List.set_cons_succ, List.set_cons_zero]; rfl)⟩
  clear H
  rintro u w ⟨t, HT, H, rfl⟩
  simp only [puts_cons, puts_nil, Act.put, List.setIfInBounds_toArray, List.set_cons_succ, List.set_cons_zero]
  go_wp2_with (first
    | go_skip
    | ((with_reducible refine at_box ?_); first | (refine wpList_box_H rfl rfl H rfl (by constructor) ?_; clear H; intro b w H))
    | ((with_reducible refine at_alloc ?_); first | (refine wpList_alloc_H rfl rfl H ?_; clear H; intro b w H))
    | ((with_reducible refine at_load ?_); first | (refine wpList_load_H rfl rfl H rfl (by repeat constructor) ?_) | (refine wpList_loads_H rfl rfl H rfl (by repeat constructor) ?_))
    | ((with_reducible refine at_store ?_); first | (refine wpList_store_H rfl rfl H rfl rfl (by repeat constructor) ?_; clear H; intro w H)))
  refine bodyPost_ret (results_H rfl H rfl (by repeat constructor)) rfl ⟨⟨x.prog, x.a, x.pc, x.written, t, x.ctl, x.pending, x.exit, x.halted, x.seen⟩, rfl, ⟨by unfold flushG; simp only [GV.m, HT.out], ⟨R.prog.at_ H, R.written.at_ H, H.rd (by repeat constructor) slot_len, R.seen.at_ H⟩⟩, H.below⟩
set_option maxRecDepth 100000 in
set_option maxHeartbeats 4000000 in
theorem bareFlush_c (B : BV) (g p : Int) (W0 : World) (R : BRd W0 B) (Z : BBig B) : Calls Tryz.prog 31 #[B.val, .int .i64 g, .int .i64 p] W0 fun e w' => ∃ d : BV, e = .returned (.tuple #[d.val, .bool (chOkM B.m g (hasB p 4))]) ∧ d.m = changedM B.m g (hasB p 4) (flushG p) ∧ Hp W0 w' [.bare d] := by
  have H := Hp.start W0
  go_enter Tryz.func31, Tryz.ntmps31
  go_wp2_with (first
    | go_skip
    | ((with_reducible refine at_box ?_); first | (refine wpList_box_H (cs := (barr B).toList) rfl rfl H rfl CellsOf.agg ?_; clear H; intro bB w H) | (refine wpList_box_H rfl rfl H rfl (by constructor) ?_; clear H; intro bC w H))
    | ((with_reducible refine at_alloc ?_); first | (refine wpList_alloc_H rfl rfl H ?_; clear H; intro bR w H))
    | ((with_reducible refine at_load ?_); first | (refine wpList_load_H rfl rfl H rfl (by repeat constructor) ?_) | (refine wpList_loads_H rfl rfl H rfl (by repeat constructor) ?_))
    | ((with_reducible refine at_store ?_); first | (refine wpList_store_H rfl rfl H rfl rfl (by repeat constructor) ?_; clear H; intro w H)))
  refine wp_cut (fun u a' w' => ∃ (d : BV), Hid (d.m = changedM B.m g (hasB p 4) (flushG p)) ∧ Hp W0 w' [.bare d, .box bR 28 (barr d).toList] ∧ a' = puts u [(8, B.val), (9, (.int .i64 g)), (10, (.int .i64 p)), (11, (.bool (hasB p 4))), (12, (.func (.func 139) #[] #[.pointer (some ⟨bC, 0, none⟩)])), (13, (.tuple #[d.val, .bool (chOkM B.m g (hasB p 4))])), (14, d.val), (15, (.bool (chOkM B.m g (hasB p 4)))), (7, (.bool (chOkM B.m g (hasB p 4))))]) ?_ ?_
  · refine wp_region_held (S := (fun w' => Rw w' bB 28 (barr B) ∧ Rw w' bC 3 ([.int .i64 p] : List Value).toArray)) (by kernel_rfl) ?_
    replace H := H.drew
    refine tkH (i := 0) rfl .here (yields_loads_R rfl rfl rfl (fun _ hS => hS.1) (by repeat constructor)) ⟨H.rw_ (by repeat constructor), H.rw_ (by repeat constructor)⟩ ?_
    (try go_frame)
    refine tkH (i := 1) rfl (.of rfl) (yields_val (v := (.int .i64 g)) rfl (fun _ => by go_simp)) ⟨H.rw_ (by repeat constructor), H.rw_ (by repeat constructor)⟩ ?_
    (try go_frame)
    refine tkH (i := 2) rfl (.of rfl) (yields_load1_R rfl rfl rfl (fun _ hS => hS.2) rfl) ⟨H.rw_ (by repeat constructor), H.rw_ (by repeat constructor)⟩ ?_
    (try go_frame)
    refine tkH (i := 4) rfl (.of rfl) (yields_val (v := (.func (.func 139) #[] #[.pointer (some ⟨bC, 0, none⟩)])) rfl (fun _ => by go_simp)) ⟨H.rw_ (by repeat constructor), H.rw_ (by repeat constructor)⟩ ?_
    (try go_frame)
    refine anyH_1 (i := 3) (by kernel_rfl) ?_
    refine wpOp_at rfl (.of rfl) rfl ?_
    refine wp_call_H Tryz.f133 rfl rfl Tryz.func133 (by kernel_rfl) rfl rfl (same_v H (has_any p 4 _)) ?_
    clear H
    rintro _ w ⟨rfl, H⟩
    refine ⟨⟨H.rw_ (by repeat constructor), H.rw_ (by repeat constructor)⟩, ?_⟩
    (try go_frame)
    refine anyH_1 (i := 5) (by kernel_rfl) ?_
    refine wpOp_at rfl (.of rfl) rfl ?_
    refine wp_call_H Tryz.f71 rfl rfl Tryz.func71 (by kernel_rfl) rfl rfl (made_H (val := fun d : BV => .tuple #[d.val, .bool (chOkM B.m g (hasB p 4))]) H (changed_c B g (hasB p 4) 139 Tryz.f139 Tryz.func139 (by kernel_rfl) #[.pointer (some ⟨bC, 0, none⟩)] (flushG p) _ (R.at_ H) Z (by unfold flushG MG.size; rw [withSlot_len]; exact Nat.le_trans (gAtM_size B.m g) Z) (fun x _ hb Rx Zx => bareFlush1_c x p bC _ Rx Zx ((H.rw_ (cs := [.int .i64 p]) (by repeat constructor)).below_ hb)))) ?_
    clear H
    rintro _ w ⟨d, rfl, HD, H⟩
    refine ⟨⟨H.rw_ (by repeat constructor), H.rw_ (by repeat constructor)⟩, ?_⟩
    (try go_frame)
    refine tkH (i := 6) rfl (.of rfl) (yields_val (v := d.val) rfl (fun _ => by go_simp)) ⟨H.rw_ (by repeat constructor), H.rw_ (by repeat constructor)⟩ ?_
    (try go_frame)
    refine tkH (i := 7) rfl (.of rfl) (yields_val (v := (.bool (chOkM B.m g (hasB p 4)))) rfl (fun _ => by go_simp)) ⟨H.rw_ (by repeat constructor), H.rw_ (by repeat constructor)⟩ ?_
    (try go_frame)
    refine anyH_1 (i := 8) (by kernel_rfl) ?_
    refine wpOp_at rfl (.of rfl) rfl ?_
    refine wp_store_H rfl H rfl rfl (by repeat constructor) ?_
    clear H
    intro w H
    refine ⟨⟨H.rw_ (by repeat constructor), H.rw_ (by repeat constructor)⟩, ?_⟩
    (try go_frame)
    refine tkH (i := 9) rfl (.of rfl) (yields_val (v := (.bool (chOkM B.m g (hasB p 4)))) rfl (fun _ => by go_simp)) ⟨H.rw_ (by repeat constructor), H.rw_ (by repeat constructor)⟩ ?_
    (try go_frame)
    refine wpAnyH_done (by kernel_rfl) ?_ _
    exact ⟨rfl, d, HD, H.pick (.cons (by repeat constructor) (.cons (by repeat constructor) .nil)), by first | (simp only [puts_cons, puts_nil, Act.put, List.setIfInBounds_toArray, List.set_cons_succ, List.set_cons_zero]; done) | (simp only [puts_cons, puts_nil, Act.put, List.setIfInBounds_toArray, List.set_cons_succ, List.set_cons_zero]; rfl)⟩
  clear H
  rintro u w ⟨d, HD, H, rfl⟩
  simp only [puts_cons, puts_nil, Act.put, List.setIfInBounds_toArray, List.set_cons_succ, List.set_cons_zero]
  go_wp2_with (first
    | go_skip
    | ((with_reducible refine at_box ?_); first | (refine wpList_box_H rfl rfl H rfl (by constructor) ?_; clear H; intro b w H))
    | ((with_reducible refine at_alloc ?_); first | (refine wpList_alloc_H rfl rfl H ?_; clear H; intro b w H))
    | ((with_reducible refine at_load ?_); first | (refine wpList_load_H rfl rfl H rfl (by repeat constructor) ?_) | (refine wpList_loads_H rfl rfl H rfl (by repeat constructor) ?_))
    | ((with_reducible refine at_store ?_); first | (refine wpList_store_H rfl rfl H rfl rfl (by repeat constructor) ?_; clear H; intro w H)))
  refine bodyPost_ret (results_H2 rfl H rfl (by repeat constructor)) rfl ⟨d, rfl, HD.out, H.pick (.cons (by repeat constructor) .nil)⟩
set_option maxRecDepth 100000 in
set_option maxHeartbeats 4000000 in
theorem specBareFlush_c (B : BV) (g : Int) (p : Int) (W0 : World) (R : BRd W0 B) (Z : BBig B) : Calls Tryz.prog 32 #[B.val, .int .i64 g, .int .i64 p] W0 fun e w' => ∃ d : BV, e = .returned (.tuple #[d.val, .bool (chOkM B.m g (hasB p 4))]) ∧ d.m = changedM B.m g (hasB p 4) (flushG p) ∧ Hp W0 w' [.bare d] := by
  have ho : chOkM B.m g (hasB p 4) = ((bareOkM B.m && hasM B.m g) && (hasB p 4)) := rfl
  cases e1 : (bareOkM B.m && hasM B.m g) <;> cases e2 : hasB p 4
  case true.true =>
    rw [e1, e2] at ho
    have hg : 0 ≤ g ∧ g < B.gs.xs.length := by simp only [Bool.and_eq_true] at e1; simpa [hasM, hasB, BV.m, gsOf] using e1.2
    obtain ⟨k, rfl⟩ := Int.eq_ofNat_of_zero_le hg.1
    have hk : k < B.gs.xs.length := by omega
    clear hg
    have HO := Lib.hid ho
    clear ho
    have H := Hp.start W0
    go_enter Tryz.func32, Tryz.ntmps32
    go_wp2_with (first
      | go_skip
      | ((with_reducible refine at_box ?_); first | (refine wpList_box_H (cs := (barr B).toList) rfl rfl H rfl CellsOf.agg ?_; clear H; intro bB w H) | (refine wpList_box_H rfl rfl H rfl (by constructor) ?_; clear H; intro bB w H))
      | ((with_reducible refine at_alloc ?_); first | ((with_reducible refine at_dst 6 ?_); refine wpList_alloc_H rfl rfl H ?_; clear H; intro bR w H) | (refine wpList_alloc_H rfl rfl H ?_; clear H; intro b w H))
      | ((with_reducible refine at_load ?_); first | (refine wpList_load_H rfl rfl H rfl (by repeat constructor) ?_) | (refine wpList_loads_H rfl rfl H rfl (by repeat constructor) ?_))
      | ((with_reducible refine at_store ?_); first | (refine wpList_store_H rfl rfl H rfl rfl (by repeat constructor) ?_; clear H; intro w H))
      | (go_at_call 76; refine (l17Copy_c B _ (R.at_ H) Z).mono ?_; rintro e w ⟨d, rfl, x1, K⟩; have HD := Lib.hid x1; clear x1; have Zd := m_big HD Z; replace H := (H.add_all K); clear K)
      | (go_at_call 77; refine (l19Is_c d k _ (H.brd (by repeat constructor)) Zd).mono ?_; rintro e w ⟨he, K⟩; rw [HD.out, e1] at he; subst he; replace H := H.add_all K; clear K)
      | (go_at_call 78; refine (in_any _ _ _ _).mono ?_; rintro e w' ⟨he, hw⟩; subst hw; rw [in4, e2] at he; subst he))
    replace H := (H.take (e := .bare d) (by repeat constructor)).bparts
    obtain ⟨y, hy⟩ : ∃ y, d.gs.xs[k]? = some y := ⟨_, List.getElem?_eq_getElem (by rw [m_glen HD]; exact hk)⟩
    have HK := Lib.hid hy; clear hy
    have zw : y.written.xs.length ≤ 4194304 := (Zd.gsi y (List.mem_of_getElem? HK.out)).2.1
    have zl : y.live.xs.length ≤ 4194304 := (Zd.gsi y (List.mem_of_getElem? HK.out)).2.2.1
    obtain ⟨l1, l2, hl, hl1, H⟩ := Hp.gst_open HK.out (H.take (e := .many En.gst d.gs.xs) (by repeat constructor))
    have HL := Lib.hid hl; have HL1 := Lib.hid hl1; clear hl hl1
    refine wp_cut (fun u a' w' => ∃ (t : Sl Slot), Hid (t.xs = withSlotM y.live.xs p (slotAtM y.written.xs p)) ∧ Hp W0 w' [.ins y.prog, .slot y.written, .slot t, .int y.seen, .many En.gst l1, .many En.gst l2, .gsl ⟨d.gs.A, d.gs.c, d.gs.xs.set k ⟨y.prog, y.a, y.pc, y.written, t, y.ctl, y.pending, y.exit, y.halted, y.seen⟩⟩, .rows d.mem, .many En.int d.mem.xs, .int d.outs, .box bB 28 (barr d).toList, .box bR 28 [.slice none 0 0, .slice none 0 0, .slice none 0 0, .int .i64 0]] ∧ a' = puts u [(20, .pointer (some ⟨bB, 1, none⟩)), (21, .slice d.gs.A d.gs.xs.length d.gs.c), (22, (.int .i64 k)), (23, .pointer (some ⟨bB, 1, none⟩)), (24, .slice d.gs.A d.gs.xs.length d.gs.c), (25, (.int .i64 k)), (26, (.pointer (some ⟨ablk d.gs.A, aoff d.gs.A + k * 15, none⟩))), (27, (.pointer (some ⟨ablk d.gs.A, aoff d.gs.A + k * 15 + 4, none⟩))), (28, (.slice y.live.A y.live.xs.length y.live.c)), (29, (.int .i64 p)), (30, .pointer (some ⟨bB, 1, none⟩)), (31, .slice d.gs.A d.gs.xs.length d.gs.c), (32, (.int .i64 k)), (33, (.pointer (some ⟨ablk d.gs.A, aoff d.gs.A + k * 15, none⟩))), (34, (.pointer (some ⟨ablk d.gs.A, aoff d.gs.A + k * 15 + 3, none⟩))), (35, (.slice y.written.A y.written.xs.length y.written.c)), (36, (.int .i64 p)), (37, ((slotAtM y.written.xs p).val)), (38, .slice t.A t.xs.length t.c), (39, (.pointer (some ⟨ablk d.gs.A, aoff d.gs.A + k * 15, none⟩))), (40, (.pointer (some ⟨ablk d.gs.A, aoff d.gs.A + k * 15 + 4, none⟩)))]) ?_ ?_
    · refine wp_region_last 21 (S := (fun w' => Rw w' bB 28 (barr d) ∧ Rd GV.cells 15 w' d.gs)) (by kernel_rfl) ?_
      replace H := H.drew
      refine tkL (i := 0) rfl .here (yields_val (v := .pointer (some ⟨bB, 1, none⟩)) rfl (fun _ => by go_simp)) ⟨H.rw_ (by repeat constructor), H.rdgsl (by repeat constructor)⟩ ?_
      (try go_frame)
      refine tkL (i := 1) rfl (.of rfl) (yields_load1_R rfl rfl rfl (fun _ hS => hS.1) rfl) ⟨H.rw_ (by repeat constructor), H.rdgsl (by repeat constructor)⟩ ?_
      (try go_frame)
      refine tkL (i := 2) rfl (.of rfl) (yields_val (v := (.int .i64 k)) rfl (fun _ => by go_simp)) ⟨H.rw_ (by repeat constructor), H.rdgsl (by repeat constructor)⟩ ?_
      (try go_frame)
      refine tkL (i := 3) rfl (.of rfl) (yields_val (v := .pointer (some ⟨bB, 1, none⟩)) rfl (fun _ => by go_simp)) ⟨H.rw_ (by repeat constructor), H.rdgsl (by repeat constructor)⟩ ?_
      (try go_frame)
      refine tkL (i := 4) rfl (.of rfl) (yields_load1_R rfl rfl rfl (fun _ hS => hS.1) rfl) ⟨H.rw_ (by repeat constructor), H.rdgsl (by repeat constructor)⟩ ?_
      (try go_frame)
      refine tkL (i := 5) rfl (.of rfl) (yields_val (v := (.int .i64 k)) rfl (fun _ => by go_simp)) ⟨H.rw_ (by repeat constructor), H.rdgsl (by repeat constructor)⟩ ?_
      (try go_frame)
      refine tkL (i := 6) rfl (.of rfl) (yields_index_n rfl rfl d.gs (fun _ hS => hS.2) rfl rfl rfl (by rw [m_glen HD]; exact hk)) ⟨H.rw_ (by repeat constructor), H.rdgsl (by repeat constructor)⟩ ?_
      (try go_frame)
      refine tkL (i := 7) rfl (.of rfl) (yields_val (v := (.pointer (some ⟨ablk d.gs.A, aoff d.gs.A + k * 15 + 4, none⟩))) rfl (fun _ => by go_simp)) ⟨H.rw_ (by repeat constructor), H.rdgsl (by repeat constructor)⟩ ?_
      (try go_frame)
      refine tkL (i := 8) rfl (.of rfl) (yields_load_rd rfl rfl d.gs (fun _ hS => hS.2) rfl y HK.out (by first | exact rfl | exact (Nat.add_zero _).symm) rfl) ⟨H.rw_ (by repeat constructor), H.rdgsl (by repeat constructor)⟩ ?_
      (try go_frame)
      refine tkL (i := 9) rfl (.of rfl) (yields_val (v := (.int .i64 p)) rfl (fun _ => by go_simp)) ⟨H.rw_ (by repeat constructor), H.rdgsl (by repeat constructor)⟩ ?_
      (try go_frame)
      refine tkL (i := 10) rfl (.of rfl) (yields_val (v := .pointer (some ⟨bB, 1, none⟩)) rfl (fun _ => by go_simp)) ⟨H.rw_ (by repeat constructor), H.rdgsl (by repeat constructor)⟩ ?_
      (try go_frame)
      refine tkL (i := 11) rfl (.of rfl) (yields_load1_R rfl rfl rfl (fun _ hS => hS.1) rfl) ⟨H.rw_ (by repeat constructor), H.rdgsl (by repeat constructor)⟩ ?_
      (try go_frame)
      refine tkL (i := 12) rfl (.of rfl) (yields_val (v := (.int .i64 k)) rfl (fun _ => by go_simp)) ⟨H.rw_ (by repeat constructor), H.rdgsl (by repeat constructor)⟩ ?_
      (try go_frame)
      refine tkL (i := 13) rfl (.of rfl) (yields_index_n rfl rfl d.gs (fun _ hS => hS.2) rfl rfl rfl (by rw [m_glen HD]; exact hk)) ⟨H.rw_ (by repeat constructor), H.rdgsl (by repeat constructor)⟩ ?_
      (try go_frame)
      refine tkL (i := 14) rfl (.of rfl) (yields_val (v := (.pointer (some ⟨ablk d.gs.A, aoff d.gs.A + k * 15 + 3, none⟩))) rfl (fun _ => by go_simp)) ⟨H.rw_ (by repeat constructor), H.rdgsl (by repeat constructor)⟩ ?_
      (try go_frame)
      refine tkL (i := 15) rfl (.of rfl) (yields_load_rd rfl rfl d.gs (fun _ hS => hS.2) rfl y HK.out (by first | exact rfl | exact (Nat.add_zero _).symm) rfl) ⟨H.rw_ (by repeat constructor), H.rdgsl (by repeat constructor)⟩ ?_
      (try go_frame)
      refine tkL (i := 16) rfl (.of rfl) (yields_val (v := (.int .i64 p)) rfl (fun _ => by go_simp)) ⟨H.rw_ (by repeat constructor), H.rdgsl (by repeat constructor)⟩ ?_
      (try go_frame)
      refine anyL_1 (i := 17) (by kernel_rfl) ?_
      refine wpOp_at rfl (.of rfl) rfl ?_
      refine wp_call_H Tryz.f34 rfl rfl Tryz.func34 (by kernel_rfl) rfl rfl (val_H H (specSlotAt_c y.written p _ (H.rd (enc := Slot.cells) (sz := 2) (e := 56) (s := y.written) (by repeat constructor) slot_len) zw)) ?_
      clear H
      rintro _ w ⟨rfl, H⟩
      refine ⟨fun _ => ⟨H.rw_ (by repeat constructor), H.rdgsl (by repeat constructor)⟩, ?_⟩
      (try go_frame)
      refine anyL_1 (i := 18) (by kernel_rfl) ?_
      refine wpOp_at rfl (.of rfl) rfl ?_
      refine wp_call_H Tryz.f138 rfl rfl Tryz.func138 (by kernel_rfl) rfl rfl (made_H H (specWithSlot_c y.live p (slotAtM y.written.xs p) _ (H.rd (enc := Slot.cells) (sz := 2) (e := 56) (s := y.live) (by repeat constructor) slot_len) zl)) ?_
      clear H
      rintro _ w ⟨t, rfl, HT, H⟩
      refine ⟨fun _ => ⟨H.rw_ (by repeat constructor), H.rdgsl (by repeat constructor)⟩, ?_⟩
      (try go_frame)
      refine anyL_1 (i := 19) (by kernel_rfl) ?_
      refine wpOp_at rfl (.of rfl) rfl ?_
      refine wp_index_n rfl d.gs (H.rdgsl (by repeat constructor)) rfl rfl rfl (by rw [m_glen HD]; exact hk) ?_
      refine ⟨fun _ => ⟨H.rw_ (by repeat constructor), H.rdgsl (by repeat constructor)⟩, ?_⟩
      (try go_frame)
      refine tkL (i := 20) rfl (.of rfl) (yields_val (v := (.pointer (some ⟨ablk d.gs.A, aoff d.gs.A + k * 15 + 4, none⟩))) rfl (fun _ => by go_simp)) ⟨H.rw_ (by repeat constructor), H.rdgsl (by repeat constructor)⟩ ?_
      (try go_frame)
      refine anyL_1 (i := 21) (by kernel_rfl) ?_
      refine wpOp_at rfl (.of rfl) rfl ?_
      refine wp_store_el rfl H d.gs (by repeat constructor) g_len rfl rfl y ⟨y.prog, y.a, y.pc, y.written, t, y.ctl, y.pending, y.exit, y.halted, y.seen⟩ HK.out rfl (by constructor) (by repeat constructor) (by exact rfl) (by exact rfl) ?_
      clear H
      intro w H
      refine ⟨fun hw => absurd rfl hw, ?_⟩
      (try go_frame)
      refine anyL_done (by kernel_rfl) ?_ _
      exact ⟨rfl, t, HT, H.pick (.cons (by repeat constructor) (.cons (by repeat constructor) (.cons (by repeat constructor) (.cons (by repeat constructor) (.cons (by repeat constructor) (.cons (by repeat constructor) (.cons (by repeat constructor) (.cons (by repeat constructor) (.cons (by repeat constructor) (.cons (by repeat constructor) (.cons (by repeat constructor) (.cons (by repeat constructor) .nil)))))))))))), by first | (simp only [puts_cons, puts_nil, Act.put, List.setIfInBounds_toArray, List.set_cons_succ, List.set_cons_zero]; done) | (simp only [puts_cons, puts_nil, Act.put, List.setIfInBounds_toArray, List.set_cons_succ, List.set_cons_zero]; rfl)⟩
    clear H
    rintro u w ⟨t, HT, H, rfl⟩
    simp only [puts_cons, puts_nil, Act.put, List.setIfInBounds_toArray, List.set_cons_succ, List.set_cons_zero]
    replace H := Hp.gst_close y.a y.pc y.ctl y.pending y.exit y.halted H
    rw [← set_app HL.out HL1.out] at H
    go_wp2_with (first
      | go_skip
      | ((with_reducible refine at_box ?_); first | (refine wpList_box_H rfl rfl H rfl (by constructor) ?_; clear H; intro b w H))
      | ((with_reducible refine at_alloc ?_); first | (refine wpList_alloc_H rfl rfl H ?_; clear H; intro b w H))
      | ((with_reducible refine at_load ?_); first | (refine wpList_load_H rfl rfl H rfl (by repeat constructor) ?_) | (refine wpList_loads_H rfl rfl H rfl (by repeat constructor) ?_))
      | ((with_reducible refine at_store ?_); first | (refine wpList_store_H rfl rfl H rfl rfl (by repeat constructor) ?_; clear H; intro w H)))
    refine bodyPost_ret (results_H2 rfl H rfl (by repeat constructor)) rfl ⟨⟨d.mem, ⟨d.gs.A, d.gs.c, d.gs.xs.set k ⟨y.prog, y.a, y.pc, y.written, t, y.ctl, y.pending, y.exit, y.halted, y.seen⟩⟩, d.outs, d.pend⟩, by rw [HO.out]; simp [BV.val], ?_, H.bare5 (.cons (by repeat constructor) (.cons (by repeat constructor) (.cons (by repeat constructor) (.cons (by repeat constructor) (.cons (by repeat constructor) .nil))))) rfl rfl⟩
    rw [ch_hit (by rw [HO.out]; rfl), ← HD.out, wg_hit HK.out]
    simp only [BV.m, gsOf, List.map_set, GV.m, HT.out]; rfl
  all_goals
    rw [e1, e2] at ho
    have HO := Lib.hid ho
    clear ho
    have H := Hp.start W0
    go_enter Tryz.func32, Tryz.ntmps32
    go_wp2_with (first
      | go_skip
      | ((with_reducible refine at_box ?_); first | (refine wpList_box_H (cs := (barr B).toList) rfl rfl H rfl CellsOf.agg ?_; clear H; intro bB w H) | (refine wpList_box_H rfl rfl H rfl (by constructor) ?_; clear H; intro bB w H))
      | ((with_reducible refine at_alloc ?_); first | ((with_reducible refine at_dst 6 ?_); refine wpList_alloc_H rfl rfl H ?_; clear H; intro bR w H) | (refine wpList_alloc_H rfl rfl H ?_; clear H; intro b w H))
      | ((with_reducible refine at_load ?_); first | (refine wpList_load_H rfl rfl H rfl (by repeat constructor) ?_) | (refine wpList_loads_H rfl rfl H rfl (by repeat constructor) ?_))
      | ((with_reducible refine at_store ?_); first | (refine wpList_store_H rfl rfl H rfl rfl (by repeat constructor) ?_; clear H; intro w H))
      | (go_at_call 76; refine (l17Copy_c B _ (R.at_ H) Z).mono ?_; rintro e w ⟨d, rfl, x1, K⟩; have HD := Lib.hid x1; clear x1; have Zd := m_big HD Z; replace H := (H.add_all K); clear K)
      | (go_at_call 77; refine (l19Is_c d g _ (H.brd (by repeat constructor)) Zd).mono ?_; rintro e w ⟨he, K⟩; rw [HD.out, e1] at he; subst he; replace H := H.add_all K; clear K)
      | (go_at_call 78; refine (in_any _ _ _ _).mono ?_; rintro e w' ⟨he, hw⟩; subst hw; rw [in4, e2] at he; subst he))
    refine bodyPost_ret (results_H2 rfl H rfl (by repeat constructor)) rfl ⟨d, by rw [HO.out]; rfl, by unfold changedM; rw [HO.out]; exact HD.out, H.pick (.cons (by repeat constructor) .nil)⟩
end Go.Proofs.YtaafnenmdombiaaGreat
