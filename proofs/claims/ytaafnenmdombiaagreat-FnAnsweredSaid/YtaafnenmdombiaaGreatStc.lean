/- Cases of BareStep of the program. No condition but that the arguments lie in memory. -/
import Derived.Maps.RangeWalk
import Derived.Test.YtaafnenmdombiaaGreatSt
import Derived.Test.YtaafnenmdombiaaGreatDl
namespace Go.Proofs.YtaafnenmdombiaaGreat
set_option linter.unusedSimpArgs false
set_option linter.unusedVariables false
open Go.RowKit
theorem set_sumS {α : Type} (f : α → Nat) : ∀ (l : List α) (k : Nat) (x y : α), l[k]? = some y → f x = f y → ((l.set k x).map f).sum = (l.map f).sum
  | [], k, x, y, h, _ => by simp at h
  | z :: l, 0, x, y, h, e => by simp at h; subst h; simp [e]
  | z :: l, k + 1, x, y, h, e => by have := set_sumS f l k x y (by simpa using h) e; simp only [List.set_cons_succ, List.map_cons, List.sum_cons]; omega
theorem withCellS_size (m : List (List Int)) (p c v : Int) : rowsSize (withCellM m p c v) = rowsSize m := by
  unfold withCellM; split
  · rename_i h
    unfold rowsSize
    simp only [List.length_set]
    cases hr : m[p.toNat]? with
    | none => rw [List.set_eq_of_length_le (by simpa using hr)]
    | some r => rw [set_sumS List.length m p.toNat _ r hr (by simp [rowM, hr])]
  · rfl
theorem stS_size (m : MB) (p c v : Int) : ({ m with memory := withCellM m.memory p c v } : MB).size = m.size := by
  unfold MB.size; rw [withCellS_size]
set_option maxRecDepth 100000 in
set_option maxHeartbeats 4000000 in
theorem bareStep_4f (B : BV) (g : Int) (e1 : bareOkM B.m = true) (e2 : hasM B.m g = true) (hw : wantM (gAtM B.m g) = 4) (hk : walkOkM (gAtM B.m g).live (addrPageM (addrM (gAtM B.m g))) 2 = false) (W0 : World) (R : BRd W0 B) (Z : BBig B) : Calls Tryz.prog 24 #[B.val, .int .i64 g] W0 fun e w' => ∃ d : BV, e = .returned (.tuple #[d.val, .bool true]) ∧ d.m = withGuestM B.m g (stoppedM (gAtM B.m g) ⟨1, addrPageM (addrM (gAtM B.m g)), true, 0⟩) ∧ Hp W0 w' [.bare d] := by
  obtain ⟨a, ha⟩ : ∃ a, a = addrM (gAtM B.m g) := ⟨_, rfl⟩
  have HA : Hid (addrM (gAtM B.m g) = a) := ha.symm
  clear ha
  obtain ⟨i, hi⟩ : ∃ i, i = insAtM (gAtM B.m g).prog (gAtM B.m g).pc := ⟨_, rfl⟩
  have HI : Hid (insAtM (gAtM B.m g).prog (gAtM B.m g).pc = i) := hi.symm
  clear hi
  have ZM : B.m.size ≤ 4194304 := Z
  obtain ⟨hb1, hb2⟩ := addr_bd e1 e2 (by rw [hw]; simp)
  rw [HA.out] at hb1 hb2
  have ha1 : a ≤ 9223372036854775807 := by omega
  have ha2 : -9223372036854775808 ≤ a := by omega
  clear hb1 hb2
  obtain ⟨p, hp⟩ : ∃ p, p = addrPageM a := ⟨_, rfl⟩
  have HP : Hid (addrPageM a = p) := hp.symm
  clear hp
  obtain ⟨c, hc⟩ : ∃ c, c = addrCellM a := ⟨_, rfl⟩
  have HC : Hid (addrCellM a = c) := hc.symm
  clear hc
  obtain ⟨pg, hpg⟩ : ∃ pg, pg = walkPageM (gAtM B.m g).live p 2 := ⟨_, rfl⟩
  have HPG : Hid (walkPageM (gAtM B.m g).live p 2 = pg) := hpg.symm
  clear hpg
  have HWK : Hid (walkOkM (gAtM B.m g).live p 2 = false) := by show _ = _; rw [← HP.out, ← HA.out]; exact hk
  have HM : withGuestM B.m g (stoppedM (gAtM B.m g) ⟨1, addrPageM (addrM (gAtM B.m g)), true, 0⟩) = withGuestM B.m g (stoppedM (gAtM B.m g) ⟨1, p, true, 0⟩) := by simp only [HA.out, HP.out, HC.out, HPG.out]
  rw [HM]
  clear HM hk
  have ew := Lib.hid hw; clear hw
  have H := Hp.start W0
  go_enter Tryz.func24, Tryz.ntmps24
  go_wp2_with (first
    | go_skip
    | ((with_reducible refine at_box ?_); first | (refine wpList_box_H (cs := (barr B).toList) rfl rfl H rfl CellsOf.agg ?_; clear H; intro bB w H) | (refine wpList_box_H rfl rfl H rfl (by constructor) ?_; clear H; intro b w H))
    | ((with_reducible refine at_alloc ?_); first | ((with_reducible refine at_dst 4 ?_); refine wpList_alloc_H rfl rfl H ?_; clear H; intro bR w H) | ((with_reducible refine at_dst 6 ?_); refine wpList_alloc_H rfl rfl H ?_; clear H; intro bX w H) | ((with_reducible refine at_dst 10 ?_); refine wpList_alloc_H rfl rfl H ?_; clear H; intro bI w H) | (refine wpList_alloc_H rfl rfl H ?_; clear H; intro b w H))
    | ((with_reducible refine at_load ?_); first | (refine wpList_load_H rfl rfl H rfl (by repeat constructor) ?_) | (refine wpList_loads_H rfl rfl H rfl (by repeat constructor) ?_))
    | ((with_reducible refine at_store ?_); first | (refine wpList_store_H rfl rfl H rfl rfl (by repeat constructor) ?_; clear H; intro w H))
    | (go_at_call 40; refine (guestAt_c B g _ (R.at_ H) Z).mono ?_; rintro e w ⟨x, he, x1, K⟩; rw [e2] at he; subst he; have HX := Lib.hid x1; clear x1; have ZX : GBig x := size_big HX.out (Nat.le_trans (gAtM_size _ _) ZM); replace H := H.add_all K; clear K)
    | (go_at_call 112; refine (wantOf_any x _ (H.grd1 (g := x) (by repeat constructor)).prog ZX.1).mono ?_; rintro e w ⟨he, hb⟩; rw [HX.out, ew.out] at he; subst he; replace H := H.still hb; clear hb)
    | (go_at_call 50; refine (bareOk_c B _ (R.at_ H) Z).mono ?_; rintro e w ⟨he, K⟩; rw [e1] at he; subst he; replace H := H.add_all K; clear K)
    | (go_at_call 114; refine (address_any x _ (H.grd1 (g := x) (by repeat constructor)).prog ZX.1).mono ?_; rintro e w ⟨he, hb⟩; rw [HX.out, HA.out] at he; subst he; replace H := H.still hb; clear hb)
    | (go_at_call 115; refine (insAt_c x.prog x.pc _ (H.grd1 (g := x) (by repeat constructor)).prog ZX.1 i (by rw [← HI.out, ← HX.out]; rfl)).mono ?_; rintro e w ⟨rfl, hb⟩; replace H := H.still hb; clear hb))
  have HL : Hid (x.live.xs = (gAtM B.m g).live) := congrArg MG.live HX.out
  refine wp_cut (fun u a' w' => ∃ (_ : Unit), Hp W0 w' [.box bB 28 (barr B).toList, .box bX 53 (garr x).toList, .box bI 45 [.int .i64 i.op, .int .i64 i.x], .gst x, .box bR 28 [.slice none 0 0, .slice none 0 0, .slice none 0 0, .int .i64 0]] ∧ a' = puts u [(63, .pointer (some ⟨bX, 4, none⟩)), (64, .slice x.live.A x.live.xs.length x.live.c), (65, (.int .i64 a)), (66, (.int .i64 p)), (67, (.bool true)), (68, (.int .i64 2)), (69, (.tuple #[.int .i64 pg, .bool false])), (62, (.tuple #[.int .i64 pg, .bool false])), (70, (.int .i64 pg)), (71, (.bool false)), (12, (.int .i64 pg)), (13, (.bool false))]) ?_ ?_
  · refine wp_region_held (S := (fun w' => Rw w' bB 28 (barr B) ∧ Rw w' bX 53 (garr x) ∧ Rw w' bI 45 ([.int .i64 i.op, .int .i64 i.x] : List Value).toArray)) (by kernel_rfl) ?_
    replace H := H.drew
    refine tkH (i := 0) rfl .here (yields_val (v := .pointer (some ⟨bX, 4, none⟩)) rfl (fun _ => by go_simp)) ⟨H.rw_ (by repeat constructor), H.rw_ (by repeat constructor), H.rw_ (by repeat constructor)⟩ ?_
    (try go_frame)
    refine tkH (i := 1) rfl (.of rfl) (yields_load1_R rfl rfl rfl (fun _ hS => hS.2.1) rfl) ⟨H.rw_ (by repeat constructor), H.rw_ (by repeat constructor), H.rw_ (by repeat constructor)⟩ ?_
    (try go_frame)
    refine tkH (i := 2) rfl (.of rfl) (yields_val (v := (.int .i64 a)) rfl (fun _ => by go_simp)) ⟨H.rw_ (by repeat constructor), H.rw_ (by repeat constructor), H.rw_ (by repeat constructor)⟩ ?_
    (try go_frame)
    refine tkH (i := 4) rfl (.of rfl) (yields_val (v := (.bool true)) rfl (fun _ => by go_simp)) ⟨H.rw_ (by repeat constructor), H.rw_ (by repeat constructor), H.rw_ (by repeat constructor)⟩ ?_
    (try go_frame)
    refine anyH_1 (i := 3) (by kernel_rfl) ?_
    refine wpOp_at rfl (.of rfl) rfl ?_
    refine wp_call_H Tryz.f119 rfl rfl Tryz.func119 (by kernel_rfl) rfl rfl (val_H (v := .int .i64 p) H ((addrPage_c a ha1 ha2 _).mono fun _ _ ⟨he, K⟩ => ⟨by rw [he, HP.out], K⟩)) ?_
    clear H
    rintro _ w ⟨rfl, H⟩
    refine ⟨⟨H.rw_ (by repeat constructor), H.rw_ (by repeat constructor), H.rw_ (by repeat constructor)⟩, ?_⟩
    (try go_frame)
    refine anyH_1 (i := 5) (by kernel_rfl) ?_
    refine wpOp_at rfl (.of rfl) rfl ?_
    refine wp_call_H Tryz.f120 rfl rfl Tryz.func120 (by kernel_rfl) rfl rfl (val_H (v := .int .i64 2) H (needOf_c true _)) ?_
    clear H
    rintro _ w ⟨rfl, H⟩
    refine ⟨⟨H.rw_ (by repeat constructor), H.rw_ (by repeat constructor), H.rw_ (by repeat constructor)⟩, ?_⟩
    (try go_frame)
    refine anyH_1 (i := 6) (by kernel_rfl) ?_
    refine wpOp_at rfl (.of rfl) rfl ?_
    refine wp_call_H Tryz.f118 rfl rfl Tryz.func118 (by kernel_rfl) rfl rfl (val_H (v := .tuple #[.int .i64 pg, .bool false]) H ((walkInner_c x.live p 2 _ (H.grd1 (g := x) (by repeat constructor)).live ZX.2.2.1).mono fun _ _ ⟨he, K⟩ => ⟨by rw [he, HL.out, HPG.out, HWK.out], K⟩)) ?_
    clear H
    rintro _ w ⟨rfl, H⟩
    refine ⟨⟨H.rw_ (by repeat constructor), H.rw_ (by repeat constructor), H.rw_ (by repeat constructor)⟩, ?_⟩
    (try go_frame)
    refine tkH (i := 7) rfl (.of rfl) (yields_val (v := (.tuple #[.int .i64 pg, .bool false])) rfl (fun _ => by go_simp)) ⟨H.rw_ (by repeat constructor), H.rw_ (by repeat constructor), H.rw_ (by repeat constructor)⟩ ?_
    (try go_frame)
    refine tkH (i := 8) rfl (.of rfl) (yields_val (v := (.int .i64 pg)) rfl (fun _ => by go_simp)) ⟨H.rw_ (by repeat constructor), H.rw_ (by repeat constructor), H.rw_ (by repeat constructor)⟩ ?_
    (try go_frame)
    refine tkH (i := 9) rfl (.of rfl) (yields_val (v := (.bool false)) rfl (fun _ => by go_simp)) ⟨H.rw_ (by repeat constructor), H.rw_ (by repeat constructor), H.rw_ (by repeat constructor)⟩ ?_
    (try go_frame)
    refine tkH (i := 10) rfl (.of rfl) (yields_val (v := (.int .i64 pg)) rfl (fun _ => by go_simp)) ⟨H.rw_ (by repeat constructor), H.rw_ (by repeat constructor), H.rw_ (by repeat constructor)⟩ ?_
    (try go_frame)
    refine tkH (i := 11) rfl (.of rfl) (yields_val (v := (.bool false)) rfl (fun _ => by go_simp)) ⟨H.rw_ (by repeat constructor), H.rw_ (by repeat constructor), H.rw_ (by repeat constructor)⟩ ?_
    (try go_frame)
    refine wpAnyH_done (by kernel_rfl) ?_ _
    exact ⟨rfl, (), H.pick (.cons (by repeat constructor) (.cons (by repeat constructor) (.cons (by repeat constructor) (.cons (by repeat constructor) (.cons (by repeat constructor) .nil))))), by first | (simp only [puts_cons, puts_nil, Act.put, List.setIfInBounds_toArray, List.set_cons_succ, List.set_cons_zero]; done) | (simp only [puts_cons, puts_nil, Act.put, List.setIfInBounds_toArray, List.set_cons_succ, List.set_cons_zero]; rfl)⟩
  clear H
  rintro u w ⟨_, H, rfl⟩
  simp only [puts_cons, puts_nil, Act.put, List.setIfInBounds_toArray, List.set_cons_succ, List.set_cons_zero]
  go_wp2_with (first
    | go_skip
    | ((with_reducible refine at_box ?_); first | (refine wpList_box_H rfl rfl H rfl (by constructor) ?_; clear H; intro b w H))
    | ((with_reducible refine at_alloc ?_); first | (refine wpList_alloc_H rfl rfl H ?_; clear H; intro b w H))
    | ((with_reducible refine at_load ?_); first | (refine wpList_load_H rfl rfl H rfl (by repeat constructor) ?_) | (refine wpList_loads_H rfl rfl H rfl (by repeat constructor) ?_))
    | ((with_reducible refine at_store ?_); first | (refine wpList_store_H rfl rfl H rfl rfl (by repeat constructor) ?_; clear H; intro w H)))
  refine wp_cut (fun u a' w' => ∃ (y : GV) (d : BV), Hid (d.m = withGuestM B.m g (stoppedM (gAtM B.m g) ⟨1, p, true, 0⟩)) ∧ Hp W0 w' [.box bR 28 (barr d).toList, .bare d] ∧ a' = puts u [(75, B.val), (76, (.int .i64 g)), (77, x.val), (78, (.int .i64 a)), (79, (.int .i64 p)), (80, (.bool true)), (81, (Exit.val ⟨1, p, true, 0⟩)), (82, y.val), (83, d.val), (5, (.bool true))]) ?_ ?_
  · refine wp_region_held (S := (fun w' => Rw w' bB 28 (barr B) ∧ Rw w' bX 53 (garr x) ∧ Rw w' bI 45 ([.int .i64 i.op, .int .i64 i.x] : List Value).toArray)) (by kernel_rfl) ?_
    replace H := H.drew
    refine tkH (i := 0) rfl .here (yields_loads_R rfl rfl rfl (fun _ hS => hS.1) (by repeat constructor)) ⟨H.rw_ (by repeat constructor), H.rw_ (by repeat constructor), H.rw_ (by repeat constructor)⟩ ?_
    (try go_frame)
    refine tkH (i := 1) rfl (.of rfl) (yields_val (v := (.int .i64 g)) rfl (fun _ => by go_simp)) ⟨H.rw_ (by repeat constructor), H.rw_ (by repeat constructor), H.rw_ (by repeat constructor)⟩ ?_
    (try go_frame)
    refine tkH (i := 2) rfl (.of rfl) (yields_loads_R rfl rfl rfl (fun _ hS => hS.2.1) (by repeat constructor)) ⟨H.rw_ (by repeat constructor), H.rw_ (by repeat constructor), H.rw_ (by repeat constructor)⟩ ?_
    (try go_frame)
    refine tkH (i := 3) rfl (.of rfl) (yields_val (v := (.int .i64 a)) rfl (fun _ => by go_simp)) ⟨H.rw_ (by repeat constructor), H.rw_ (by repeat constructor), H.rw_ (by repeat constructor)⟩ ?_
    (try go_frame)
    refine tkH (i := 5) rfl (.of rfl) (yields_val (v := (.bool true)) rfl (fun _ => by go_simp)) ⟨H.rw_ (by repeat constructor), H.rw_ (by repeat constructor), H.rw_ (by repeat constructor)⟩ ?_
    (try go_frame)
    refine anyH_1 (i := 4) (by kernel_rfl) ?_
    refine wpOp_at rfl (.of rfl) rfl ?_
    refine wp_call_H Tryz.f119 rfl rfl Tryz.func119 (by kernel_rfl) rfl rfl (val_H (v := .int .i64 p) H ((addrPage_c a ha1 ha2 _).mono fun _ _ ⟨he, K⟩ => ⟨by rw [he, HP.out], K⟩)) ?_
    clear H
    rintro _ w ⟨rfl, H⟩
    refine ⟨⟨H.rw_ (by repeat constructor), H.rw_ (by repeat constructor), H.rw_ (by repeat constructor)⟩, ?_⟩
    (try go_frame)
    refine anyH_1 (i := 6) (by kernel_rfl) ?_
    refine wpOp_at rfl (.of rfl) rfl ?_
    refine wp_call_H Tryz.f121 rfl rfl Tryz.func121 (by kernel_rfl) rfl rfl (val_H (v := Exit.val ⟨1, p, true, 0⟩) H (faultExit_c p true _)) ?_
    clear H
    rintro _ w ⟨rfl, H⟩
    refine ⟨⟨H.rw_ (by repeat constructor), H.rw_ (by repeat constructor), H.rw_ (by repeat constructor)⟩, ?_⟩
    (try go_frame)
    refine anyH_1 (i := 7) (by kernel_rfl) ?_
    refine wpOp_at rfl (.of rfl) rfl ?_
    refine wp_call_H Tryz.f75 rfl rfl Tryz.func75 (by kernel_rfl) rfl rfl (made_H H ((stopped_c x ⟨1, p, true, 0⟩ _ rfl _ (H.grd1 (g := x) (by repeat constructor)) ZX).mono fun _ _ h => mkgS h)) ?_
    clear H
    rintro _ w ⟨y, rfl, HY, H⟩
    have zy : GBig y := gbig_mm (m := stoppedM x.m ⟨1, p, true, 0⟩) (show MBig _ from GBig.m ZX) HY
    refine ⟨⟨H.rw_ (by repeat constructor), H.rw_ (by repeat constructor), H.rw_ (by repeat constructor)⟩, ?_⟩
    (try go_frame)
    refine anyH_1 (i := 8) (by kernel_rfl) ?_
    refine wpOp_at rfl (.of rfl) rfl ?_
    refine wp_call_H Tryz.f38 rfl rfl Tryz.func38 (by kernel_rfl) rfl rfl (made_H H (withGuest_c B g y _ (R.at_ H) Z (H.grd1 (g := y) (by repeat constructor)) zy)) ?_
    clear H
    rintro _ w ⟨d, rfl, HD, H⟩
    refine ⟨⟨H.rw_ (by repeat constructor), H.rw_ (by repeat constructor), H.rw_ (by repeat constructor)⟩, ?_⟩
    (try go_frame)
    refine anyH_1 (i := 9) (by kernel_rfl) ?_
    refine wpOp_at rfl (.of rfl) rfl ?_
    refine wp_store_H rfl H rfl rfl (by repeat constructor) ?_
    clear H
    intro w H
    refine ⟨⟨H.rw_ (by repeat constructor), H.rw_ (by repeat constructor), H.rw_ (by repeat constructor)⟩, ?_⟩
    (try go_frame)
    refine tkH (i := 10) rfl (.of rfl) (yields_val (v := (.bool true)) rfl (fun _ => by go_simp)) ⟨H.rw_ (by repeat constructor), H.rw_ (by repeat constructor), H.rw_ (by repeat constructor)⟩ ?_
    (try go_frame)
    refine wpAnyH_done (by kernel_rfl) ?_ _
    exact ⟨rfl, y, d, (by show _ = _; rw [HD.out, HY.out, HX.out]), H.pick (.cons (by repeat constructor) (.cons (by repeat constructor) .nil)), by first | (simp only [puts_cons, puts_nil, Act.put, List.setIfInBounds_toArray, List.set_cons_succ, List.set_cons_zero]; done) | (simp only [puts_cons, puts_nil, Act.put, List.setIfInBounds_toArray, List.set_cons_succ, List.set_cons_zero]; rfl)⟩
  clear H
  rintro u w ⟨y, d, HD, H, rfl⟩
  simp only [puts_cons, puts_nil, Act.put, List.setIfInBounds_toArray, List.set_cons_succ, List.set_cons_zero]
  go_wp2_with (first
    | go_skip
    | ((with_reducible refine at_box ?_); first | (refine wpList_box_H rfl rfl H rfl (by constructor) ?_; clear H; intro b w H))
    | ((with_reducible refine at_alloc ?_); first | (refine wpList_alloc_H rfl rfl H ?_; clear H; intro b w H))
    | ((with_reducible refine at_load ?_); first | (refine wpList_load_H rfl rfl H rfl (by repeat constructor) ?_) | (refine wpList_loads_H rfl rfl H rfl (by repeat constructor) ?_))
    | ((with_reducible refine at_store ?_); first | (refine wpList_store_H rfl rfl H rfl rfl (by repeat constructor) ?_; clear H; intro w H)))
  refine bodyPost_ret (results_H2 rfl H rfl (by repeat constructor)) rfl ⟨d, rfl, HD.out, H.pick (.cons (by repeat constructor) .nil)⟩
set_option maxRecDepth 100000 in
set_option maxHeartbeats 4000000 in
theorem bareStep_4t (B : BV) (g : Int) (e1 : bareOkM B.m = true) (e2 : hasM B.m g = true) (hw : wantM (gAtM B.m g) = 4) (hk : walkOkM (gAtM B.m g).live (addrPageM (addrM (gAtM B.m g))) 2 = true) (W0 : World) (R : BRd W0 B) (Z : BBig B) : Calls Tryz.prog 24 #[B.val, .int .i64 g] W0 fun e w' => ∃ d : BV, e = .returned (.tuple #[d.val, .bool true]) ∧ d.m = withGuestM { B.m with memory := withCellM B.m.memory (walkPageM (gAtM B.m g).live (addrPageM (addrM (gAtM B.m g))) 2) (addrCellM (addrM (gAtM B.m g))) (gAtM B.m g).a } g (movedM (gAtM B.m g)) ∧ Hp W0 w' [.bare d] := by
  obtain ⟨a, ha⟩ : ∃ a, a = addrM (gAtM B.m g) := ⟨_, rfl⟩
  have HA : Hid (addrM (gAtM B.m g) = a) := ha.symm
  clear ha
  obtain ⟨i, hi⟩ : ∃ i, i = insAtM (gAtM B.m g).prog (gAtM B.m g).pc := ⟨_, rfl⟩
  have HI : Hid (insAtM (gAtM B.m g).prog (gAtM B.m g).pc = i) := hi.symm
  clear hi
  have ZM : B.m.size ≤ 4194304 := Z
  obtain ⟨hb1, hb2⟩ := addr_bd e1 e2 (by rw [hw]; simp)
  rw [HA.out] at hb1 hb2
  have ha1 : a ≤ 9223372036854775807 := by omega
  have ha2 : -9223372036854775808 ≤ a := by omega
  clear hb1 hb2
  obtain ⟨p, hp⟩ : ∃ p, p = addrPageM a := ⟨_, rfl⟩
  have HP : Hid (addrPageM a = p) := hp.symm
  clear hp
  obtain ⟨c, hc⟩ : ∃ c, c = addrCellM a := ⟨_, rfl⟩
  have HC : Hid (addrCellM a = c) := hc.symm
  clear hc
  obtain ⟨pg, hpg⟩ : ∃ pg, pg = walkPageM (gAtM B.m g).live p 2 := ⟨_, rfl⟩
  have HPG : Hid (walkPageM (gAtM B.m g).live p 2 = pg) := hpg.symm
  clear hpg
  have HWK : Hid (walkOkM (gAtM B.m g).live p 2 = true) := by show _ = _; rw [← HP.out, ← HA.out]; exact hk
  have HM : withGuestM { B.m with memory := withCellM B.m.memory (walkPageM (gAtM B.m g).live (addrPageM (addrM (gAtM B.m g))) 2) (addrCellM (addrM (gAtM B.m g))) (gAtM B.m g).a } g (movedM (gAtM B.m g)) = withGuestM { B.m with memory := withCellM B.m.memory pg c (gAtM B.m g).a } g (movedM (gAtM B.m g)) := by simp only [HA.out, HP.out, HC.out, HPG.out]
  rw [HM]
  clear HM hk
  have ew := Lib.hid hw; clear hw
  have H := Hp.start W0
  go_enter Tryz.func24, Tryz.ntmps24
  go_wp2_with (first
    | go_skip
    | ((with_reducible refine at_box ?_); first | (refine wpList_box_H (cs := (barr B).toList) rfl rfl H rfl CellsOf.agg ?_; clear H; intro bB w H) | (refine wpList_box_H rfl rfl H rfl (by constructor) ?_; clear H; intro b w H))
    | ((with_reducible refine at_alloc ?_); first | ((with_reducible refine at_dst 4 ?_); refine wpList_alloc_H rfl rfl H ?_; clear H; intro bR w H) | ((with_reducible refine at_dst 6 ?_); refine wpList_alloc_H rfl rfl H ?_; clear H; intro bX w H) | ((with_reducible refine at_dst 10 ?_); refine wpList_alloc_H rfl rfl H ?_; clear H; intro bI w H) | (refine wpList_alloc_H rfl rfl H ?_; clear H; intro b w H))
    | ((with_reducible refine at_load ?_); first | (refine wpList_load_H rfl rfl H rfl (by repeat constructor) ?_) | (refine wpList_loads_H rfl rfl H rfl (by repeat constructor) ?_))
    | ((with_reducible refine at_store ?_); first | (refine wpList_store_H rfl rfl H rfl rfl (by repeat constructor) ?_; clear H; intro w H))
    | (go_at_call 40; refine (guestAt_c B g _ (R.at_ H) Z).mono ?_; rintro e w ⟨x, he, x1, K⟩; rw [e2] at he; subst he; have HX := Lib.hid x1; clear x1; have ZX : GBig x := size_big HX.out (Nat.le_trans (gAtM_size _ _) ZM); replace H := H.add_all K; clear K)
    | (go_at_call 112; refine (wantOf_any x _ (H.grd1 (g := x) (by repeat constructor)).prog ZX.1).mono ?_; rintro e w ⟨he, hb⟩; rw [HX.out, ew.out] at he; subst he; replace H := H.still hb; clear hb)
    | (go_at_call 50; refine (bareOk_c B _ (R.at_ H) Z).mono ?_; rintro e w ⟨he, K⟩; rw [e1] at he; subst he; replace H := H.add_all K; clear K)
    | (go_at_call 114; refine (address_any x _ (H.grd1 (g := x) (by repeat constructor)).prog ZX.1).mono ?_; rintro e w ⟨he, hb⟩; rw [HX.out, HA.out] at he; subst he; replace H := H.still hb; clear hb)
    | (go_at_call 115; refine (insAt_c x.prog x.pc _ (H.grd1 (g := x) (by repeat constructor)).prog ZX.1 i (by rw [← HI.out, ← HX.out]; rfl)).mono ?_; rintro e w ⟨rfl, hb⟩; replace H := H.still hb; clear hb))
  have HL : Hid (x.live.xs = (gAtM B.m g).live) := congrArg MG.live HX.out
  refine wp_cut (fun u a' w' => ∃ (_ : Unit), Hp W0 w' [.box bB 28 (barr B).toList, .box bX 53 (garr x).toList, .box bI 45 [.int .i64 i.op, .int .i64 i.x], .gst x, .box bR 28 [.slice none 0 0, .slice none 0 0, .slice none 0 0, .int .i64 0]] ∧ a' = puts u [(63, .pointer (some ⟨bX, 4, none⟩)), (64, .slice x.live.A x.live.xs.length x.live.c), (65, (.int .i64 a)), (66, (.int .i64 p)), (67, (.bool true)), (68, (.int .i64 2)), (69, (.tuple #[.int .i64 pg, .bool true])), (62, (.tuple #[.int .i64 pg, .bool true])), (70, (.int .i64 pg)), (71, (.bool true)), (12, (.int .i64 pg)), (13, (.bool true))]) ?_ ?_
  · refine wp_region_held (S := (fun w' => Rw w' bB 28 (barr B) ∧ Rw w' bX 53 (garr x) ∧ Rw w' bI 45 ([.int .i64 i.op, .int .i64 i.x] : List Value).toArray)) (by kernel_rfl) ?_
    replace H := H.drew
    refine tkH (i := 0) rfl .here (yields_val (v := .pointer (some ⟨bX, 4, none⟩)) rfl (fun _ => by go_simp)) ⟨H.rw_ (by repeat constructor), H.rw_ (by repeat constructor), H.rw_ (by repeat constructor)⟩ ?_
    (try go_frame)
    refine tkH (i := 1) rfl (.of rfl) (yields_load1_R rfl rfl rfl (fun _ hS => hS.2.1) rfl) ⟨H.rw_ (by repeat constructor), H.rw_ (by repeat constructor), H.rw_ (by repeat constructor)⟩ ?_
    (try go_frame)
    refine tkH (i := 2) rfl (.of rfl) (yields_val (v := (.int .i64 a)) rfl (fun _ => by go_simp)) ⟨H.rw_ (by repeat constructor), H.rw_ (by repeat constructor), H.rw_ (by repeat constructor)⟩ ?_
    (try go_frame)
    refine tkH (i := 4) rfl (.of rfl) (yields_val (v := (.bool true)) rfl (fun _ => by go_simp)) ⟨H.rw_ (by repeat constructor), H.rw_ (by repeat constructor), H.rw_ (by repeat constructor)⟩ ?_
    (try go_frame)
    refine anyH_1 (i := 3) (by kernel_rfl) ?_
    refine wpOp_at rfl (.of rfl) rfl ?_
    refine wp_call_H Tryz.f119 rfl rfl Tryz.func119 (by kernel_rfl) rfl rfl (val_H (v := .int .i64 p) H ((addrPage_c a ha1 ha2 _).mono fun _ _ ⟨he, K⟩ => ⟨by rw [he, HP.out], K⟩)) ?_
    clear H
    rintro _ w ⟨rfl, H⟩
    refine ⟨⟨H.rw_ (by repeat constructor), H.rw_ (by repeat constructor), H.rw_ (by repeat constructor)⟩, ?_⟩
    (try go_frame)
    refine anyH_1 (i := 5) (by kernel_rfl) ?_
    refine wpOp_at rfl (.of rfl) rfl ?_
    refine wp_call_H Tryz.f120 rfl rfl Tryz.func120 (by kernel_rfl) rfl rfl (val_H (v := .int .i64 2) H (needOf_c true _)) ?_
    clear H
    rintro _ w ⟨rfl, H⟩
    refine ⟨⟨H.rw_ (by repeat constructor), H.rw_ (by repeat constructor), H.rw_ (by repeat constructor)⟩, ?_⟩
    (try go_frame)
    refine anyH_1 (i := 6) (by kernel_rfl) ?_
    refine wpOp_at rfl (.of rfl) rfl ?_
    refine wp_call_H Tryz.f118 rfl rfl Tryz.func118 (by kernel_rfl) rfl rfl (val_H (v := .tuple #[.int .i64 pg, .bool true]) H ((walkInner_c x.live p 2 _ (H.grd1 (g := x) (by repeat constructor)).live ZX.2.2.1).mono fun _ _ ⟨he, K⟩ => ⟨by rw [he, HL.out, HPG.out, HWK.out], K⟩)) ?_
    clear H
    rintro _ w ⟨rfl, H⟩
    refine ⟨⟨H.rw_ (by repeat constructor), H.rw_ (by repeat constructor), H.rw_ (by repeat constructor)⟩, ?_⟩
    (try go_frame)
    refine tkH (i := 7) rfl (.of rfl) (yields_val (v := (.tuple #[.int .i64 pg, .bool true])) rfl (fun _ => by go_simp)) ⟨H.rw_ (by repeat constructor), H.rw_ (by repeat constructor), H.rw_ (by repeat constructor)⟩ ?_
    (try go_frame)
    refine tkH (i := 8) rfl (.of rfl) (yields_val (v := (.int .i64 pg)) rfl (fun _ => by go_simp)) ⟨H.rw_ (by repeat constructor), H.rw_ (by repeat constructor), H.rw_ (by repeat constructor)⟩ ?_
    (try go_frame)
    refine tkH (i := 9) rfl (.of rfl) (yields_val (v := (.bool true)) rfl (fun _ => by go_simp)) ⟨H.rw_ (by repeat constructor), H.rw_ (by repeat constructor), H.rw_ (by repeat constructor)⟩ ?_
    (try go_frame)
    refine tkH (i := 10) rfl (.of rfl) (yields_val (v := (.int .i64 pg)) rfl (fun _ => by go_simp)) ⟨H.rw_ (by repeat constructor), H.rw_ (by repeat constructor), H.rw_ (by repeat constructor)⟩ ?_
    (try go_frame)
    refine tkH (i := 11) rfl (.of rfl) (yields_val (v := (.bool true)) rfl (fun _ => by go_simp)) ⟨H.rw_ (by repeat constructor), H.rw_ (by repeat constructor), H.rw_ (by repeat constructor)⟩ ?_
    (try go_frame)
    refine wpAnyH_done (by kernel_rfl) ?_ _
    exact ⟨rfl, (), H.pick (.cons (by repeat constructor) (.cons (by repeat constructor) (.cons (by repeat constructor) (.cons (by repeat constructor) (.cons (by repeat constructor) .nil))))), by first | (simp only [puts_cons, puts_nil, Act.put, List.setIfInBounds_toArray, List.set_cons_succ, List.set_cons_zero]; done) | (simp only [puts_cons, puts_nil, Act.put, List.setIfInBounds_toArray, List.set_cons_succ, List.set_cons_zero]; rfl)⟩
  clear H
  rintro u w ⟨_, H, rfl⟩
  simp only [puts_cons, puts_nil, Act.put, List.setIfInBounds_toArray, List.set_cons_succ, List.set_cons_zero]
  go_wp2_with (first
    | go_skip
    | ((with_reducible refine at_box ?_); first | (refine wpList_box_H rfl rfl H rfl (by constructor) ?_; clear H; intro b w H))
    | ((with_reducible refine at_alloc ?_); first | (refine wpList_alloc_H rfl rfl H ?_; clear H; intro b w H))
    | ((with_reducible refine at_load ?_); first | (refine wpList_load_H rfl rfl H rfl (by repeat constructor) ?_) | (refine wpList_loads_H rfl rfl H rfl (by repeat constructor) ?_))
    | ((with_reducible refine at_store ?_); first | (refine wpList_store_H rfl rfl H rfl rfl (by repeat constructor) ?_; clear H; intro w H)))
  refine wp_cut (fun u a' w' => ∃ (q : Sl (Sl Int)), Hid (q.xs.map (fun x => x.xs) = withCellM (memOf B.mem) pg c x.a) ∧ Hp W0 w' [.box bB 28 (barr (⟨q, B.gs, B.outs, B.pend⟩ : BV)).toList, .box bX 53 (garr x).toList, .box bI 45 [.int .i64 i.op, .int .i64 i.x], .gst x, .box bR 28 [.slice none 0 0, .slice none 0 0, .slice none 0 0, .int .i64 0], .rows q, .many En.int q.xs] ∧ a' = puts u [(86, .pointer (some ⟨bB, 0, none⟩)), (87, .slice B.mem.A B.mem.xs.length B.mem.c), (88, (.int .i64 pg)), (89, (.int .i64 a)), (90, (.int .i64 c)), (91, .pointer (some ⟨bX, 1, none⟩)), (92, (.int .i64 x.a)), (93, .slice q.A q.xs.length q.c), (94, .pointer (some ⟨bB, 0, none⟩))]) ?_ ?_
  · refine wp_region_last 9 (S := (fun w' => Rw w' bB 28 (barr B) ∧ Rw w' bX 53 (garr x) ∧ Rw w' bI 45 ([.int .i64 i.op, .int .i64 i.x] : List Value).toArray)) (by kernel_rfl) ?_
    replace H := H.drew
    refine tkL (i := 0) rfl .here (yields_val (v := .pointer (some ⟨bB, 0, none⟩)) rfl (fun _ => by go_simp)) ⟨H.rw_ (by repeat constructor), H.rw_ (by repeat constructor), H.rw_ (by repeat constructor)⟩ ?_
    (try go_frame)
    refine tkL (i := 1) rfl (.of rfl) (yields_load1_R rfl rfl rfl (fun _ hS => hS.1) rfl) ⟨H.rw_ (by repeat constructor), H.rw_ (by repeat constructor), H.rw_ (by repeat constructor)⟩ ?_
    (try go_frame)
    refine tkL (i := 2) rfl (.of rfl) (yields_val (v := (.int .i64 pg)) rfl (fun _ => by go_simp)) ⟨H.rw_ (by repeat constructor), H.rw_ (by repeat constructor), H.rw_ (by repeat constructor)⟩ ?_
    (try go_frame)
    refine tkL (i := 3) rfl (.of rfl) (yields_val (v := (.int .i64 a)) rfl (fun _ => by go_simp)) ⟨H.rw_ (by repeat constructor), H.rw_ (by repeat constructor), H.rw_ (by repeat constructor)⟩ ?_
    (try go_frame)
    refine tkL (i := 5) rfl (.of rfl) (yields_val (v := .pointer (some ⟨bX, 1, none⟩)) rfl (fun _ => by go_simp)) ⟨H.rw_ (by repeat constructor), H.rw_ (by repeat constructor), H.rw_ (by repeat constructor)⟩ ?_
    (try go_frame)
    refine tkL (i := 6) rfl (.of rfl) (yields_load1_R rfl rfl rfl (fun _ hS => hS.2.1) rfl) ⟨H.rw_ (by repeat constructor), H.rw_ (by repeat constructor), H.rw_ (by repeat constructor)⟩ ?_
    (try go_frame)
    refine anyL_1 (i := 4) (by kernel_rfl) ?_
    refine wpOp_at rfl (.of rfl) rfl ?_
    refine wp_call_H Tryz.f123 rfl rfl Tryz.func123 (by kernel_rfl) rfl rfl (val_H (v := .int .i64 c) H ((addrCell_c a ha1 ha2 _).mono fun _ _ ⟨he, K⟩ => ⟨by rw [he, HC.out], K⟩)) ?_
    clear H
    rintro _ w ⟨rfl, H⟩
    refine ⟨fun _ => ⟨H.rw_ (by repeat constructor), H.rw_ (by repeat constructor), H.rw_ (by repeat constructor)⟩, ?_⟩
    (try go_frame)
    refine anyL_1 (i := 7) (by kernel_rfl) ?_
    refine wpOp_at rfl (.of rfl) rfl ?_
    refine wp_call_H Tryz.f122 rfl rfl Tryz.func122 (by kernel_rfl) rfl rfl (made_H (val := fun q : Sl (Sl Int) => .slice q.A q.xs.length q.c) H ((withCell_c B.mem pg c x.a _ (R.mem.at_ H) (fun x hx => (R.memi x hx).at_ H) Z.mem Z.memi))) ?_
    clear H
    rintro _ w ⟨q, rfl, HQ, H⟩
    refine ⟨fun _ => ⟨H.rw_ (by repeat constructor), H.rw_ (by repeat constructor), H.rw_ (by repeat constructor)⟩, ?_⟩
    (try go_frame)
    refine tkL (i := 8) rfl (.of rfl) (yields_val (v := .pointer (some ⟨bB, 0, none⟩)) rfl (fun _ => by go_simp)) ⟨H.rw_ (by repeat constructor), H.rw_ (by repeat constructor), H.rw_ (by repeat constructor)⟩ ?_
    (try go_frame)
    refine anyL_1 (i := 9) (by kernel_rfl) ?_
    refine wpOp_at rfl (.of rfl) rfl ?_
    refine wp_store_H rfl H rfl rfl (by repeat constructor) ?_
    clear H
    intro w H
    refine ⟨fun hw => absurd rfl hw, ?_⟩
    (try go_frame)
    refine anyL_done (by kernel_rfl) ?_ _
    exact ⟨rfl, q, (by show _ = _; rw [HQ.out]), H.pick (.cons (by repeat constructor) (.cons (by repeat constructor) (.cons (by repeat constructor) (.cons (by repeat constructor) (.cons (by repeat constructor) (.cons (by repeat constructor) (.cons (by repeat constructor) .nil))))))), by first | (simp only [puts_cons, puts_nil, Act.put, List.setIfInBounds_toArray, List.set_cons_succ, List.set_cons_zero]; done) | (simp only [puts_cons, puts_nil, Act.put, List.setIfInBounds_toArray, List.set_cons_succ, List.set_cons_zero]; rfl)⟩
  clear H
  rintro u w ⟨q, HQ, H, rfl⟩
  simp only [puts_cons, puts_nil, Act.put, List.setIfInBounds_toArray, List.set_cons_succ, List.set_cons_zero]
  have HB2 : Hid ((⟨q, B.gs, B.outs, B.pend⟩ : BV).m = { B.m with memory := withCellM B.m.memory pg c (gAtM B.m g).a }) := by
    show _ = _
    have h : x.a = (gAtM B.m g).a := congrArg MG.a HX.out
    rw [h] at HQ
    show (⟨q.xs.map (fun x => x.xs), gsOf B.gs, B.outs.xs, B.pend⟩ : MB) = _
    rw [HQ.out]; rfl
  have ZQ : BBig (⟨q, B.gs, B.outs, B.pend⟩ : BV) := by unfold BBig; rw [HB2.out]; show MB.size _ ≤ _; rw [stS_size]; exact Z
  go_wp2_with (first
    | go_skip
    | ((with_reducible refine at_box ?_); first | (refine wpList_box_H rfl rfl H rfl (by constructor) ?_; clear H; intro b w H))
    | ((with_reducible refine at_alloc ?_); first | (refine wpList_alloc_H rfl rfl H ?_; clear H; intro b w H))
    | ((with_reducible refine at_load ?_); first | (refine wpList_load_H rfl rfl H rfl (by repeat constructor) ?_) | (refine wpList_loads_H rfl rfl H rfl (by repeat constructor) ?_))
    | ((with_reducible refine at_store ?_); first | (refine wpList_store_H rfl rfl H rfl rfl (by repeat constructor) ?_; clear H; intro w H)))
  refine wp_cut (fun u a' w' => ∃ (y : GV) (d : BV), Hid (d.m = withGuestM { B.m with memory := withCellM B.m.memory pg c (gAtM B.m g).a } g (movedM (gAtM B.m g))) ∧ Hp W0 w' [.box bR 28 (barr d).toList, .bare d] ∧ a' = puts u [(95, (⟨q, B.gs, B.outs, B.pend⟩ : BV).val), (96, (.int .i64 g)), (97, x.val), (98, y.val), (99, d.val), (5, (.bool true))]) ?_ ?_
  · refine wp_region_held (S := (fun w' => Rw w' bB 28 (barr (⟨q, B.gs, B.outs, B.pend⟩ : BV)) ∧ Rw w' bX 53 (garr x) ∧ Rw w' bI 45 ([.int .i64 i.op, .int .i64 i.x] : List Value).toArray)) (by kernel_rfl) ?_
    replace H := H.drew
    refine tkH (i := 0) rfl .here (yields_loads_R rfl rfl rfl (fun _ hS => hS.1) (by repeat constructor)) ⟨H.rw_ (by repeat constructor), H.rw_ (by repeat constructor), H.rw_ (by repeat constructor)⟩ ?_
    (try go_frame)
    refine tkH (i := 1) rfl (.of rfl) (yields_val (v := (.int .i64 g)) rfl (fun _ => by go_simp)) ⟨H.rw_ (by repeat constructor), H.rw_ (by repeat constructor), H.rw_ (by repeat constructor)⟩ ?_
    (try go_frame)
    refine tkH (i := 2) rfl (.of rfl) (yields_loads_R rfl rfl rfl (fun _ hS => hS.2.1) (by repeat constructor)) ⟨H.rw_ (by repeat constructor), H.rw_ (by repeat constructor), H.rw_ (by repeat constructor)⟩ ?_
    (try go_frame)
    refine anyH_1 (i := 3) (by kernel_rfl) ?_
    refine wpOp_at rfl (.of rfl) rfl ?_
    refine wp_call_H Tryz.f124 rfl rfl Tryz.func124 (by kernel_rfl) rfl rfl (made_H H ((stored_c x _ rfl _ (H.grd1 (g := x) (by repeat constructor)) ZX).mono fun _ _ h => mkgS h)) ?_
    clear H
    rintro _ w ⟨y, rfl, HY, H⟩
    have zy : GBig y := gbig_mm (m := movedM x.m) (show MBig _ from GBig.m ZX) HY
    refine ⟨⟨H.rw_ (by repeat constructor), H.rw_ (by repeat constructor), H.rw_ (by repeat constructor)⟩, ?_⟩
    (try go_frame)
    refine anyH_1 (i := 4) (by kernel_rfl) ?_
    refine wpOp_at rfl (.of rfl) rfl ?_
    refine wp_call_H Tryz.f38 rfl rfl Tryz.func38 (by kernel_rfl) rfl rfl (made_H H (withGuest_c (⟨q, B.gs, B.outs, B.pend⟩ : BV) g y _ ⟨H.rdrows (s := q) (by repeat constructor), H.rdmany (by repeat constructor), R.gs.at_ H, fun x hx => (R.gsi x hx).at_ H, R.outs.at_ H⟩ ZQ (H.grd1 (g := y) (by repeat constructor)) zy)) ?_
    clear H
    rintro _ w ⟨d, rfl, HD, H⟩
    refine ⟨⟨H.rw_ (by repeat constructor), H.rw_ (by repeat constructor), H.rw_ (by repeat constructor)⟩, ?_⟩
    (try go_frame)
    refine anyH_1 (i := 5) (by kernel_rfl) ?_
    refine wpOp_at rfl (.of rfl) rfl ?_
    refine wp_store_H rfl H rfl rfl (by repeat constructor) ?_
    clear H
    intro w H
    refine ⟨⟨H.rw_ (by repeat constructor), H.rw_ (by repeat constructor), H.rw_ (by repeat constructor)⟩, ?_⟩
    (try go_frame)
    refine tkH (i := 6) rfl (.of rfl) (yields_val (v := (.bool true)) rfl (fun _ => by go_simp)) ⟨H.rw_ (by repeat constructor), H.rw_ (by repeat constructor), H.rw_ (by repeat constructor)⟩ ?_
    (try go_frame)
    refine wpAnyH_done (by kernel_rfl) ?_ _
    exact ⟨rfl, y, d, (by show _ = _; rw [HD.out, HY.out, HX.out, HB2.out]), H.pick (.cons (by repeat constructor) (.cons (by repeat constructor) .nil)), by first | (simp only [puts_cons, puts_nil, Act.put, List.setIfInBounds_toArray, List.set_cons_succ, List.set_cons_zero]; done) | (simp only [puts_cons, puts_nil, Act.put, List.setIfInBounds_toArray, List.set_cons_succ, List.set_cons_zero]; rfl)⟩
  clear H
  rintro u w ⟨y, d, HD, H, rfl⟩
  simp only [puts_cons, puts_nil, Act.put, List.setIfInBounds_toArray, List.set_cons_succ, List.set_cons_zero]
  go_wp2_with (first
    | go_skip
    | ((with_reducible refine at_box ?_); first | (refine wpList_box_H rfl rfl H rfl (by constructor) ?_; clear H; intro b w H))
    | ((with_reducible refine at_alloc ?_); first | (refine wpList_alloc_H rfl rfl H ?_; clear H; intro b w H))
    | ((with_reducible refine at_load ?_); first | (refine wpList_load_H rfl rfl H rfl (by repeat constructor) ?_) | (refine wpList_loads_H rfl rfl H rfl (by repeat constructor) ?_))
    | ((with_reducible refine at_store ?_); first | (refine wpList_store_H rfl rfl H rfl rfl (by repeat constructor) ?_; clear H; intro w H)))
  refine bodyPost_ret (results_H2 rfl H rfl (by repeat constructor)) rfl ⟨d, rfl, HD.out, H.pick (.cons (by repeat constructor) .nil)⟩
set_option maxRecDepth 100000 in
set_option maxHeartbeats 4000000 in
theorem bareStep_5t (B : BV) (g : Int) (e1 : bareOkM B.m = true) (e2 : hasM B.m g = true) (hw : wantM (gAtM B.m g) = 5) (ht : hasTrapM (gAtM B.m g).ctl.traps 1 = true) (W0 : World) (R : BRd W0 B) (Z : BBig B) : Calls Tryz.prog 24 #[B.val, .int .i64 g] W0 fun e w' => ∃ d : BV, e = .returned (.tuple #[d.val, .bool true]) ∧ d.m = withGuestM B.m g (stoppedM (gAtM B.m g) ⟨3, 0, false, (insAtM (gAtM B.m g).prog (gAtM B.m g).pc).x⟩) ∧ Hp W0 w' [.bare d] := by
  obtain ⟨a, ha⟩ : ∃ a, a = addrM (gAtM B.m g) := ⟨_, rfl⟩
  have HA : Hid (addrM (gAtM B.m g) = a) := ha.symm
  clear ha
  obtain ⟨i, hi⟩ : ∃ i, i = insAtM (gAtM B.m g).prog (gAtM B.m g).pc := ⟨_, rfl⟩
  have HI : Hid (insAtM (gAtM B.m g).prog (gAtM B.m g).pc = i) := hi.symm
  clear hi
  have ZM : B.m.size ≤ 4194304 := Z
  have ew := Lib.hid hw; clear hw
  have H := Hp.start W0
  go_enter Tryz.func24, Tryz.ntmps24
  go_wp2_with (first
    | go_skip
    | ((with_reducible refine at_box ?_); first | (refine wpList_box_H (cs := (barr B).toList) rfl rfl H rfl CellsOf.agg ?_; clear H; intro bB w H) | (refine wpList_box_H rfl rfl H rfl (by constructor) ?_; clear H; intro b w H))
    | ((with_reducible refine at_alloc ?_); first | ((with_reducible refine at_dst 4 ?_); refine wpList_alloc_H rfl rfl H ?_; clear H; intro bR w H) | ((with_reducible refine at_dst 6 ?_); refine wpList_alloc_H rfl rfl H ?_; clear H; intro bX w H) | ((with_reducible refine at_dst 10 ?_); refine wpList_alloc_H rfl rfl H ?_; clear H; intro bI w H) | (refine wpList_alloc_H rfl rfl H ?_; clear H; intro b w H))
    | ((with_reducible refine at_load ?_); first | (refine wpList_load_H rfl rfl H rfl (by repeat constructor) ?_) | (refine wpList_loads_H rfl rfl H rfl (by repeat constructor) ?_))
    | ((with_reducible refine at_store ?_); first | (refine wpList_store_H rfl rfl H rfl rfl (by repeat constructor) ?_; clear H; intro w H))
    | (go_at_call 40; refine (guestAt_c B g _ (R.at_ H) Z).mono ?_; rintro e w ⟨x, he, x1, K⟩; rw [e2] at he; subst he; have HX := Lib.hid x1; clear x1; have ZX : GBig x := size_big HX.out (Nat.le_trans (gAtM_size _ _) ZM); replace H := H.add_all K; clear K)
    | (go_at_call 112; refine (wantOf_any x _ (H.grd1 (g := x) (by repeat constructor)).prog ZX.1).mono ?_; rintro e w ⟨he, hb⟩; rw [HX.out, ew.out] at he; subst he; replace H := H.still hb; clear hb)
    | (go_at_call 50; refine (bareOk_c B _ (R.at_ H) Z).mono ?_; rintro e w ⟨he, K⟩; rw [e1] at he; subst he; replace H := H.add_all K; clear K)
    | (go_at_call 114; refine (address_any x _ (H.grd1 (g := x) (by repeat constructor)).prog ZX.1).mono ?_; rintro e w ⟨he, hb⟩; rw [HX.out, HA.out] at he; subst he; replace H := H.still hb; clear hb)
    | (go_at_call 115; refine (insAt_c x.prog x.pc _ (H.grd1 (g := x) (by repeat constructor)).prog ZX.1 i (by rw [← HI.out, ← HX.out]; rfl)).mono ?_; rintro e w ⟨rfl, hb⟩; replace H := H.still hb; clear hb))
  have HTT : x.ctl.traps = (gAtM B.m g).ctl.traps := ctl_traps HX
  rw [← HTT] at ht
  have HT := Lib.hid ht
  clear ht HTT
  refine wp_cut (fun u a' w' => ∃ (_ : Unit), Hp W0 w' [.box bB 28 (barr B).toList, .box bX 53 (garr x).toList, .box bI 45 [.int .i64 i.op, .int .i64 i.x], .gst x, .box bR 28 [.slice none 0 0, .slice none 0 0, .slice none 0 0, .int .i64 0]] ∧ a' = puts u [(122, .pointer (some ⟨bX, 5, none⟩)), (123, .pointer (some ⟨bX, 5, none⟩)), (124, (.int .i64 x.ctl.traps)), (125, (.int .i64 5)), (126, (.int .i64 1)), (127, (.bool true)), (121, (.bool true))]) ?_ ?_
  · refine wp_region_held (S := (fun w' => Rw w' bB 28 (barr B) ∧ Rw w' bX 53 (garr x) ∧ Rw w' bI 45 ([.int .i64 i.op, .int .i64 i.x] : List Value).toArray)) (by kernel_rfl) ?_
    replace H := H.drew
    refine tkH (i := 0) rfl .here (yields_val (v := .pointer (some ⟨bX, 5, none⟩)) rfl (fun _ => by go_simp)) ⟨H.rw_ (by repeat constructor), H.rw_ (by repeat constructor), H.rw_ (by repeat constructor)⟩ ?_
    (try go_frame)
    refine tkH (i := 1) rfl (.of rfl) (yields_val (v := .pointer (some ⟨bX, 5, none⟩)) rfl (fun _ => by go_simp)) ⟨H.rw_ (by repeat constructor), H.rw_ (by repeat constructor), H.rw_ (by repeat constructor)⟩ ?_
    (try go_frame)
    refine tkH (i := 2) rfl (.of rfl) (yields_load1_R rfl rfl rfl (fun _ hS => hS.2.1) rfl) ⟨H.rw_ (by repeat constructor), H.rw_ (by repeat constructor), H.rw_ (by repeat constructor)⟩ ?_
    (try go_frame)
    refine tkH (i := 3) rfl (.of rfl) (yields_val (v := (.int .i64 5)) rfl (fun _ => by go_simp)) ⟨H.rw_ (by repeat constructor), H.rw_ (by repeat constructor), H.rw_ (by repeat constructor)⟩ ?_
    (try go_frame)
    refine anyH_1 (i := 4) (by kernel_rfl) ?_
    refine wpOp_at rfl (.of rfl) rfl ?_
    refine wp_call_H Tryz.f129 rfl rfl Tryz.func129 (by kernel_rfl) rfl rfl (val_H (v := .int .i64 1) H (trapOf_5 _)) ?_
    clear H
    rintro _ w ⟨rfl, H⟩
    refine ⟨⟨H.rw_ (by repeat constructor), H.rw_ (by repeat constructor), H.rw_ (by repeat constructor)⟩, ?_⟩
    (try go_frame)
    refine anyH_1 (i := 5) (by kernel_rfl) ?_
    refine wpOp_at rfl (.of rfl) rfl ?_
    refine wp_call_H Tryz.f128 rfl rfl Tryz.func128 (by kernel_rfl) rfl rfl (val_H (v := .bool true) H ((hasTrap_c x.ctl.traps 1 (by decide) _).mono fun _ _ ⟨he, K⟩ => ⟨by rw [he, HT.out], K⟩)) ?_
    clear H
    rintro _ w ⟨rfl, H⟩
    refine ⟨⟨H.rw_ (by repeat constructor), H.rw_ (by repeat constructor), H.rw_ (by repeat constructor)⟩, ?_⟩
    (try go_frame)
    refine tkH (i := 6) rfl (.of rfl) (yields_val (v := (.bool true)) rfl (fun _ => by go_simp)) ⟨H.rw_ (by repeat constructor), H.rw_ (by repeat constructor), H.rw_ (by repeat constructor)⟩ ?_
    (try go_frame)
    refine wpAnyH_done (by kernel_rfl) ?_ _
    exact ⟨rfl, (), H.pick (.cons (by repeat constructor) (.cons (by repeat constructor) (.cons (by repeat constructor) (.cons (by repeat constructor) (.cons (by repeat constructor) .nil))))), by first | (simp only [puts_cons, puts_nil, Act.put, List.setIfInBounds_toArray, List.set_cons_succ, List.set_cons_zero]; done) | (simp only [puts_cons, puts_nil, Act.put, List.setIfInBounds_toArray, List.set_cons_succ, List.set_cons_zero]; rfl)⟩
  clear H
  rintro u w ⟨_, H, rfl⟩
  simp only [puts_cons, puts_nil, Act.put, List.setIfInBounds_toArray, List.set_cons_succ, List.set_cons_zero]
  go_wp2_with (first
    | go_skip
    | ((with_reducible refine at_box ?_); first | (refine wpList_box_H rfl rfl H rfl (by constructor) ?_; clear H; intro b w H))
    | ((with_reducible refine at_alloc ?_); first | (refine wpList_alloc_H rfl rfl H ?_; clear H; intro b w H))
    | ((with_reducible refine at_load ?_); first | (refine wpList_load_H rfl rfl H rfl (by repeat constructor) ?_) | (refine wpList_loads_H rfl rfl H rfl (by repeat constructor) ?_))
    | ((with_reducible refine at_store ?_); first | (refine wpList_store_H rfl rfl H rfl rfl (by repeat constructor) ?_; clear H; intro w H)))
  refine wp_cut (fun u a' w' => ∃ (y : GV) (d : BV), Hid (d.m = withGuestM B.m g (stoppedM (gAtM B.m g) ⟨3, 0, false, (insAtM (gAtM B.m g).prog (gAtM B.m g).pc).x⟩)) ∧ Hp W0 w' [.box bR 28 (barr d).toList, .bare d] ∧ a' = puts u [(128, B.val), (129, (.int .i64 g)), (130, x.val), (131, (.int .i64 5)), (132, y.val), (133, d.val), (5, (.bool true))]) ?_ ?_
  · refine wp_region_held (S := (fun w' => Rw w' bB 28 (barr B) ∧ Rw w' bX 53 (garr x) ∧ Rw w' bI 45 ([.int .i64 i.op, .int .i64 i.x] : List Value).toArray)) (by kernel_rfl) ?_
    replace H := H.drew
    refine tkH (i := 0) rfl .here (yields_loads_R rfl rfl rfl (fun _ hS => hS.1) (by repeat constructor)) ⟨H.rw_ (by repeat constructor), H.rw_ (by repeat constructor), H.rw_ (by repeat constructor)⟩ ?_
    (try go_frame)
    refine tkH (i := 1) rfl (.of rfl) (yields_val (v := (.int .i64 g)) rfl (fun _ => by go_simp)) ⟨H.rw_ (by repeat constructor), H.rw_ (by repeat constructor), H.rw_ (by repeat constructor)⟩ ?_
    (try go_frame)
    refine tkH (i := 2) rfl (.of rfl) (yields_loads_R rfl rfl rfl (fun _ hS => hS.2.1) (by repeat constructor)) ⟨H.rw_ (by repeat constructor), H.rw_ (by repeat constructor), H.rw_ (by repeat constructor)⟩ ?_
    (try go_frame)
    refine tkH (i := 3) rfl (.of rfl) (yields_val (v := (.int .i64 5)) rfl (fun _ => by go_simp)) ⟨H.rw_ (by repeat constructor), H.rw_ (by repeat constructor), H.rw_ (by repeat constructor)⟩ ?_
    (try go_frame)
    refine anyH_1 (i := 4) (by kernel_rfl) ?_
    refine wpOp_at rfl (.of rfl) rfl ?_
    refine wp_call_H Tryz.f130 rfl rfl Tryz.func130 (by kernel_rfl) rfl rfl (made_H H (trapped_5 x _ (H.grd1 (g := x) (by repeat constructor)) ZX)) ?_
    clear H
    rintro _ w ⟨y, rfl, HY, H⟩
    have zy : GBig y := gbig_mm (m := stoppedM x.m ⟨3, 0, false, (insAtM x.m.prog x.m.pc).x⟩) (show MBig _ from GBig.m ZX) HY
    refine ⟨⟨H.rw_ (by repeat constructor), H.rw_ (by repeat constructor), H.rw_ (by repeat constructor)⟩, ?_⟩
    (try go_frame)
    refine anyH_1 (i := 5) (by kernel_rfl) ?_
    refine wpOp_at rfl (.of rfl) rfl ?_
    refine wp_call_H Tryz.f38 rfl rfl Tryz.func38 (by kernel_rfl) rfl rfl (made_H H (withGuest_c B g y _ (R.at_ H) Z (H.grd1 (g := y) (by repeat constructor)) zy)) ?_
    clear H
    rintro _ w ⟨d, rfl, HD, H⟩
    refine ⟨⟨H.rw_ (by repeat constructor), H.rw_ (by repeat constructor), H.rw_ (by repeat constructor)⟩, ?_⟩
    (try go_frame)
    refine anyH_1 (i := 6) (by kernel_rfl) ?_
    refine wpOp_at rfl (.of rfl) rfl ?_
    refine wp_store_H rfl H rfl rfl (by repeat constructor) ?_
    clear H
    intro w H
    refine ⟨⟨H.rw_ (by repeat constructor), H.rw_ (by repeat constructor), H.rw_ (by repeat constructor)⟩, ?_⟩
    (try go_frame)
    refine tkH (i := 7) rfl (.of rfl) (yields_val (v := (.bool true)) rfl (fun _ => by go_simp)) ⟨H.rw_ (by repeat constructor), H.rw_ (by repeat constructor), H.rw_ (by repeat constructor)⟩ ?_
    (try go_frame)
    refine wpAnyH_done (by kernel_rfl) ?_ _
    exact ⟨rfl, y, d, (by show _ = _; rw [HD.out, HY.out, HX.out]), H.pick (.cons (by repeat constructor) (.cons (by repeat constructor) .nil)), by first | (simp only [puts_cons, puts_nil, Act.put, List.setIfInBounds_toArray, List.set_cons_succ, List.set_cons_zero]; done) | (simp only [puts_cons, puts_nil, Act.put, List.setIfInBounds_toArray, List.set_cons_succ, List.set_cons_zero]; rfl)⟩
  clear H
  rintro u w ⟨y, d, HD, H, rfl⟩
  simp only [puts_cons, puts_nil, Act.put, List.setIfInBounds_toArray, List.set_cons_succ, List.set_cons_zero]
  go_wp2_with (first
    | go_skip
    | ((with_reducible refine at_box ?_); first | (refine wpList_box_H rfl rfl H rfl (by constructor) ?_; clear H; intro b w H))
    | ((with_reducible refine at_alloc ?_); first | (refine wpList_alloc_H rfl rfl H ?_; clear H; intro b w H))
    | ((with_reducible refine at_load ?_); first | (refine wpList_load_H rfl rfl H rfl (by repeat constructor) ?_) | (refine wpList_loads_H rfl rfl H rfl (by repeat constructor) ?_))
    | ((with_reducible refine at_store ?_); first | (refine wpList_store_H rfl rfl H rfl rfl (by repeat constructor) ?_; clear H; intro w H)))
  refine bodyPost_ret (results_H2 rfl H rfl (by repeat constructor)) rfl ⟨d, rfl, HD.out, H.pick (.cons (by repeat constructor) .nil)⟩
set_option maxRecDepth 100000 in
set_option maxHeartbeats 4000000 in
theorem bareStep_7t (B : BV) (g : Int) (e1 : bareOkM B.m = true) (e2 : hasM B.m g = true) (hw : wantM (gAtM B.m g) = 7) (ht : hasTrapM (gAtM B.m g).ctl.traps 2 = true) (W0 : World) (R : BRd W0 B) (Z : BBig B) : Calls Tryz.prog 24 #[B.val, .int .i64 g] W0 fun e w' => ∃ d : BV, e = .returned (.tuple #[d.val, .bool true]) ∧ d.m = withGuestM B.m g (stoppedM (gAtM B.m g) ⟨4, 0, false, 0⟩) ∧ Hp W0 w' [.bare d] := by
  obtain ⟨a, ha⟩ : ∃ a, a = addrM (gAtM B.m g) := ⟨_, rfl⟩
  have HA : Hid (addrM (gAtM B.m g) = a) := ha.symm
  clear ha
  obtain ⟨i, hi⟩ : ∃ i, i = insAtM (gAtM B.m g).prog (gAtM B.m g).pc := ⟨_, rfl⟩
  have HI : Hid (insAtM (gAtM B.m g).prog (gAtM B.m g).pc = i) := hi.symm
  clear hi
  have ZM : B.m.size ≤ 4194304 := Z
  have ew := Lib.hid hw; clear hw
  have H := Hp.start W0
  go_enter Tryz.func24, Tryz.ntmps24
  go_wp2_with (first
    | go_skip
    | ((with_reducible refine at_box ?_); first | (refine wpList_box_H (cs := (barr B).toList) rfl rfl H rfl CellsOf.agg ?_; clear H; intro bB w H) | (refine wpList_box_H rfl rfl H rfl (by constructor) ?_; clear H; intro b w H))
    | ((with_reducible refine at_alloc ?_); first | ((with_reducible refine at_dst 4 ?_); refine wpList_alloc_H rfl rfl H ?_; clear H; intro bR w H) | ((with_reducible refine at_dst 6 ?_); refine wpList_alloc_H rfl rfl H ?_; clear H; intro bX w H) | ((with_reducible refine at_dst 10 ?_); refine wpList_alloc_H rfl rfl H ?_; clear H; intro bI w H) | (refine wpList_alloc_H rfl rfl H ?_; clear H; intro b w H))
    | ((with_reducible refine at_load ?_); first | (refine wpList_load_H rfl rfl H rfl (by repeat constructor) ?_) | (refine wpList_loads_H rfl rfl H rfl (by repeat constructor) ?_))
    | ((with_reducible refine at_store ?_); first | (refine wpList_store_H rfl rfl H rfl rfl (by repeat constructor) ?_; clear H; intro w H))
    | (go_at_call 40; refine (guestAt_c B g _ (R.at_ H) Z).mono ?_; rintro e w ⟨x, he, x1, K⟩; rw [e2] at he; subst he; have HX := Lib.hid x1; clear x1; have ZX : GBig x := size_big HX.out (Nat.le_trans (gAtM_size _ _) ZM); replace H := H.add_all K; clear K)
    | (go_at_call 112; refine (wantOf_any x _ (H.grd1 (g := x) (by repeat constructor)).prog ZX.1).mono ?_; rintro e w ⟨he, hb⟩; rw [HX.out, ew.out] at he; subst he; replace H := H.still hb; clear hb)
    | (go_at_call 50; refine (bareOk_c B _ (R.at_ H) Z).mono ?_; rintro e w ⟨he, K⟩; rw [e1] at he; subst he; replace H := H.add_all K; clear K)
    | (go_at_call 114; refine (address_any x _ (H.grd1 (g := x) (by repeat constructor)).prog ZX.1).mono ?_; rintro e w ⟨he, hb⟩; rw [HX.out, HA.out] at he; subst he; replace H := H.still hb; clear hb)
    | (go_at_call 115; refine (insAt_c x.prog x.pc _ (H.grd1 (g := x) (by repeat constructor)).prog ZX.1 i (by rw [← HI.out, ← HX.out]; rfl)).mono ?_; rintro e w ⟨rfl, hb⟩; replace H := H.still hb; clear hb))
  have HTT : x.ctl.traps = (gAtM B.m g).ctl.traps := ctl_traps HX
  rw [← HTT] at ht
  have HT := Lib.hid ht
  clear ht HTT
  refine wp_cut (fun u a' w' => ∃ (_ : Unit), Hp W0 w' [.box bB 28 (barr B).toList, .box bX 53 (garr x).toList, .box bI 45 [.int .i64 i.op, .int .i64 i.x], .gst x, .box bR 28 [.slice none 0 0, .slice none 0 0, .slice none 0 0, .int .i64 0]] ∧ a' = puts u [(122, .pointer (some ⟨bX, 5, none⟩)), (123, .pointer (some ⟨bX, 5, none⟩)), (124, (.int .i64 x.ctl.traps)), (125, (.int .i64 7)), (126, (.int .i64 2)), (127, (.bool true)), (121, (.bool true))]) ?_ ?_
  · refine wp_region_held (S := (fun w' => Rw w' bB 28 (barr B) ∧ Rw w' bX 53 (garr x) ∧ Rw w' bI 45 ([.int .i64 i.op, .int .i64 i.x] : List Value).toArray)) (by kernel_rfl) ?_
    replace H := H.drew
    refine tkH (i := 0) rfl .here (yields_val (v := .pointer (some ⟨bX, 5, none⟩)) rfl (fun _ => by go_simp)) ⟨H.rw_ (by repeat constructor), H.rw_ (by repeat constructor), H.rw_ (by repeat constructor)⟩ ?_
    (try go_frame)
    refine tkH (i := 1) rfl (.of rfl) (yields_val (v := .pointer (some ⟨bX, 5, none⟩)) rfl (fun _ => by go_simp)) ⟨H.rw_ (by repeat constructor), H.rw_ (by repeat constructor), H.rw_ (by repeat constructor)⟩ ?_
    (try go_frame)
    refine tkH (i := 2) rfl (.of rfl) (yields_load1_R rfl rfl rfl (fun _ hS => hS.2.1) rfl) ⟨H.rw_ (by repeat constructor), H.rw_ (by repeat constructor), H.rw_ (by repeat constructor)⟩ ?_
    (try go_frame)
    refine tkH (i := 3) rfl (.of rfl) (yields_val (v := (.int .i64 7)) rfl (fun _ => by go_simp)) ⟨H.rw_ (by repeat constructor), H.rw_ (by repeat constructor), H.rw_ (by repeat constructor)⟩ ?_
    (try go_frame)
    refine anyH_1 (i := 4) (by kernel_rfl) ?_
    refine wpOp_at rfl (.of rfl) rfl ?_
    refine wp_call_H Tryz.f129 rfl rfl Tryz.func129 (by kernel_rfl) rfl rfl (val_H (v := .int .i64 2) H (trapOf_7 _)) ?_
    clear H
    rintro _ w ⟨rfl, H⟩
    refine ⟨⟨H.rw_ (by repeat constructor), H.rw_ (by repeat constructor), H.rw_ (by repeat constructor)⟩, ?_⟩
    (try go_frame)
    refine anyH_1 (i := 5) (by kernel_rfl) ?_
    refine wpOp_at rfl (.of rfl) rfl ?_
    refine wp_call_H Tryz.f128 rfl rfl Tryz.func128 (by kernel_rfl) rfl rfl (val_H (v := .bool true) H ((hasTrap_c x.ctl.traps 2 (by decide) _).mono fun _ _ ⟨he, K⟩ => ⟨by rw [he, HT.out], K⟩)) ?_
    clear H
    rintro _ w ⟨rfl, H⟩
    refine ⟨⟨H.rw_ (by repeat constructor), H.rw_ (by repeat constructor), H.rw_ (by repeat constructor)⟩, ?_⟩
    (try go_frame)
    refine tkH (i := 6) rfl (.of rfl) (yields_val (v := (.bool true)) rfl (fun _ => by go_simp)) ⟨H.rw_ (by repeat constructor), H.rw_ (by repeat constructor), H.rw_ (by repeat constructor)⟩ ?_
    (try go_frame)
    refine wpAnyH_done (by kernel_rfl) ?_ _
    exact ⟨rfl, (), H.pick (.cons (by repeat constructor) (.cons (by repeat constructor) (.cons (by repeat constructor) (.cons (by repeat constructor) (.cons (by repeat constructor) .nil))))), by first | (simp only [puts_cons, puts_nil, Act.put, List.setIfInBounds_toArray, List.set_cons_succ, List.set_cons_zero]; done) | (simp only [puts_cons, puts_nil, Act.put, List.setIfInBounds_toArray, List.set_cons_succ, List.set_cons_zero]; rfl)⟩
  clear H
  rintro u w ⟨_, H, rfl⟩
  simp only [puts_cons, puts_nil, Act.put, List.setIfInBounds_toArray, List.set_cons_succ, List.set_cons_zero]
  go_wp2_with (first
    | go_skip
    | ((with_reducible refine at_box ?_); first | (refine wpList_box_H rfl rfl H rfl (by constructor) ?_; clear H; intro b w H))
    | ((with_reducible refine at_alloc ?_); first | (refine wpList_alloc_H rfl rfl H ?_; clear H; intro b w H))
    | ((with_reducible refine at_load ?_); first | (refine wpList_load_H rfl rfl H rfl (by repeat constructor) ?_) | (refine wpList_loads_H rfl rfl H rfl (by repeat constructor) ?_))
    | ((with_reducible refine at_store ?_); first | (refine wpList_store_H rfl rfl H rfl rfl (by repeat constructor) ?_; clear H; intro w H)))
  refine wp_cut (fun u a' w' => ∃ (y : GV) (d : BV), Hid (d.m = withGuestM B.m g (stoppedM (gAtM B.m g) ⟨4, 0, false, 0⟩)) ∧ Hp W0 w' [.box bR 28 (barr d).toList, .bare d] ∧ a' = puts u [(128, B.val), (129, (.int .i64 g)), (130, x.val), (131, (.int .i64 7)), (132, y.val), (133, d.val), (5, (.bool true))]) ?_ ?_
  · refine wp_region_held (S := (fun w' => Rw w' bB 28 (barr B) ∧ Rw w' bX 53 (garr x) ∧ Rw w' bI 45 ([.int .i64 i.op, .int .i64 i.x] : List Value).toArray)) (by kernel_rfl) ?_
    replace H := H.drew
    refine tkH (i := 0) rfl .here (yields_loads_R rfl rfl rfl (fun _ hS => hS.1) (by repeat constructor)) ⟨H.rw_ (by repeat constructor), H.rw_ (by repeat constructor), H.rw_ (by repeat constructor)⟩ ?_
    (try go_frame)
    refine tkH (i := 1) rfl (.of rfl) (yields_val (v := (.int .i64 g)) rfl (fun _ => by go_simp)) ⟨H.rw_ (by repeat constructor), H.rw_ (by repeat constructor), H.rw_ (by repeat constructor)⟩ ?_
    (try go_frame)
    refine tkH (i := 2) rfl (.of rfl) (yields_loads_R rfl rfl rfl (fun _ hS => hS.2.1) (by repeat constructor)) ⟨H.rw_ (by repeat constructor), H.rw_ (by repeat constructor), H.rw_ (by repeat constructor)⟩ ?_
    (try go_frame)
    refine tkH (i := 3) rfl (.of rfl) (yields_val (v := (.int .i64 7)) rfl (fun _ => by go_simp)) ⟨H.rw_ (by repeat constructor), H.rw_ (by repeat constructor), H.rw_ (by repeat constructor)⟩ ?_
    (try go_frame)
    refine anyH_1 (i := 4) (by kernel_rfl) ?_
    refine wpOp_at rfl (.of rfl) rfl ?_
    refine wp_call_H Tryz.f130 rfl rfl Tryz.func130 (by kernel_rfl) rfl rfl (made_H H (trapped_7 x _ (H.grd1 (g := x) (by repeat constructor)) ZX)) ?_
    clear H
    rintro _ w ⟨y, rfl, HY, H⟩
    have zy : GBig y := gbig_mm (m := stoppedM x.m ⟨4, 0, false, 0⟩) (show MBig _ from GBig.m ZX) HY
    refine ⟨⟨H.rw_ (by repeat constructor), H.rw_ (by repeat constructor), H.rw_ (by repeat constructor)⟩, ?_⟩
    (try go_frame)
    refine anyH_1 (i := 5) (by kernel_rfl) ?_
    refine wpOp_at rfl (.of rfl) rfl ?_
    refine wp_call_H Tryz.f38 rfl rfl Tryz.func38 (by kernel_rfl) rfl rfl (made_H H (withGuest_c B g y _ (R.at_ H) Z (H.grd1 (g := y) (by repeat constructor)) zy)) ?_
    clear H
    rintro _ w ⟨d, rfl, HD, H⟩
    refine ⟨⟨H.rw_ (by repeat constructor), H.rw_ (by repeat constructor), H.rw_ (by repeat constructor)⟩, ?_⟩
    (try go_frame)
    refine anyH_1 (i := 6) (by kernel_rfl) ?_
    refine wpOp_at rfl (.of rfl) rfl ?_
    refine wp_store_H rfl H rfl rfl (by repeat constructor) ?_
    clear H
    intro w H
    refine ⟨⟨H.rw_ (by repeat constructor), H.rw_ (by repeat constructor), H.rw_ (by repeat constructor)⟩, ?_⟩
    (try go_frame)
    refine tkH (i := 7) rfl (.of rfl) (yields_val (v := (.bool true)) rfl (fun _ => by go_simp)) ⟨H.rw_ (by repeat constructor), H.rw_ (by repeat constructor), H.rw_ (by repeat constructor)⟩ ?_
    (try go_frame)
    refine wpAnyH_done (by kernel_rfl) ?_ _
    exact ⟨rfl, y, d, (by show _ = _; rw [HD.out, HY.out, HX.out]), H.pick (.cons (by repeat constructor) (.cons (by repeat constructor) .nil)), by first | (simp only [puts_cons, puts_nil, Act.put, List.setIfInBounds_toArray, List.set_cons_succ, List.set_cons_zero]; done) | (simp only [puts_cons, puts_nil, Act.put, List.setIfInBounds_toArray, List.set_cons_succ, List.set_cons_zero]; rfl)⟩
  clear H
  rintro u w ⟨y, d, HD, H, rfl⟩
  simp only [puts_cons, puts_nil, Act.put, List.setIfInBounds_toArray, List.set_cons_succ, List.set_cons_zero]
  go_wp2_with (first
    | go_skip
    | ((with_reducible refine at_box ?_); first | (refine wpList_box_H rfl rfl H rfl (by constructor) ?_; clear H; intro b w H))
    | ((with_reducible refine at_alloc ?_); first | (refine wpList_alloc_H rfl rfl H ?_; clear H; intro b w H))
    | ((with_reducible refine at_load ?_); first | (refine wpList_load_H rfl rfl H rfl (by repeat constructor) ?_) | (refine wpList_loads_H rfl rfl H rfl (by repeat constructor) ?_))
    | ((with_reducible refine at_store ?_); first | (refine wpList_store_H rfl rfl H rfl rfl (by repeat constructor) ?_; clear H; intro w H)))
  refine bodyPost_ret (results_H2 rfl H rfl (by repeat constructor)) rfl ⟨d, rfl, HD.out, H.pick (.cons (by repeat constructor) .nil)⟩
set_option maxRecDepth 100000 in
set_option maxHeartbeats 4000000 in
theorem bareStep_7f (B : BV) (g : Int) (e1 : bareOkM B.m = true) (e2 : hasM B.m g = true) (hw : wantM (gAtM B.m g) = 7) (ht : hasTrapM (gAtM B.m g).ctl.traps 2 = false) (W0 : World) (R : BRd W0 B) (Z : BBig B) : Calls Tryz.prog 24 #[B.val, .int .i64 g] W0 fun e w' => ∃ d : BV, e = .returned (.tuple #[d.val, .bool true]) ∧ d.m = withGuestM B.m g (heldM (gAtM B.m g)) ∧ Hp W0 w' [.bare d] := by
  obtain ⟨a, ha⟩ : ∃ a, a = addrM (gAtM B.m g) := ⟨_, rfl⟩
  have HA : Hid (addrM (gAtM B.m g) = a) := ha.symm
  clear ha
  obtain ⟨i, hi⟩ : ∃ i, i = insAtM (gAtM B.m g).prog (gAtM B.m g).pc := ⟨_, rfl⟩
  have HI : Hid (insAtM (gAtM B.m g).prog (gAtM B.m g).pc = i) := hi.symm
  clear hi
  have ZM : B.m.size ≤ 4194304 := Z
  have ew := Lib.hid hw; clear hw
  have H := Hp.start W0
  go_enter Tryz.func24, Tryz.ntmps24
  go_wp2_with (first
    | go_skip
    | ((with_reducible refine at_box ?_); first | (refine wpList_box_H (cs := (barr B).toList) rfl rfl H rfl CellsOf.agg ?_; clear H; intro bB w H) | (refine wpList_box_H rfl rfl H rfl (by constructor) ?_; clear H; intro b w H))
    | ((with_reducible refine at_alloc ?_); first | ((with_reducible refine at_dst 4 ?_); refine wpList_alloc_H rfl rfl H ?_; clear H; intro bR w H) | ((with_reducible refine at_dst 6 ?_); refine wpList_alloc_H rfl rfl H ?_; clear H; intro bX w H) | ((with_reducible refine at_dst 10 ?_); refine wpList_alloc_H rfl rfl H ?_; clear H; intro bI w H) | (refine wpList_alloc_H rfl rfl H ?_; clear H; intro b w H))
    | ((with_reducible refine at_load ?_); first | (refine wpList_load_H rfl rfl H rfl (by repeat constructor) ?_) | (refine wpList_loads_H rfl rfl H rfl (by repeat constructor) ?_))
    | ((with_reducible refine at_store ?_); first | (refine wpList_store_H rfl rfl H rfl rfl (by repeat constructor) ?_; clear H; intro w H))
    | (go_at_call 40; refine (guestAt_c B g _ (R.at_ H) Z).mono ?_; rintro e w ⟨x, he, x1, K⟩; rw [e2] at he; subst he; have HX := Lib.hid x1; clear x1; have ZX : GBig x := size_big HX.out (Nat.le_trans (gAtM_size _ _) ZM); replace H := H.add_all K; clear K)
    | (go_at_call 112; refine (wantOf_any x _ (H.grd1 (g := x) (by repeat constructor)).prog ZX.1).mono ?_; rintro e w ⟨he, hb⟩; rw [HX.out, ew.out] at he; subst he; replace H := H.still hb; clear hb)
    | (go_at_call 50; refine (bareOk_c B _ (R.at_ H) Z).mono ?_; rintro e w ⟨he, K⟩; rw [e1] at he; subst he; replace H := H.add_all K; clear K)
    | (go_at_call 114; refine (address_any x _ (H.grd1 (g := x) (by repeat constructor)).prog ZX.1).mono ?_; rintro e w ⟨he, hb⟩; rw [HX.out, HA.out] at he; subst he; replace H := H.still hb; clear hb)
    | (go_at_call 115; refine (insAt_c x.prog x.pc _ (H.grd1 (g := x) (by repeat constructor)).prog ZX.1 i (by rw [← HI.out, ← HX.out]; rfl)).mono ?_; rintro e w ⟨rfl, hb⟩; replace H := H.still hb; clear hb))
  have HTT : x.ctl.traps = (gAtM B.m g).ctl.traps := ctl_traps HX
  rw [← HTT] at ht
  have HT := Lib.hid ht
  clear ht HTT
  refine wp_cut (fun u a' w' => ∃ (_ : Unit), Hp W0 w' [.box bB 28 (barr B).toList, .box bX 53 (garr x).toList, .box bI 45 [.int .i64 i.op, .int .i64 i.x], .gst x, .box bR 28 [.slice none 0 0, .slice none 0 0, .slice none 0 0, .int .i64 0]] ∧ a' = puts u [(122, .pointer (some ⟨bX, 5, none⟩)), (123, .pointer (some ⟨bX, 5, none⟩)), (124, (.int .i64 x.ctl.traps)), (125, (.int .i64 7)), (126, (.int .i64 2)), (127, (.bool false)), (121, (.bool false))]) ?_ ?_
  · refine wp_region_held (S := (fun w' => Rw w' bB 28 (barr B) ∧ Rw w' bX 53 (garr x) ∧ Rw w' bI 45 ([.int .i64 i.op, .int .i64 i.x] : List Value).toArray)) (by kernel_rfl) ?_
    replace H := H.drew
    refine tkH (i := 0) rfl .here (yields_val (v := .pointer (some ⟨bX, 5, none⟩)) rfl (fun _ => by go_simp)) ⟨H.rw_ (by repeat constructor), H.rw_ (by repeat constructor), H.rw_ (by repeat constructor)⟩ ?_
    (try go_frame)
    refine tkH (i := 1) rfl (.of rfl) (yields_val (v := .pointer (some ⟨bX, 5, none⟩)) rfl (fun _ => by go_simp)) ⟨H.rw_ (by repeat constructor), H.rw_ (by repeat constructor), H.rw_ (by repeat constructor)⟩ ?_
    (try go_frame)
    refine tkH (i := 2) rfl (.of rfl) (yields_load1_R rfl rfl rfl (fun _ hS => hS.2.1) rfl) ⟨H.rw_ (by repeat constructor), H.rw_ (by repeat constructor), H.rw_ (by repeat constructor)⟩ ?_
    (try go_frame)
    refine tkH (i := 3) rfl (.of rfl) (yields_val (v := (.int .i64 7)) rfl (fun _ => by go_simp)) ⟨H.rw_ (by repeat constructor), H.rw_ (by repeat constructor), H.rw_ (by repeat constructor)⟩ ?_
    (try go_frame)
    refine anyH_1 (i := 4) (by kernel_rfl) ?_
    refine wpOp_at rfl (.of rfl) rfl ?_
    refine wp_call_H Tryz.f129 rfl rfl Tryz.func129 (by kernel_rfl) rfl rfl (val_H (v := .int .i64 2) H (trapOf_7 _)) ?_
    clear H
    rintro _ w ⟨rfl, H⟩
    refine ⟨⟨H.rw_ (by repeat constructor), H.rw_ (by repeat constructor), H.rw_ (by repeat constructor)⟩, ?_⟩
    (try go_frame)
    refine anyH_1 (i := 5) (by kernel_rfl) ?_
    refine wpOp_at rfl (.of rfl) rfl ?_
    refine wp_call_H Tryz.f128 rfl rfl Tryz.func128 (by kernel_rfl) rfl rfl (val_H (v := .bool false) H ((hasTrap_c x.ctl.traps 2 (by decide) _).mono fun _ _ ⟨he, K⟩ => ⟨by rw [he, HT.out], K⟩)) ?_
    clear H
    rintro _ w ⟨rfl, H⟩
    refine ⟨⟨H.rw_ (by repeat constructor), H.rw_ (by repeat constructor), H.rw_ (by repeat constructor)⟩, ?_⟩
    (try go_frame)
    refine tkH (i := 6) rfl (.of rfl) (yields_val (v := (.bool false)) rfl (fun _ => by go_simp)) ⟨H.rw_ (by repeat constructor), H.rw_ (by repeat constructor), H.rw_ (by repeat constructor)⟩ ?_
    (try go_frame)
    refine wpAnyH_done (by kernel_rfl) ?_ _
    exact ⟨rfl, (), H.pick (.cons (by repeat constructor) (.cons (by repeat constructor) (.cons (by repeat constructor) (.cons (by repeat constructor) (.cons (by repeat constructor) .nil))))), by first | (simp only [puts_cons, puts_nil, Act.put, List.setIfInBounds_toArray, List.set_cons_succ, List.set_cons_zero]; done) | (simp only [puts_cons, puts_nil, Act.put, List.setIfInBounds_toArray, List.set_cons_succ, List.set_cons_zero]; rfl)⟩
  clear H
  rintro u w ⟨_, H, rfl⟩
  simp only [puts_cons, puts_nil, Act.put, List.setIfInBounds_toArray, List.set_cons_succ, List.set_cons_zero]
  go_wp2_with (first
    | go_skip
    | ((with_reducible refine at_box ?_); first | (refine wpList_box_H rfl rfl H rfl (by constructor) ?_; clear H; intro b w H))
    | ((with_reducible refine at_alloc ?_); first | (refine wpList_alloc_H rfl rfl H ?_; clear H; intro b w H))
    | ((with_reducible refine at_load ?_); first | (refine wpList_load_H rfl rfl H rfl (by repeat constructor) ?_) | (refine wpList_loads_H rfl rfl H rfl (by repeat constructor) ?_))
    | ((with_reducible refine at_store ?_); first | (refine wpList_store_H rfl rfl H rfl rfl (by repeat constructor) ?_; clear H; intro w H)))
  refine wp_cut (fun u a' w' => ∃ (y : GV) (d : BV), Hid (d.m = withGuestM B.m g (heldM (gAtM B.m g))) ∧ Hp W0 w' [.box bR 28 (barr d).toList, .bare d] ∧ a' = puts u [(145, B.val), (146, (.int .i64 g)), (147, x.val), (148, y.val), (149, d.val), (5, (.bool true))]) ?_ ?_
  · refine wp_region_held (S := (fun w' => Rw w' bB 28 (barr B) ∧ Rw w' bX 53 (garr x) ∧ Rw w' bI 45 ([.int .i64 i.op, .int .i64 i.x] : List Value).toArray)) (by kernel_rfl) ?_
    replace H := H.drew
    refine tkH (i := 0) rfl .here (yields_loads_R rfl rfl rfl (fun _ hS => hS.1) (by repeat constructor)) ⟨H.rw_ (by repeat constructor), H.rw_ (by repeat constructor), H.rw_ (by repeat constructor)⟩ ?_
    (try go_frame)
    refine tkH (i := 1) rfl (.of rfl) (yields_val (v := (.int .i64 g)) rfl (fun _ => by go_simp)) ⟨H.rw_ (by repeat constructor), H.rw_ (by repeat constructor), H.rw_ (by repeat constructor)⟩ ?_
    (try go_frame)
    refine tkH (i := 2) rfl (.of rfl) (yields_loads_R rfl rfl rfl (fun _ hS => hS.2.1) (by repeat constructor)) ⟨H.rw_ (by repeat constructor), H.rw_ (by repeat constructor), H.rw_ (by repeat constructor)⟩ ?_
    (try go_frame)
    refine anyH_1 (i := 3) (by kernel_rfl) ?_
    refine wpOp_at rfl (.of rfl) rfl ?_
    refine wp_call_H Tryz.f82 rfl rfl Tryz.func82 (by kernel_rfl) rfl rfl (made_H H ((held_c x _ rfl _ (H.grd1 (g := x) (by repeat constructor)) ZX).mono fun _ _ h => mkgS h)) ?_
    clear H
    rintro _ w ⟨y, rfl, HY, H⟩
    have zy : GBig y := gbig_mm (m := heldM x.m) (show MBig _ from GBig.m ZX) HY
    refine ⟨⟨H.rw_ (by repeat constructor), H.rw_ (by repeat constructor), H.rw_ (by repeat constructor)⟩, ?_⟩
    (try go_frame)
    refine anyH_1 (i := 4) (by kernel_rfl) ?_
    refine wpOp_at rfl (.of rfl) rfl ?_
    refine wp_call_H Tryz.f38 rfl rfl Tryz.func38 (by kernel_rfl) rfl rfl (made_H H (withGuest_c B g y _ (R.at_ H) Z (H.grd1 (g := y) (by repeat constructor)) zy)) ?_
    clear H
    rintro _ w ⟨d, rfl, HD, H⟩
    refine ⟨⟨H.rw_ (by repeat constructor), H.rw_ (by repeat constructor), H.rw_ (by repeat constructor)⟩, ?_⟩
    (try go_frame)
    refine anyH_1 (i := 5) (by kernel_rfl) ?_
    refine wpOp_at rfl (.of rfl) rfl ?_
    refine wp_store_H rfl H rfl rfl (by repeat constructor) ?_
    clear H
    intro w H
    refine ⟨⟨H.rw_ (by repeat constructor), H.rw_ (by repeat constructor), H.rw_ (by repeat constructor)⟩, ?_⟩
    (try go_frame)
    refine tkH (i := 6) rfl (.of rfl) (yields_val (v := (.bool true)) rfl (fun _ => by go_simp)) ⟨H.rw_ (by repeat constructor), H.rw_ (by repeat constructor), H.rw_ (by repeat constructor)⟩ ?_
    (try go_frame)
    refine wpAnyH_done (by kernel_rfl) ?_ _
    exact ⟨rfl, y, d, (by show _ = _; rw [HD.out, HY.out, HX.out]), H.pick (.cons (by repeat constructor) (.cons (by repeat constructor) .nil)), by first | (simp only [puts_cons, puts_nil, Act.put, List.setIfInBounds_toArray, List.set_cons_succ, List.set_cons_zero]; done) | (simp only [puts_cons, puts_nil, Act.put, List.setIfInBounds_toArray, List.set_cons_succ, List.set_cons_zero]; rfl)⟩
  clear H
  rintro u w ⟨y, d, HD, H, rfl⟩
  simp only [puts_cons, puts_nil, Act.put, List.setIfInBounds_toArray, List.set_cons_succ, List.set_cons_zero]
  go_wp2_with (first
    | go_skip
    | ((with_reducible refine at_box ?_); first | (refine wpList_box_H rfl rfl H rfl (by constructor) ?_; clear H; intro b w H))
    | ((with_reducible refine at_alloc ?_); first | (refine wpList_alloc_H rfl rfl H ?_; clear H; intro b w H))
    | ((with_reducible refine at_load ?_); first | (refine wpList_load_H rfl rfl H rfl (by repeat constructor) ?_) | (refine wpList_loads_H rfl rfl H rfl (by repeat constructor) ?_))
    | ((with_reducible refine at_store ?_); first | (refine wpList_store_H rfl rfl H rfl rfl (by repeat constructor) ?_; clear H; intro w H)))
  refine bodyPost_ret (results_H2 rfl H rfl (by repeat constructor)) rfl ⟨d, rfl, HD.out, H.pick (.cons (by repeat constructor) .nil)⟩
set_option maxRecDepth 100000 in
set_option maxHeartbeats 4000000 in
theorem bareStep_5f (B : BV) (g : Int) (e1 : bareOkM B.m = true) (e2 : hasM B.m g = true) (hw : wantM (gAtM B.m g) = 5) (ht : hasTrapM (gAtM B.m g).ctl.traps 1 = false) (W0 : World) (R : BRd W0 B) (Z : BBig B) : Calls Tryz.prog 24 #[B.val, .int .i64 g] W0 fun e w' => ∃ d : BV, e = .returned (.tuple #[d.val, .bool true]) ∧ d.m = withGuestM (putOutM B.m (insAtM (gAtM B.m g).prog (gAtM B.m g).pc).x) g (movedM (gAtM B.m g)) ∧ Hp W0 w' [.bare d] := by
  obtain ⟨a, ha⟩ : ∃ a, a = addrM (gAtM B.m g) := ⟨_, rfl⟩
  have HA : Hid (addrM (gAtM B.m g) = a) := ha.symm
  clear ha
  obtain ⟨i, hi⟩ : ∃ i, i = insAtM (gAtM B.m g).prog (gAtM B.m g).pc := ⟨_, rfl⟩
  have HI : Hid (insAtM (gAtM B.m g).prog (gAtM B.m g).pc = i) := hi.symm
  clear hi
  have ZM : B.m.size ≤ 4194304 := Z
  have ew := Lib.hid hw; clear hw
  have H := Hp.start W0
  go_enter Tryz.func24, Tryz.ntmps24
  go_wp2_with (first
    | go_skip
    | ((with_reducible refine at_box ?_); first | (refine wpList_box_H (cs := (barr B).toList) rfl rfl H rfl CellsOf.agg ?_; clear H; intro bB w H) | (refine wpList_box_H rfl rfl H rfl (by constructor) ?_; clear H; intro b w H))
    | ((with_reducible refine at_alloc ?_); first | ((with_reducible refine at_dst 4 ?_); refine wpList_alloc_H rfl rfl H ?_; clear H; intro bR w H) | ((with_reducible refine at_dst 6 ?_); refine wpList_alloc_H rfl rfl H ?_; clear H; intro bX w H) | ((with_reducible refine at_dst 10 ?_); refine wpList_alloc_H rfl rfl H ?_; clear H; intro bI w H) | (refine wpList_alloc_H rfl rfl H ?_; clear H; intro b w H))
    | ((with_reducible refine at_load ?_); first | (refine wpList_load_H rfl rfl H rfl (by repeat constructor) ?_) | (refine wpList_loads_H rfl rfl H rfl (by repeat constructor) ?_))
    | ((with_reducible refine at_store ?_); first | (refine wpList_store_H rfl rfl H rfl rfl (by repeat constructor) ?_; clear H; intro w H))
    | (go_at_call 40; refine (guestAt_c B g _ (R.at_ H) Z).mono ?_; rintro e w ⟨x, he, x1, K⟩; rw [e2] at he; subst he; have HX := Lib.hid x1; clear x1; have ZX : GBig x := size_big HX.out (Nat.le_trans (gAtM_size _ _) ZM); replace H := H.add_all K; clear K)
    | (go_at_call 112; refine (wantOf_any x _ (H.grd1 (g := x) (by repeat constructor)).prog ZX.1).mono ?_; rintro e w ⟨he, hb⟩; rw [HX.out, ew.out] at he; subst he; replace H := H.still hb; clear hb)
    | (go_at_call 50; refine (bareOk_c B _ (R.at_ H) Z).mono ?_; rintro e w ⟨he, K⟩; rw [e1] at he; subst he; replace H := H.add_all K; clear K)
    | (go_at_call 114; refine (address_any x _ (H.grd1 (g := x) (by repeat constructor)).prog ZX.1).mono ?_; rintro e w ⟨he, hb⟩; rw [HX.out, HA.out] at he; subst he; replace H := H.still hb; clear hb)
    | (go_at_call 115; refine (insAt_c x.prog x.pc _ (H.grd1 (g := x) (by repeat constructor)).prog ZX.1 i (by rw [← HI.out, ← HX.out]; rfl)).mono ?_; rintro e w ⟨rfl, hb⟩; replace H := H.still hb; clear hb))
  have HTT : x.ctl.traps = (gAtM B.m g).ctl.traps := ctl_traps HX
  rw [← HTT] at ht
  have HT := Lib.hid ht
  clear ht HTT
  refine wp_cut (fun u a' w' => ∃ (_ : Unit), Hp W0 w' [.box bB 28 (barr B).toList, .box bX 53 (garr x).toList, .box bI 45 [.int .i64 i.op, .int .i64 i.x], .gst x, .box bR 28 [.slice none 0 0, .slice none 0 0, .slice none 0 0, .int .i64 0]] ∧ a' = puts u [(122, .pointer (some ⟨bX, 5, none⟩)), (123, .pointer (some ⟨bX, 5, none⟩)), (124, (.int .i64 x.ctl.traps)), (125, (.int .i64 5)), (126, (.int .i64 1)), (127, (.bool false)), (121, (.bool false))]) ?_ ?_
  · refine wp_region_held (S := (fun w' => Rw w' bB 28 (barr B) ∧ Rw w' bX 53 (garr x) ∧ Rw w' bI 45 ([.int .i64 i.op, .int .i64 i.x] : List Value).toArray)) (by kernel_rfl) ?_
    replace H := H.drew
    refine tkH (i := 0) rfl .here (yields_val (v := .pointer (some ⟨bX, 5, none⟩)) rfl (fun _ => by go_simp)) ⟨H.rw_ (by repeat constructor), H.rw_ (by repeat constructor), H.rw_ (by repeat constructor)⟩ ?_
    (try go_frame)
    refine tkH (i := 1) rfl (.of rfl) (yields_val (v := .pointer (some ⟨bX, 5, none⟩)) rfl (fun _ => by go_simp)) ⟨H.rw_ (by repeat constructor), H.rw_ (by repeat constructor), H.rw_ (by repeat constructor)⟩ ?_
    (try go_frame)
    refine tkH (i := 2) rfl (.of rfl) (yields_load1_R rfl rfl rfl (fun _ hS => hS.2.1) rfl) ⟨H.rw_ (by repeat constructor), H.rw_ (by repeat constructor), H.rw_ (by repeat constructor)⟩ ?_
    (try go_frame)
    refine tkH (i := 3) rfl (.of rfl) (yields_val (v := (.int .i64 5)) rfl (fun _ => by go_simp)) ⟨H.rw_ (by repeat constructor), H.rw_ (by repeat constructor), H.rw_ (by repeat constructor)⟩ ?_
    (try go_frame)
    refine anyH_1 (i := 4) (by kernel_rfl) ?_
    refine wpOp_at rfl (.of rfl) rfl ?_
    refine wp_call_H Tryz.f129 rfl rfl Tryz.func129 (by kernel_rfl) rfl rfl (val_H (v := .int .i64 1) H (trapOf_5 _)) ?_
    clear H
    rintro _ w ⟨rfl, H⟩
    refine ⟨⟨H.rw_ (by repeat constructor), H.rw_ (by repeat constructor), H.rw_ (by repeat constructor)⟩, ?_⟩
    (try go_frame)
    refine anyH_1 (i := 5) (by kernel_rfl) ?_
    refine wpOp_at rfl (.of rfl) rfl ?_
    refine wp_call_H Tryz.f128 rfl rfl Tryz.func128 (by kernel_rfl) rfl rfl (val_H (v := .bool false) H ((hasTrap_c x.ctl.traps 1 (by decide) _).mono fun _ _ ⟨he, K⟩ => ⟨by rw [he, HT.out], K⟩)) ?_
    clear H
    rintro _ w ⟨rfl, H⟩
    refine ⟨⟨H.rw_ (by repeat constructor), H.rw_ (by repeat constructor), H.rw_ (by repeat constructor)⟩, ?_⟩
    (try go_frame)
    refine tkH (i := 6) rfl (.of rfl) (yields_val (v := (.bool false)) rfl (fun _ => by go_simp)) ⟨H.rw_ (by repeat constructor), H.rw_ (by repeat constructor), H.rw_ (by repeat constructor)⟩ ?_
    (try go_frame)
    refine wpAnyH_done (by kernel_rfl) ?_ _
    exact ⟨rfl, (), H.pick (.cons (by repeat constructor) (.cons (by repeat constructor) (.cons (by repeat constructor) (.cons (by repeat constructor) (.cons (by repeat constructor) .nil))))), by first | (simp only [puts_cons, puts_nil, Act.put, List.setIfInBounds_toArray, List.set_cons_succ, List.set_cons_zero]; done) | (simp only [puts_cons, puts_nil, Act.put, List.setIfInBounds_toArray, List.set_cons_succ, List.set_cons_zero]; rfl)⟩
  clear H
  rintro u w ⟨_, H, rfl⟩
  simp only [puts_cons, puts_nil, Act.put, List.setIfInBounds_toArray, List.set_cons_succ, List.set_cons_zero]
  go_wp2_with (first
    | go_skip
    | ((with_reducible refine at_box ?_); first | (refine wpList_box_H rfl rfl H rfl (by constructor) ?_; clear H; intro b w H))
    | ((with_reducible refine at_alloc ?_); first | (refine wpList_alloc_H rfl rfl H ?_; clear H; intro b w H))
    | ((with_reducible refine at_load ?_); first | (refine wpList_load_H rfl rfl H rfl (by repeat constructor) ?_) | (refine wpList_loads_H rfl rfl H rfl (by repeat constructor) ?_))
    | ((with_reducible refine at_store ?_); first | (refine wpList_store_H rfl rfl H rfl rfl (by repeat constructor) ?_; clear H; intro w H)))
  refine wp_cut (fun u a' w' => ∃ (b : BV) (y : GV) (d : BV), Hid (d.m = withGuestM (putOutM B.m (insAtM (gAtM B.m g).prog (gAtM B.m g).pc).x) g (movedM (gAtM B.m g))) ∧ Hp W0 w' [.box bR 28 (barr d).toList, .bare d] ∧ a' = puts u [(137, B.val), (138, .pointer (some ⟨bI, 1, none⟩)), (139, (.int .i64 i.x)), (140, b.val), (141, (.int .i64 g)), (142, x.val), (143, y.val), (144, d.val), (5, (.bool true))]) ?_ ?_
  · refine wp_region_held (S := (fun w' => Rw w' bB 28 (barr B) ∧ Rw w' bX 53 (garr x) ∧ Rw w' bI 45 ([.int .i64 i.op, .int .i64 i.x] : List Value).toArray)) (by kernel_rfl) ?_
    replace H := H.drew
    refine tkH (i := 0) rfl .here (yields_loads_R rfl rfl rfl (fun _ hS => hS.1) (by repeat constructor)) ⟨H.rw_ (by repeat constructor), H.rw_ (by repeat constructor), H.rw_ (by repeat constructor)⟩ ?_
    (try go_frame)
    refine tkH (i := 1) rfl (.of rfl) (yields_val (v := .pointer (some ⟨bI, 1, none⟩)) rfl (fun _ => by go_simp)) ⟨H.rw_ (by repeat constructor), H.rw_ (by repeat constructor), H.rw_ (by repeat constructor)⟩ ?_
    (try go_frame)
    refine tkH (i := 2) rfl (.of rfl) (yields_load1_R rfl rfl rfl (fun _ hS => hS.2.2) rfl) ⟨H.rw_ (by repeat constructor), H.rw_ (by repeat constructor), H.rw_ (by repeat constructor)⟩ ?_
    (try go_frame)
    refine tkH (i := 4) rfl (.of rfl) (yields_val (v := (.int .i64 g)) rfl (fun _ => by go_simp)) ⟨H.rw_ (by repeat constructor), H.rw_ (by repeat constructor), H.rw_ (by repeat constructor)⟩ ?_
    (try go_frame)
    refine tkH (i := 5) rfl (.of rfl) (yields_loads_R rfl rfl rfl (fun _ hS => hS.2.1) (by repeat constructor)) ⟨H.rw_ (by repeat constructor), H.rw_ (by repeat constructor), H.rw_ (by repeat constructor)⟩ ?_
    (try go_frame)
    refine anyH_1 (i := 3) (by kernel_rfl) ?_
    refine wpOp_at rfl (.of rfl) rfl ?_
    refine wp_call_H Tryz.f47 rfl rfl Tryz.func47 (by kernel_rfl) rfl rfl (made_H H (putOut_c B i.x _ (R.at_ H) Z)) ?_
    clear H
    rintro _ w ⟨b, rfl, HB, H⟩
    have zb : BBig b := (by unfold BBig; rw [HB.out]; exact Nat.le_trans (putOutS_size _ _) (Nat.le_trans (Nat.succ_le_succ (bareOk_size e1)) (by decide)))
    refine ⟨⟨H.rw_ (by repeat constructor), H.rw_ (by repeat constructor), H.rw_ (by repeat constructor)⟩, ?_⟩
    (try go_frame)
    refine anyH_1 (i := 6) (by kernel_rfl) ?_
    refine wpOp_at rfl (.of rfl) rfl ?_
    refine wp_call_H Tryz.f74 rfl rfl Tryz.func74 (by kernel_rfl) rfl rfl (made_H H ((moved_c x _ rfl _ (H.grd1 (g := x) (by repeat constructor)) ZX).mono fun _ _ h => mkgS h)) ?_
    clear H
    rintro _ w ⟨y, rfl, HY, H⟩
    have zy : GBig y := gbig_mm (m := movedM x.m) (show MBig _ from GBig.m ZX) HY
    refine ⟨⟨H.rw_ (by repeat constructor), H.rw_ (by repeat constructor), H.rw_ (by repeat constructor)⟩, ?_⟩
    (try go_frame)
    refine anyH_1 (i := 7) (by kernel_rfl) ?_
    refine wpOp_at rfl (.of rfl) rfl ?_
    refine wp_call_H Tryz.f38 rfl rfl Tryz.func38 (by kernel_rfl) rfl rfl (made_H H (withGuest_c b g y _ (H.brd (b := b) (by repeat constructor)) zb (H.grd1 (g := y) (by repeat constructor)) zy)) ?_
    clear H
    rintro _ w ⟨d, rfl, HD, H⟩
    refine ⟨⟨H.rw_ (by repeat constructor), H.rw_ (by repeat constructor), H.rw_ (by repeat constructor)⟩, ?_⟩
    (try go_frame)
    refine anyH_1 (i := 8) (by kernel_rfl) ?_
    refine wpOp_at rfl (.of rfl) rfl ?_
    refine wp_store_H rfl H rfl rfl (by repeat constructor) ?_
    clear H
    intro w H
    refine ⟨⟨H.rw_ (by repeat constructor), H.rw_ (by repeat constructor), H.rw_ (by repeat constructor)⟩, ?_⟩
    (try go_frame)
    refine tkH (i := 9) rfl (.of rfl) (yields_val (v := (.bool true)) rfl (fun _ => by go_simp)) ⟨H.rw_ (by repeat constructor), H.rw_ (by repeat constructor), H.rw_ (by repeat constructor)⟩ ?_
    (try go_frame)
    refine wpAnyH_done (by kernel_rfl) ?_ _
    exact ⟨rfl, b, y, d, (by show _ = _; rw [HD.out, HY.out, HX.out, HB.out, HI.out]), H.pick (.cons (by repeat constructor) (.cons (by repeat constructor) .nil)), by first | (simp only [puts_cons, puts_nil, Act.put, List.setIfInBounds_toArray, List.set_cons_succ, List.set_cons_zero]; done) | (simp only [puts_cons, puts_nil, Act.put, List.setIfInBounds_toArray, List.set_cons_succ, List.set_cons_zero]; rfl)⟩
  clear H
  rintro u w ⟨b, y, d, HD, H, rfl⟩
  simp only [puts_cons, puts_nil, Act.put, List.setIfInBounds_toArray, List.set_cons_succ, List.set_cons_zero]
  go_wp2_with (first
    | go_skip
    | ((with_reducible refine at_box ?_); first | (refine wpList_box_H rfl rfl H rfl (by constructor) ?_; clear H; intro b w H))
    | ((with_reducible refine at_alloc ?_); first | (refine wpList_alloc_H rfl rfl H ?_; clear H; intro b w H))
    | ((with_reducible refine at_load ?_); first | (refine wpList_load_H rfl rfl H rfl (by repeat constructor) ?_) | (refine wpList_loads_H rfl rfl H rfl (by repeat constructor) ?_))
    | ((with_reducible refine at_store ?_); first | (refine wpList_store_H rfl rfl H rfl rfl (by repeat constructor) ?_; clear H; intro w H)))
  refine bodyPost_ret (results_H2 rfl H rfl (by repeat constructor)) rfl ⟨d, rfl, HD.out, H.pick (.cons (by repeat constructor) .nil)⟩
end Go.Proofs.YtaafnenmdombiaaGreat
