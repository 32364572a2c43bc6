/- Cases of BareStep of the program. No condition but that the arguments lie in memory. -/
import Derived.Maps.RangeWalk
import Derived.Test.YtaafnenmdombiaaGreatSt
namespace Go.Proofs.YtaafnenmdombiaaGreat
set_option linter.unusedSimpArgs false
set_option linter.unusedVariables false
open Go.RowKit
theorem interruptedS_big {m : MG} (h : MBig m) : MBig (interruptedM m) := by
  unfold interruptedM; split
  · exact sawM_big (m := { m with pending := tookI m.pending }) h _
  · exact h
theorem plainlyS_big {m : MG} (h : MBig m) : MBig (plainlyM m) := by
  unfold plainlyM
  repeat' split
  all_goals exact h
set_option maxRecDepth 100000 in
set_option maxHeartbeats 4000000 in
theorem bareStep_n1 (B : BV) (g : Int) (e1 : bareOkM B.m = false) (W0 : World) (R : BRd W0 B) (Z : BBig B) : Calls Tryz.prog 24 #[B.val, .int .i64 g] W0 fun e w' => ∃ d : BV, e = .returned (.tuple #[d.val, .bool false]) ∧ d.m = B.m ∧ Hp W0 w' [.bare d] := by
  obtain ⟨n, hn⟩ : ∃ n, n = wantM (gAtM B.m g) := ⟨_, rfl⟩
  have ew : Hid (wantM (gAtM B.m g) = n) := hn.symm
  clear hn
  have ZM : B.m.size ≤ 4194304 := Z
  obtain ⟨hs, hhs⟩ : ∃ hs, hs = hasM B.m g := ⟨_, rfl⟩
  have HG : Hid (hasM B.m g = hs) := hhs.symm
  clear hhs
  have H := Hp.start W0
  go_enter Tryz.func24, Tryz.ntmps24
  go_wp2_with (first
    | go_skip
    | ((with_reducible refine at_box ?_); first | (refine wpList_box_H (cs := (barr B).toList) rfl rfl H rfl CellsOf.agg ?_; clear H; intro bB w H) | (refine wpList_box_H rfl rfl H rfl (by constructor) ?_; clear H; intro b w H))
    | ((with_reducible refine at_alloc ?_); first | ((with_reducible refine at_dst 4 ?_); refine wpList_alloc_H rfl rfl H ?_; clear H; intro bR w H) | ((with_reducible refine at_dst 6 ?_); refine wpList_alloc_H rfl rfl H ?_; clear H; intro bX w H) | ((with_reducible refine at_dst 10 ?_); refine wpList_alloc_H rfl rfl H ?_; clear H; intro bI w H) | (refine wpList_alloc_H rfl rfl H ?_; clear H; intro b w H))
    | ((with_reducible refine at_load ?_); first | (refine wpList_load_H rfl rfl H rfl (by repeat constructor) ?_) | (refine wpList_loads_H rfl rfl H rfl (by repeat constructor) ?_))
    | ((with_reducible refine at_store ?_); first | (refine wpList_store_H rfl rfl H rfl rfl (by repeat constructor) ?_; clear H; intro w H))
    | (go_at_call 40; refine (guestAt_c B g _ (R.at_ H) Z).mono ?_; rintro e w ⟨x, he, x1, K⟩; rw [HG.out] at he; subst he; have HX := Lib.hid x1; clear x1; have ZX : GBig x := size_big HX.out (Nat.le_trans (gAtM_size _ _) ZM); replace H := H.add_all K; clear K)
    | (go_at_call 112; refine (wantOf_any x _ (H.grd1 (g := x) (by repeat constructor)).prog ZX.1).mono ?_; rintro e w ⟨he, hb⟩; rw [HX.out, ew.out] at he; subst he; replace H := H.still hb; clear hb)
    | (go_at_call 50; refine (bareOk_c B _ (R.at_ H) Z).mono ?_; rintro e w ⟨he, K⟩; rw [e1] at he; subst he; replace H := H.add_all K; clear K)
    | (go_at_call 113; refine (copyBare_c B _ (R.at_ H) Z).mono ?_; rintro e w ⟨d, rfl, x1, K⟩; have HD := Lib.hid x1; clear x1; replace H := H.add_all K; clear K))
  refine bodyPost_ret (results_H2 rfl H rfl (by repeat constructor)) rfl ⟨d, rfl, HD.out, H.pick (.cons (by repeat constructor) .nil)⟩
set_option maxRecDepth 100000 in
set_option maxHeartbeats 4000000 in
theorem bareStep_n2 (B : BV) (g : Int) (e1 : bareOkM B.m = true) (e2 : hasM B.m g = false) (W0 : World) (R : BRd W0 B) (Z : BBig B) : Calls Tryz.prog 24 #[B.val, .int .i64 g] W0 fun e w' => ∃ d : BV, e = .returned (.tuple #[d.val, .bool false]) ∧ d.m = B.m ∧ Hp W0 w' [.bare d] := by
  obtain ⟨n, hn⟩ : ∃ n, n = wantM (gAtM B.m g) := ⟨_, rfl⟩
  have ew : Hid (wantM (gAtM B.m g) = n) := hn.symm
  clear hn
  have ZM : B.m.size ≤ 4194304 := Z
  have H := Hp.start W0
  go_enter Tryz.func24, Tryz.ntmps24
  go_wp2_with (first
    | go_skip
    | ((with_reducible refine at_box ?_); first | (refine wpList_box_H (cs := (barr B).toList) rfl rfl H rfl CellsOf.agg ?_; clear H; intro bB w H) | (refine wpList_box_H rfl rfl H rfl (by constructor) ?_; clear H; intro b w H))
    | ((with_reducible refine at_alloc ?_); first | ((with_reducible refine at_dst 4 ?_); refine wpList_alloc_H rfl rfl H ?_; clear H; intro bR w H) | ((with_reducible refine at_dst 6 ?_); refine wpList_alloc_H rfl rfl H ?_; clear H; intro bX w H) | ((with_reducible refine at_dst 10 ?_); refine wpList_alloc_H rfl rfl H ?_; clear H; intro bI w H) | (refine wpList_alloc_H rfl rfl H ?_; clear H; intro b w H))
    | ((with_reducible refine at_load ?_); first | (refine wpList_load_H rfl rfl H rfl (by repeat constructor) ?_) | (refine wpList_loads_H rfl rfl H rfl (by repeat constructor) ?_))
    | ((with_reducible refine at_store ?_); first | (refine wpList_store_H rfl rfl H rfl rfl (by repeat constructor) ?_; clear H; intro w H))
    | (go_at_call 40; refine (guestAt_c B g _ (R.at_ H) Z).mono ?_; rintro e w ⟨x, he, x1, K⟩; rw [e2] at he; subst he; have HX := Lib.hid x1; clear x1; have ZX : GBig x := size_big HX.out (Nat.le_trans (gAtM_size _ _) ZM); replace H := H.add_all K; clear K)
    | (go_at_call 112; refine (wantOf_any x _ (H.grd1 (g := x) (by repeat constructor)).prog ZX.1).mono ?_; rintro e w ⟨he, hb⟩; rw [HX.out, ew.out] at he; subst he; replace H := H.still hb; clear hb)
    | (go_at_call 50; refine (bareOk_c B _ (R.at_ H) Z).mono ?_; rintro e w ⟨he, K⟩; rw [e1] at he; subst he; replace H := H.add_all K; clear K)
    | (go_at_call 113; refine (copyBare_c B _ (R.at_ H) Z).mono ?_; rintro e w ⟨d, rfl, x1, K⟩; have HD := Lib.hid x1; clear x1; replace H := H.add_all K; clear K))
  refine bodyPost_ret (results_H2 rfl H rfl (by repeat constructor)) rfl ⟨d, rfl, HD.out, H.pick (.cons (by repeat constructor) .nil)⟩
set_option maxRecDepth 100000 in
set_option maxHeartbeats 4000000 in
theorem bareStep_n3 (B : BV) (g : Int) (e1 : bareOkM B.m = true) (e2 : hasM B.m g = true) (hw : wantM (gAtM B.m g) = 0) (W0 : World) (R : BRd W0 B) (Z : BBig B) : Calls Tryz.prog 24 #[B.val, .int .i64 g] W0 fun e w' => ∃ d : BV, e = .returned (.tuple #[d.val, .bool false]) ∧ d.m = B.m ∧ Hp W0 w' [.bare d] := by
  have ew := Lib.hid hw; clear hw
  have ZM : B.m.size ≤ 4194304 := Z
  have H := Hp.start W0
  go_enter Tryz.func24, Tryz.ntmps24
  go_wp2_with (first
    | go_skip
    | ((with_reducible refine at_box ?_); first | (refine wpList_box_H (cs := (barr B).toList) rfl rfl H rfl CellsOf.agg ?_; clear H; intro bB w H) | (refine wpList_box_H rfl rfl H rfl (by constructor) ?_; clear H; intro b w H))
    | ((with_reducible refine at_alloc ?_); first | ((with_reducible refine at_dst 4 ?_); refine wpList_alloc_H rfl rfl H ?_; clear H; intro bR w H) | ((with_reducible refine at_dst 6 ?_); refine wpList_alloc_H rfl rfl H ?_; clear H; intro bX w H) | ((with_reducible refine at_dst 10 ?_); refine wpList_alloc_H rfl rfl H ?_; clear H; intro bI w H) | (refine wpList_alloc_H rfl rfl H ?_; clear H; intro b w H))
    | ((with_reducible refine at_load ?_); first | (refine wpList_load_H rfl rfl H rfl (by repeat constructor) ?_) | (refine wpList_loads_H rfl rfl H rfl (by repeat constructor) ?_))
    | ((with_reducible refine at_store ?_); first | (refine wpList_store_H rfl rfl H rfl rfl (by repeat constructor) ?_; clear H; intro w H))
    | (go_at_call 40; refine (guestAt_c B g _ (R.at_ H) Z).mono ?_; rintro e w ⟨x, he, x1, K⟩; rw [e2] at he; subst he; have HX := Lib.hid x1; clear x1; have ZX : GBig x := size_big HX.out (Nat.le_trans (gAtM_size _ _) ZM); replace H := H.add_all K; clear K)
    | (go_at_call 112; refine (wantOf_any x _ (H.grd1 (g := x) (by repeat constructor)).prog ZX.1).mono ?_; rintro e w ⟨he, hb⟩; rw [HX.out, ew.out] at he; subst he; replace H := H.still hb; clear hb)
    | (go_at_call 50; refine (bareOk_c B _ (R.at_ H) Z).mono ?_; rintro e w ⟨he, K⟩; rw [e1] at he; subst he; replace H := H.add_all K; clear K)
    | (go_at_call 113; refine (copyBare_c B _ (R.at_ H) Z).mono ?_; rintro e w ⟨d, rfl, x1, K⟩; have HD := Lib.hid x1; clear x1; replace H := H.add_all K; clear K))
  refine bodyPost_ret (results_H2 rfl H rfl (by repeat constructor)) rfl ⟨d, rfl, HD.out, H.pick (.cons (by repeat constructor) .nil)⟩
set_option maxRecDepth 100000 in
set_option maxHeartbeats 4000000 in
theorem bareStep_1 (B : BV) (g : Int) (e1 : bareOkM B.m = true) (e2 : hasM B.m g = true) (hw : wantM (gAtM B.m g) = 1) (W0 : World) (R : BRd W0 B) (Z : BBig B) : Calls Tryz.prog 24 #[B.val, .int .i64 g] W0 fun e w' => ∃ d : BV, e = .returned (.tuple #[d.val, .bool true]) ∧ d.m = withGuestM B.m g (interruptedM (gAtM B.m g)) ∧ Hp W0 w' [.bare d] := by
  have ew := Lib.hid hw; clear hw
  obtain ⟨a, ha⟩ : ∃ a, a = addrM (gAtM B.m g) := ⟨_, rfl⟩
  have HA : Hid (addrM (gAtM B.m g) = a) := ha.symm
  clear ha
  obtain ⟨i, hi⟩ : ∃ i, i = insAtM (gAtM B.m g).prog (gAtM B.m g).pc := ⟨_, rfl⟩
  have HI : Hid (insAtM (gAtM B.m g).prog (gAtM B.m g).pc = i) := hi.symm
  clear hi
  have ZM : B.m.size ≤ 4194304 := Z
  have H := Hp.start W0
  go_enter Tryz.func24, Tryz.ntmps24
  go_wp2_with (first
    | go_skip
    | ((with_reducible refine at_box ?_); first | (refine wpList_box_H (cs := (barr B).toList) rfl rfl H rfl CellsOf.agg ?_; clear H; intro bB w H) | (refine wpList_box_H rfl rfl H rfl (by constructor) ?_; clear H; intro b w H))
    | ((with_reducible refine at_alloc ?_); first | ((with_reducible refine at_dst 4 ?_); refine wpList_alloc_H rfl rfl H ?_; clear H; intro bR w H) | ((with_reducible refine at_dst 6 ?_); refine wpList_alloc_H rfl rfl H ?_; clear H; intro bX w H) | ((with_reducible refine at_dst 10 ?_); refine wpList_alloc_H rfl rfl H ?_; clear H; intro bI w H) | (refine wpList_alloc_H rfl rfl H ?_; clear H; intro b w H))
    | ((with_reducible refine at_load ?_); first | (refine wpList_load_H rfl rfl H rfl (by repeat constructor) ?_) | (refine wpList_loads_H rfl rfl H rfl (by repeat constructor) ?_))
    | ((with_reducible refine at_store ?_); first | (refine wpList_store_H rfl rfl H rfl rfl (by repeat constructor) ?_; clear H; intro w H))
    | (go_at_call 40; refine (guestAt_c B g _ (R.at_ H) Z).mono ?_; rintro e w ⟨x, he, x1, K⟩; rw [e2] at he; subst he; have HX := Lib.hid x1; clear x1; have ZX : GBig x := size_big HX.out (Nat.le_trans (gAtM_size _ _) ZM); replace H := H.add_all K; clear K)
    | (go_at_call 112; refine (wantOf_any x _ (H.grd1 (g := x) (by repeat constructor)).prog ZX.1).mono ?_; rintro e w ⟨he, hb⟩; rw [HX.out, ew.out] at he; subst he; replace H := H.still hb; clear hb)
    | (go_at_call 50; refine (bareOk_c B _ (R.at_ H) Z).mono ?_; rintro e w ⟨he, K⟩; rw [e1] at he; subst he; replace H := H.add_all K; clear K)
    | (go_at_call 114; refine (address_any x _ (H.grd1 (g := x) (by repeat constructor)).prog ZX.1).mono ?_; rintro e w ⟨he, hb⟩; rw [HX.out, HA.out] at he; subst he; replace H := H.still hb; clear hb)
    | (go_at_call 115; refine (insAt_c x.prog x.pc _ (H.grd1 (g := x) (by repeat constructor)).prog ZX.1 i (by rw [← HI.out, ← HX.out]; rfl)).mono ?_; rintro e w ⟨rfl, hb⟩; replace H := H.still hb; clear hb))
  refine wp_cut (fun u a' w' => ∃ (y : GV) (d : BV), Hid (d.m = withGuestM B.m g (interruptedM (gAtM B.m g))) ∧ Hp W0 w' [.box bR 28 (barr d).toList, .bare d] ∧ a' = puts u [(45, B.val), (46, (.int .i64 g)), (47, x.val), (48, y.val), (49, d.val), (5, (.bool true))]) ?_ ?_
  · refine wp_region_held (S := (fun w' => Rw w' bB 28 (barr B) ∧ Rw w' bX 53 (garr x))) (by kernel_rfl) ?_
    replace H := H.drew
    refine tkH (i := 0) rfl .here (yields_loads_R rfl rfl rfl (fun _ hS => hS.1) (by repeat constructor)) ⟨H.rw_ (by repeat constructor), H.rw_ (by repeat constructor)⟩ ?_
    (try go_frame)
    refine tkH (i := 1) rfl (.of rfl) (yields_val (v := (.int .i64 g)) rfl (fun _ => by go_simp)) ⟨H.rw_ (by repeat constructor), H.rw_ (by repeat constructor)⟩ ?_
    (try go_frame)
    refine tkH (i := 2) rfl (.of rfl) (yields_loads_R rfl rfl rfl (fun _ hS => hS.2) (by repeat constructor)) ⟨H.rw_ (by repeat constructor), H.rw_ (by repeat constructor)⟩ ?_
    (try go_frame)
    refine anyH_1 (i := 3) (by kernel_rfl) ?_
    refine wpOp_at rfl (.of rfl) rfl ?_
    refine wp_call_H Tryz.f116 rfl rfl Tryz.func116 (by kernel_rfl) rfl rfl (made_H H ((interrupted_c x _ rfl _ (H.grd1 (g := x) (by repeat constructor)) ZX).mono fun _ _ h => mkgS h)) ?_
    clear H
    rintro _ w ⟨y, rfl, HY, H⟩
    have zy : GBig y := gbig_mm (m := interruptedM x.m) (interruptedS_big (show MBig _ from GBig.m ZX)) HY
    refine ⟨⟨H.rw_ (by repeat constructor), H.rw_ (by repeat constructor)⟩, ?_⟩
    (try go_frame)
    refine anyH_1 (i := 4) (by kernel_rfl) ?_
    refine wpOp_at rfl (.of rfl) rfl ?_
    refine wp_call_H Tryz.f38 rfl rfl Tryz.func38 (by kernel_rfl) rfl rfl (made_H H (withGuest_c B g y _ (R.at_ H) Z (H.grd1 (g := y) (by repeat constructor)) zy)) ?_
    clear H
    rintro _ w ⟨d, rfl, HD, H⟩
    refine ⟨⟨H.rw_ (by repeat constructor), H.rw_ (by repeat constructor)⟩, ?_⟩
    (try go_frame)
    refine anyH_1 (i := 5) (by kernel_rfl) ?_
    refine wpOp_at rfl (.of rfl) rfl ?_
    refine wp_store_H rfl H rfl rfl (by repeat constructor) ?_
    clear H
    intro w H
    refine ⟨⟨H.rw_ (by repeat constructor), H.rw_ (by repeat constructor)⟩, ?_⟩
    (try go_frame)
    refine tkH (i := 6) rfl (.of rfl) (yields_val (v := (.bool true)) rfl (fun _ => by go_simp)) ⟨H.rw_ (by repeat constructor), H.rw_ (by repeat constructor)⟩ ?_
    (try go_frame)
    refine wpAnyH_done (by kernel_rfl) ?_ _
    exact ⟨rfl, y, d, (by show _ = _; rw [HD.out, HY.out, HX.out]), H.pick (.cons (by repeat constructor) (.cons (by repeat constructor) .nil)), by first | (simp only [puts_cons, puts_nil, Act.put, List.setIfInBounds_toArray, List.set_cons_succ, List.set_cons_zero]; done) | (simp only [puts_cons, puts_nil, Act.put, List.setIfInBounds_toArray, List.set_cons_succ, List.set_cons_zero]; rfl)⟩
  clear H
  rintro u w ⟨y, d, HD, H, rfl⟩
  simp only [puts_cons, puts_nil, Act.put, List.setIfInBounds_toArray, List.set_cons_succ, List.set_cons_zero]
  go_wp2_with (first
    | go_skip
    | ((with_reducible refine at_box ?_); first | (refine wpList_box_H rfl rfl H rfl (by constructor) ?_; clear H; intro b w H))
    | ((with_reducible refine at_alloc ?_); first | (refine wpList_alloc_H rfl rfl H ?_; clear H; intro b w H))
    | ((with_reducible refine at_load ?_); first | (refine wpList_load_H rfl rfl H rfl (by repeat constructor) ?_) | (refine wpList_loads_H rfl rfl H rfl (by repeat constructor) ?_))
    | ((with_reducible refine at_store ?_); first | (refine wpList_store_H rfl rfl H rfl rfl (by repeat constructor) ?_; clear H; intro w H)))
  refine bodyPost_ret (results_H2 rfl H rfl (by repeat constructor)) rfl ⟨d, rfl, HD.out, H.pick (.cons (by repeat constructor) .nil)⟩
set_option maxRecDepth 100000 in
set_option maxHeartbeats 4000000 in
theorem bareStep_2 (B : BV) (g : Int) (e1 : bareOkM B.m = true) (e2 : hasM B.m g = true) (hw : wantM (gAtM B.m g) = 2) (W0 : World) (R : BRd W0 B) (Z : BBig B) : Calls Tryz.prog 24 #[B.val, .int .i64 g] W0 fun e w' => ∃ d : BV, e = .returned (.tuple #[d.val, .bool true]) ∧ d.m = withGuestM B.m g (plainlyM (gAtM B.m g)) ∧ Hp W0 w' [.bare d] := by
  have ew := Lib.hid hw; clear hw
  obtain ⟨a, ha⟩ : ∃ a, a = addrM (gAtM B.m g) := ⟨_, rfl⟩
  have HA : Hid (addrM (gAtM B.m g) = a) := ha.symm
  clear ha
  obtain ⟨i, hi⟩ : ∃ i, i = insAtM (gAtM B.m g).prog (gAtM B.m g).pc := ⟨_, rfl⟩
  have HI : Hid (insAtM (gAtM B.m g).prog (gAtM B.m g).pc = i) := hi.symm
  clear hi
  have ZM : B.m.size ≤ 4194304 := Z
  have H := Hp.start W0
  go_enter Tryz.func24, Tryz.ntmps24
  go_wp2_with (first
    | go_skip
    | ((with_reducible refine at_box ?_); first | (refine wpList_box_H (cs := (barr B).toList) rfl rfl H rfl CellsOf.agg ?_; clear H; intro bB w H) | (refine wpList_box_H rfl rfl H rfl (by constructor) ?_; clear H; intro b w H))
    | ((with_reducible refine at_alloc ?_); first | ((with_reducible refine at_dst 4 ?_); refine wpList_alloc_H rfl rfl H ?_; clear H; intro bR w H) | ((with_reducible refine at_dst 6 ?_); refine wpList_alloc_H rfl rfl H ?_; clear H; intro bX w H) | ((with_reducible refine at_dst 10 ?_); refine wpList_alloc_H rfl rfl H ?_; clear H; intro bI w H) | (refine wpList_alloc_H rfl rfl H ?_; clear H; intro b w H))
    | ((with_reducible refine at_load ?_); first | (refine wpList_load_H rfl rfl H rfl (by repeat constructor) ?_) | (refine wpList_loads_H rfl rfl H rfl (by repeat constructor) ?_))
    | ((with_reducible refine at_store ?_); first | (refine wpList_store_H rfl rfl H rfl rfl (by repeat constructor) ?_; clear H; intro w H))
    | (go_at_call 40; refine (guestAt_c B g _ (R.at_ H) Z).mono ?_; rintro e w ⟨x, he, x1, K⟩; rw [e2] at he; subst he; have HX := Lib.hid x1; clear x1; have ZX : GBig x := size_big HX.out (Nat.le_trans (gAtM_size _ _) ZM); replace H := H.add_all K; clear K)
    | (go_at_call 112; refine (wantOf_any x _ (H.grd1 (g := x) (by repeat constructor)).prog ZX.1).mono ?_; rintro e w ⟨he, hb⟩; rw [HX.out, ew.out] at he; subst he; replace H := H.still hb; clear hb)
    | (go_at_call 50; refine (bareOk_c B _ (R.at_ H) Z).mono ?_; rintro e w ⟨he, K⟩; rw [e1] at he; subst he; replace H := H.add_all K; clear K)
    | (go_at_call 114; refine (address_any x _ (H.grd1 (g := x) (by repeat constructor)).prog ZX.1).mono ?_; rintro e w ⟨he, hb⟩; rw [HX.out, HA.out] at he; subst he; replace H := H.still hb; clear hb)
    | (go_at_call 115; refine (insAt_c x.prog x.pc _ (H.grd1 (g := x) (by repeat constructor)).prog ZX.1 i (by rw [← HI.out, ← HX.out]; rfl)).mono ?_; rintro e w ⟨rfl, hb⟩; replace H := H.still hb; clear hb))
  refine wp_cut (fun u a' w' => ∃ (y : GV) (d : BV), Hid (d.m = withGuestM B.m g (plainlyM (gAtM B.m g))) ∧ Hp W0 w' [.box bR 28 (barr d).toList, .bare d] ∧ a' = puts u [(52, B.val), (53, (.int .i64 g)), (54, x.val), (55, y.val), (56, d.val), (5, (.bool true))]) ?_ ?_
  · refine wp_region_held (S := (fun w' => Rw w' bB 28 (barr B) ∧ Rw w' bX 53 (garr x))) (by kernel_rfl) ?_
    replace H := H.drew
    refine tkH (i := 0) rfl .here (yields_loads_R rfl rfl rfl (fun _ hS => hS.1) (by repeat constructor)) ⟨H.rw_ (by repeat constructor), H.rw_ (by repeat constructor)⟩ ?_
    (try go_frame)
    refine tkH (i := 1) rfl (.of rfl) (yields_val (v := (.int .i64 g)) rfl (fun _ => by go_simp)) ⟨H.rw_ (by repeat constructor), H.rw_ (by repeat constructor)⟩ ?_
    (try go_frame)
    refine tkH (i := 2) rfl (.of rfl) (yields_loads_R rfl rfl rfl (fun _ hS => hS.2) (by repeat constructor)) ⟨H.rw_ (by repeat constructor), H.rw_ (by repeat constructor)⟩ ?_
    (try go_frame)
    refine anyH_1 (i := 3) (by kernel_rfl) ?_
    refine wpOp_at rfl (.of rfl) rfl ?_
    refine wp_call_H Tryz.f117 rfl rfl Tryz.func117 (by kernel_rfl) rfl rfl (made_H H ((plainly_c x _ rfl _ (H.grd1 (g := x) (by repeat constructor)) ZX).mono fun _ _ h => mkgS h)) ?_
    clear H
    rintro _ w ⟨y, rfl, HY, H⟩
    have zy : GBig y := gbig_mm (m := plainlyM x.m) (plainlyS_big (show MBig _ from GBig.m ZX)) HY
    refine ⟨⟨H.rw_ (by repeat constructor), H.rw_ (by repeat constructor)⟩, ?_⟩
    (try go_frame)
    refine anyH_1 (i := 4) (by kernel_rfl) ?_
    refine wpOp_at rfl (.of rfl) rfl ?_
    refine wp_call_H Tryz.f38 rfl rfl Tryz.func38 (by kernel_rfl) rfl rfl (made_H H (withGuest_c B g y _ (R.at_ H) Z (H.grd1 (g := y) (by repeat constructor)) zy)) ?_
    clear H
    rintro _ w ⟨d, rfl, HD, H⟩
    refine ⟨⟨H.rw_ (by repeat constructor), H.rw_ (by repeat constructor)⟩, ?_⟩
    (try go_frame)
    refine anyH_1 (i := 5) (by kernel_rfl) ?_
    refine wpOp_at rfl (.of rfl) rfl ?_
    refine wp_store_H rfl H rfl rfl (by repeat constructor) ?_
    clear H
    intro w H
    refine ⟨⟨H.rw_ (by repeat constructor), H.rw_ (by repeat constructor)⟩, ?_⟩
    (try go_frame)
    refine tkH (i := 6) rfl (.of rfl) (yields_val (v := (.bool true)) rfl (fun _ => by go_simp)) ⟨H.rw_ (by repeat constructor), H.rw_ (by repeat constructor)⟩ ?_
    (try go_frame)
    refine wpAnyH_done (by kernel_rfl) ?_ _
    exact ⟨rfl, y, d, (by show _ = _; rw [HD.out, HY.out, HX.out]), H.pick (.cons (by repeat constructor) (.cons (by repeat constructor) .nil)), by first | (simp only [puts_cons, puts_nil, Act.put, List.setIfInBounds_toArray, List.set_cons_succ, List.set_cons_zero]; done) | (simp only [puts_cons, puts_nil, Act.put, List.setIfInBounds_toArray, List.set_cons_succ, List.set_cons_zero]; rfl)⟩
  clear H
  rintro u w ⟨y, d, HD, H, rfl⟩
  simp only [puts_cons, puts_nil, Act.put, List.setIfInBounds_toArray, List.set_cons_succ, List.set_cons_zero]
  go_wp2_with (first
    | go_skip
    | ((with_reducible refine at_box ?_); first | (refine wpList_box_H rfl rfl H rfl (by constructor) ?_; clear H; intro b w H))
    | ((with_reducible refine at_alloc ?_); first | (refine wpList_alloc_H rfl rfl H ?_; clear H; intro b w H))
    | ((with_reducible refine at_load ?_); first | (refine wpList_load_H rfl rfl H rfl (by repeat constructor) ?_) | (refine wpList_loads_H rfl rfl H rfl (by repeat constructor) ?_))
    | ((with_reducible refine at_store ?_); first | (refine wpList_store_H rfl rfl H rfl rfl (by repeat constructor) ?_; clear H; intro w H)))
  refine bodyPost_ret (results_H2 rfl H rfl (by repeat constructor)) rfl ⟨d, rfl, HD.out, H.pick (.cons (by repeat constructor) .nil)⟩
set_option maxRecDepth 100000 in
set_option maxHeartbeats 4000000 in
theorem bareStep_6 (B : BV) (g : Int) (e1 : bareOkM B.m = true) (e2 : hasM B.m g = true) (hw : wantM (gAtM B.m g) = 6) (W0 : World) (R : BRd W0 B) (Z : BBig B) : Calls Tryz.prog 24 #[B.val, .int .i64 g] W0 fun e w' => ∃ d : BV, e = .returned (.tuple #[d.val, .bool true]) ∧ d.m = withGuestM B.m g (stoppedM (gAtM B.m g) ⟨2, 0, false, (insAtM (gAtM B.m g).prog (gAtM B.m g).pc).x⟩) ∧ Hp W0 w' [.bare d] := by
  have ew := Lib.hid hw; clear hw
  obtain ⟨a, ha⟩ : ∃ a, a = addrM (gAtM B.m g) := ⟨_, rfl⟩
  have HA : Hid (addrM (gAtM B.m g) = a) := ha.symm
  clear ha
  obtain ⟨i, hi⟩ : ∃ i, i = insAtM (gAtM B.m g).prog (gAtM B.m g).pc := ⟨_, rfl⟩
  have HI : Hid (insAtM (gAtM B.m g).prog (gAtM B.m g).pc = i) := hi.symm
  clear hi
  have ZM : B.m.size ≤ 4194304 := Z
  have H := Hp.start W0
  go_enter Tryz.func24, Tryz.ntmps24
  go_wp2_with (first
    | go_skip
    | ((with_reducible refine at_box ?_); first | (refine wpList_box_H (cs := (barr B).toList) rfl rfl H rfl CellsOf.agg ?_; clear H; intro bB w H) | (refine wpList_box_H rfl rfl H rfl (by constructor) ?_; clear H; intro b w H))
    | ((with_reducible refine at_alloc ?_); first | ((with_reducible refine at_dst 4 ?_); refine wpList_alloc_H rfl rfl H ?_; clear H; intro bR w H) | ((with_reducible refine at_dst 6 ?_); refine wpList_alloc_H rfl rfl H ?_; clear H; intro bX w H) | ((with_reducible refine at_dst 10 ?_); refine wpList_alloc_H rfl rfl H ?_; clear H; intro bI w H) | (refine wpList_alloc_H rfl rfl H ?_; clear H; intro b w H))
    | ((with_reducible refine at_load ?_); first | (refine wpList_load_H rfl rfl H rfl (by repeat constructor) ?_) | (refine wpList_loads_H rfl rfl H rfl (by repeat constructor) ?_))
    | ((with_reducible refine at_store ?_); first | (refine wpList_store_H rfl rfl H rfl rfl (by repeat constructor) ?_; clear H; intro w H))
    | (go_at_call 40; refine (guestAt_c B g _ (R.at_ H) Z).mono ?_; rintro e w ⟨x, he, x1, K⟩; rw [e2] at he; subst he; have HX := Lib.hid x1; clear x1; have ZX : GBig x := size_big HX.out (Nat.le_trans (gAtM_size _ _) ZM); replace H := H.add_all K; clear K)
    | (go_at_call 112; refine (wantOf_any x _ (H.grd1 (g := x) (by repeat constructor)).prog ZX.1).mono ?_; rintro e w ⟨he, hb⟩; rw [HX.out, ew.out] at he; subst he; replace H := H.still hb; clear hb)
    | (go_at_call 50; refine (bareOk_c B _ (R.at_ H) Z).mono ?_; rintro e w ⟨he, K⟩; rw [e1] at he; subst he; replace H := H.add_all K; clear K)
    | (go_at_call 114; refine (address_any x _ (H.grd1 (g := x) (by repeat constructor)).prog ZX.1).mono ?_; rintro e w ⟨he, hb⟩; rw [HX.out, HA.out] at he; subst he; replace H := H.still hb; clear hb)
    | (go_at_call 115; refine (insAt_c x.prog x.pc _ (H.grd1 (g := x) (by repeat constructor)).prog ZX.1 i (by rw [← HI.out, ← HX.out]; rfl)).mono ?_; rintro e w ⟨rfl, hb⟩; replace H := H.still hb; clear hb))
  refine wp_cut (fun u a' w' => ∃ (y : GV) (d : BV), Hid (d.m = withGuestM B.m g (stoppedM (gAtM B.m g) ⟨2, 0, false, (insAtM (gAtM B.m g).prog (gAtM B.m g).pc).x⟩)) ∧ Hp W0 w' [.box bR 28 (barr d).toList, .bare d] ∧ a' = puts u [(113, B.val), (114, (.int .i64 g)), (115, x.val), (116, .pointer (some ⟨bI, 1, none⟩)), (117, (.int .i64 i.x)), (118, (Exit.val ⟨2, 0, false, i.x⟩)), (119, y.val), (120, d.val), (5, (.bool true))]) ?_ ?_
  · refine wp_region_held (S := (fun w' => Rw w' bB 28 (barr B) ∧ Rw w' bX 53 (garr x) ∧ Rw w' bI 45 ([.int .i64 i.op, .int .i64 i.x] : List Value).toArray)) (by kernel_rfl) ?_
    replace H := H.drew
    refine tkH (i := 0) rfl .here (yields_loads_R rfl rfl rfl (fun _ hS => hS.1) (by repeat constructor)) ⟨H.rw_ (by repeat constructor), H.rw_ (by repeat constructor), H.rw_ (by repeat constructor)⟩ ?_
    (try go_frame)
    refine tkH (i := 1) rfl (.of rfl) (yields_val (v := (.int .i64 g)) rfl (fun _ => by go_simp)) ⟨H.rw_ (by repeat constructor), H.rw_ (by repeat constructor), H.rw_ (by repeat constructor)⟩ ?_
    (try go_frame)
    refine tkH (i := 2) rfl (.of rfl) (yields_loads_R rfl rfl rfl (fun _ hS => hS.2.1) (by repeat constructor)) ⟨H.rw_ (by repeat constructor), H.rw_ (by repeat constructor), H.rw_ (by repeat constructor)⟩ ?_
    (try go_frame)
    refine tkH (i := 3) rfl (.of rfl) (yields_val (v := .pointer (some ⟨bI, 1, none⟩)) rfl (fun _ => by go_simp)) ⟨H.rw_ (by repeat constructor), H.rw_ (by repeat constructor), H.rw_ (by repeat constructor)⟩ ?_
    (try go_frame)
    refine tkH (i := 4) rfl (.of rfl) (yields_load1_R rfl rfl rfl (fun _ hS => hS.2.2) rfl) ⟨H.rw_ (by repeat constructor), H.rw_ (by repeat constructor), H.rw_ (by repeat constructor)⟩ ?_
    (try go_frame)
    refine anyH_1 (i := 5) (by kernel_rfl) ?_
    refine wpOp_at rfl (.of rfl) rfl ?_
    refine wp_call_H Tryz.f127 rfl rfl Tryz.func127 (by kernel_rfl) rfl rfl (val_H (v := Exit.val ⟨2, 0, false, i.x⟩) H (callExit_c i.x _)) ?_
    clear H
    rintro _ w ⟨rfl, H⟩
    refine ⟨⟨H.rw_ (by repeat constructor), H.rw_ (by repeat constructor), H.rw_ (by repeat constructor)⟩, ?_⟩
    (try go_frame)
    refine anyH_1 (i := 6) (by kernel_rfl) ?_
    refine wpOp_at rfl (.of rfl) rfl ?_
    refine wp_call_H Tryz.f75 rfl rfl Tryz.func75 (by kernel_rfl) rfl rfl (made_H H ((stopped_c x ⟨2, 0, false, i.x⟩ _ rfl _ (H.grd1 (g := x) (by repeat constructor)) ZX).mono fun _ _ h => mkgS h)) ?_
    clear H
    rintro _ w ⟨y, rfl, HY, H⟩
    have zy : GBig y := gbig_mm (m := stoppedM x.m ⟨2, 0, false, i.x⟩) (show MBig _ from GBig.m ZX) HY
    refine ⟨⟨H.rw_ (by repeat constructor), H.rw_ (by repeat constructor), H.rw_ (by repeat constructor)⟩, ?_⟩
    (try go_frame)
    refine anyH_1 (i := 7) (by kernel_rfl) ?_
    refine wpOp_at rfl (.of rfl) rfl ?_
    refine wp_call_H Tryz.f38 rfl rfl Tryz.func38 (by kernel_rfl) rfl rfl (made_H H (withGuest_c B g y _ (R.at_ H) Z (H.grd1 (g := y) (by repeat constructor)) zy)) ?_
    clear H
    rintro _ w ⟨d, rfl, HD, H⟩
    refine ⟨⟨H.rw_ (by repeat constructor), H.rw_ (by repeat constructor), H.rw_ (by repeat constructor)⟩, ?_⟩
    (try go_frame)
    refine anyH_1 (i := 8) (by kernel_rfl) ?_
    refine wpOp_at rfl (.of rfl) rfl ?_
    refine wp_store_H rfl H rfl rfl (by repeat constructor) ?_
    clear H
    intro w H
    refine ⟨⟨H.rw_ (by repeat constructor), H.rw_ (by repeat constructor), H.rw_ (by repeat constructor)⟩, ?_⟩
    (try go_frame)
    refine tkH (i := 9) rfl (.of rfl) (yields_val (v := (.bool true)) rfl (fun _ => by go_simp)) ⟨H.rw_ (by repeat constructor), H.rw_ (by repeat constructor), H.rw_ (by repeat constructor)⟩ ?_
    (try go_frame)
    refine wpAnyH_done (by kernel_rfl) ?_ _
    exact ⟨rfl, y, d, (by show _ = _; rw [HD.out, HY.out, HX.out, HI.out]), H.pick (.cons (by repeat constructor) (.cons (by repeat constructor) .nil)), by first | (simp only [puts_cons, puts_nil, Act.put, List.setIfInBounds_toArray, List.set_cons_succ, List.set_cons_zero]; done) | (simp only [puts_cons, puts_nil, Act.put, List.setIfInBounds_toArray, List.set_cons_succ, List.set_cons_zero]; rfl)⟩
  clear H
  rintro u w ⟨y, d, HD, H, rfl⟩
  simp only [puts_cons, puts_nil, Act.put, List.setIfInBounds_toArray, List.set_cons_succ, List.set_cons_zero]
  go_wp2_with (first
    | go_skip
    | ((with_reducible refine at_box ?_); first | (refine wpList_box_H rfl rfl H rfl (by constructor) ?_; clear H; intro b w H))
    | ((with_reducible refine at_alloc ?_); first | (refine wpList_alloc_H rfl rfl H ?_; clear H; intro b w H))
    | ((with_reducible refine at_load ?_); first | (refine wpList_load_H rfl rfl H rfl (by repeat constructor) ?_) | (refine wpList_loads_H rfl rfl H rfl (by repeat constructor) ?_))
    | ((with_reducible refine at_store ?_); first | (refine wpList_store_H rfl rfl H rfl rfl (by repeat constructor) ?_; clear H; intro w H)))
  refine bodyPost_ret (results_H2 rfl H rfl (by repeat constructor)) rfl ⟨d, rfl, HD.out, H.pick (.cons (by repeat constructor) .nil)⟩
set_option maxRecDepth 100000 in
set_option maxHeartbeats 4000000 in
theorem bareStep_3f (B : BV) (g : Int) (e1 : bareOkM B.m = true) (e2 : hasM B.m g = true) (hw : wantM (gAtM B.m g) = 3) (hk : walkOkM (gAtM B.m g).live (addrPageM (addrM (gAtM B.m g))) 1 = false) (W0 : World) (R : BRd W0 B) (Z : BBig B) : Calls Tryz.prog 24 #[B.val, .int .i64 g] W0 fun e w' => ∃ d : BV, e = .returned (.tuple #[d.val, .bool true]) ∧ d.m = withGuestM B.m g (stoppedM (gAtM B.m g) ⟨1, addrPageM (addrM (gAtM B.m g)), false, 0⟩) ∧ Hp W0 w' [.bare d] := by
  obtain ⟨a, ha⟩ : ∃ a, a = addrM (gAtM B.m g) := ⟨_, rfl⟩
  have HA : Hid (addrM (gAtM B.m g) = a) := ha.symm
  clear ha
  obtain ⟨i, hi⟩ : ∃ i, i = insAtM (gAtM B.m g).prog (gAtM B.m g).pc := ⟨_, rfl⟩
  have HI : Hid (insAtM (gAtM B.m g).prog (gAtM B.m g).pc = i) := hi.symm
  clear hi
  have ZM : B.m.size ≤ 4194304 := Z
  obtain ⟨hb1, hb2⟩ := addr_bd e1 e2 (by rw [hw]; simp)
  rw [HA.out] at hb1 hb2
  have ha1 : a ≤ 9223372036854775807 := by omega
  have ha2 : -9223372036854775808 ≤ a := by omega
  clear hb1 hb2
  obtain ⟨p, hp⟩ : ∃ p, p = addrPageM a := ⟨_, rfl⟩
  have HP : Hid (addrPageM a = p) := hp.symm
  clear hp
  obtain ⟨c, hc⟩ : ∃ c, c = addrCellM a := ⟨_, rfl⟩
  have HC : Hid (addrCellM a = c) := hc.symm
  clear hc
  obtain ⟨pg, hpg⟩ : ∃ pg, pg = walkPageM (gAtM B.m g).live p 1 := ⟨_, rfl⟩
  have HPG : Hid (walkPageM (gAtM B.m g).live p 1 = pg) := hpg.symm
  clear hpg
  have HWK : Hid (walkOkM (gAtM B.m g).live p 1 = false) := by show _ = _; rw [← HP.out, ← HA.out]; exact hk
  have HM : withGuestM B.m g (stoppedM (gAtM B.m g) ⟨1, addrPageM (addrM (gAtM B.m g)), false, 0⟩) = withGuestM B.m g (stoppedM (gAtM B.m g) ⟨1, p, false, 0⟩) := by simp only [HA.out, HP.out, HC.out, HPG.out]
  rw [HM]
  clear HM hk
  have ew := Lib.hid hw; clear hw
  have H := Hp.start W0
  go_enter Tryz.func24, Tryz.ntmps24
  go_wp2_with (first
    | go_skip
    | ((with_reducible refine at_box ?_); first | (refine wpList_box_H (cs := (barr B).toList) rfl rfl H rfl CellsOf.agg ?_; clear H; intro bB w H) | (refine wpList_box_H rfl rfl H rfl (by constructor) ?_; clear H; intro b w H))
    | ((with_reducible refine at_alloc ?_); first | ((with_reducible refine at_dst 4 ?_); refine wpList_alloc_H rfl rfl H ?_; clear H; intro bR w H) | ((with_reducible refine at_dst 6 ?_); refine wpList_alloc_H rfl rfl H ?_; clear H; intro bX w H) | ((with_reducible refine at_dst 10 ?_); refine wpList_alloc_H rfl rfl H ?_; clear H; intro bI w H) | (refine wpList_alloc_H rfl rfl H ?_; clear H; intro b w H))
    | ((with_reducible refine at_load ?_); first | (refine wpList_load_H rfl rfl H rfl (by repeat constructor) ?_) | (refine wpList_loads_H rfl rfl H rfl (by repeat constructor) ?_))
    | ((with_reducible refine at_store ?_); first | (refine wpList_store_H rfl rfl H rfl rfl (by repeat constructor) ?_; clear H; intro w H))
    | (go_at_call 40; refine (guestAt_c B g _ (R.at_ H) Z).mono ?_; rintro e w ⟨x, he, x1, K⟩; rw [e2] at he; subst he; have HX := Lib.hid x1; clear x1; have ZX : GBig x := size_big HX.out (Nat.le_trans (gAtM_size _ _) ZM); replace H := H.add_all K; clear K)
    | (go_at_call 112; refine (wantOf_any x _ (H.grd1 (g := x) (by repeat constructor)).prog ZX.1).mono ?_; rintro e w ⟨he, hb⟩; rw [HX.out, ew.out] at he; subst he; replace H := H.still hb; clear hb)
    | (go_at_call 50; refine (bareOk_c B _ (R.at_ H) Z).mono ?_; rintro e w ⟨he, K⟩; rw [e1] at he; subst he; replace H := H.add_all K; clear K)
    | (go_at_call 114; refine (address_any x _ (H.grd1 (g := x) (by repeat constructor)).prog ZX.1).mono ?_; rintro e w ⟨he, hb⟩; rw [HX.out, HA.out] at he; subst he; replace H := H.still hb; clear hb)
    | (go_at_call 115; refine (insAt_c x.prog x.pc _ (H.grd1 (g := x) (by repeat constructor)).prog ZX.1 i (by rw [← HI.out, ← HX.out]; rfl)).mono ?_; rintro e w ⟨rfl, hb⟩; replace H := H.still hb; clear hb))
  have HL : Hid (x.live.xs = (gAtM B.m g).live) := congrArg MG.live HX.out
  refine wp_cut (fun u a' w' => ∃ (_ : Unit), Hp W0 w' [.box bB 28 (barr B).toList, .box bX 53 (garr x).toList, .box bI 45 [.int .i64 i.op, .int .i64 i.x], .gst x, .box bR 28 [.slice none 0 0, .slice none 0 0, .slice none 0 0, .int .i64 0]] ∧ a' = puts u [(63, .pointer (some ⟨bX, 4, none⟩)), (64, .slice x.live.A x.live.xs.length x.live.c), (65, (.int .i64 a)), (66, (.int .i64 p)), (67, (.bool false)), (68, (.int .i64 1)), (69, (.tuple #[.int .i64 pg, .bool false])), (62, (.tuple #[.int .i64 pg, .bool false])), (70, (.int .i64 pg)), (71, (.bool false)), (12, (.int .i64 pg)), (13, (.bool false))]) ?_ ?_
  · refine wp_region_held (S := (fun w' => Rw w' bB 28 (barr B) ∧ Rw w' bX 53 (garr x) ∧ Rw w' bI 45 ([.int .i64 i.op, .int .i64 i.x] : List Value).toArray)) (by kernel_rfl) ?_
    replace H := H.drew
    refine tkH (i := 0) rfl .here (yields_val (v := .pointer (some ⟨bX, 4, none⟩)) rfl (fun _ => by go_simp)) ⟨H.rw_ (by repeat constructor), H.rw_ (by repeat constructor), H.rw_ (by repeat constructor)⟩ ?_
    (try go_frame)
    refine tkH (i := 1) rfl (.of rfl) (yields_load1_R rfl rfl rfl (fun _ hS => hS.2.1) rfl) ⟨H.rw_ (by repeat constructor), H.rw_ (by repeat constructor), H.rw_ (by repeat constructor)⟩ ?_
    (try go_frame)
    refine tkH (i := 2) rfl (.of rfl) (yields_val (v := (.int .i64 a)) rfl (fun _ => by go_simp)) ⟨H.rw_ (by repeat constructor), H.rw_ (by repeat constructor), H.rw_ (by repeat constructor)⟩ ?_
    (try go_frame)
    refine tkH (i := 4) rfl (.of rfl) (yields_val (v := (.bool false)) rfl (fun _ => by go_simp)) ⟨H.rw_ (by repeat constructor), H.rw_ (by repeat constructor), H.rw_ (by repeat constructor)⟩ ?_
    (try go_frame)
    refine anyH_1 (i := 3) (by kernel_rfl) ?_
    refine wpOp_at rfl (.of rfl) rfl ?_
    refine wp_call_H Tryz.f119 rfl rfl Tryz.func119 (by kernel_rfl) rfl rfl (val_H (v := .int .i64 p) H ((addrPage_c a ha1 ha2 _).mono fun _ _ ⟨he, K⟩ => ⟨by rw [he, HP.out], K⟩)) ?_
    clear H
    rintro _ w ⟨rfl, H⟩
    refine ⟨⟨H.rw_ (by repeat constructor), H.rw_ (by repeat constructor), H.rw_ (by repeat constructor)⟩, ?_⟩
    (try go_frame)
    refine anyH_1 (i := 5) (by kernel_rfl) ?_
    refine wpOp_at rfl (.of rfl) rfl ?_
    refine wp_call_H Tryz.f120 rfl rfl Tryz.func120 (by kernel_rfl) rfl rfl (val_H (v := .int .i64 1) H (needOf_c false _)) ?_
    clear H
    rintro _ w ⟨rfl, H⟩
    refine ⟨⟨H.rw_ (by repeat constructor), H.rw_ (by repeat constructor), H.rw_ (by repeat constructor)⟩, ?_⟩
    (try go_frame)
    refine anyH_1 (i := 6) (by kernel_rfl) ?_
    refine wpOp_at rfl (.of rfl) rfl ?_
    refine wp_call_H Tryz.f118 rfl rfl Tryz.func118 (by kernel_rfl) rfl rfl (val_H (v := .tuple #[.int .i64 pg, .bool false]) H ((walkInner_c x.live p 1 _ (H.grd1 (g := x) (by repeat constructor)).live ZX.2.2.1).mono fun _ _ ⟨he, K⟩ => ⟨by rw [he, HL.out, HPG.out, HWK.out], K⟩)) ?_
    clear H
    rintro _ w ⟨rfl, H⟩
    refine ⟨⟨H.rw_ (by repeat constructor), H.rw_ (by repeat constructor), H.rw_ (by repeat constructor)⟩, ?_⟩
    (try go_frame)
    refine tkH (i := 7) rfl (.of rfl) (yields_val (v := (.tuple #[.int .i64 pg, .bool false])) rfl (fun _ => by go_simp)) ⟨H.rw_ (by repeat constructor), H.rw_ (by repeat constructor), H.rw_ (by repeat constructor)⟩ ?_
    (try go_frame)
    refine tkH (i := 8) rfl (.of rfl) (yields_val (v := (.int .i64 pg)) rfl (fun _ => by go_simp)) ⟨H.rw_ (by repeat constructor), H.rw_ (by repeat constructor), H.rw_ (by repeat constructor)⟩ ?_
    (try go_frame)
    refine tkH (i := 9) rfl (.of rfl) (yields_val (v := (.bool false)) rfl (fun _ => by go_simp)) ⟨H.rw_ (by repeat constructor), H.rw_ (by repeat constructor), H.rw_ (by repeat constructor)⟩ ?_
    (try go_frame)
    refine tkH (i := 10) rfl (.of rfl) (yields_val (v := (.int .i64 pg)) rfl (fun _ => by go_simp)) ⟨H.rw_ (by repeat constructor), H.rw_ (by repeat constructor), H.rw_ (by repeat constructor)⟩ ?_
    (try go_frame)
    refine tkH (i := 11) rfl (.of rfl) (yields_val (v := (.bool false)) rfl (fun _ => by go_simp)) ⟨H.rw_ (by repeat constructor), H.rw_ (by repeat constructor), H.rw_ (by repeat constructor)⟩ ?_
    (try go_frame)
    refine wpAnyH_done (by kernel_rfl) ?_ _
    exact ⟨rfl, (), H.pick (.cons (by repeat constructor) (.cons (by repeat constructor) (.cons (by repeat constructor) (.cons (by repeat constructor) (.cons (by repeat constructor) .nil))))), by first | (simp only [puts_cons, puts_nil, Act.put, List.setIfInBounds_toArray, List.set_cons_succ, List.set_cons_zero]; done) | (simp only [puts_cons, puts_nil, Act.put, List.setIfInBounds_toArray, List.set_cons_succ, List.set_cons_zero]; rfl)⟩
  clear H
  rintro u w ⟨_, H, rfl⟩
  simp only [puts_cons, puts_nil, Act.put, List.setIfInBounds_toArray, List.set_cons_succ, List.set_cons_zero]
  go_wp2_with (first
    | go_skip
    | ((with_reducible refine at_box ?_); first | (refine wpList_box_H rfl rfl H rfl (by constructor) ?_; clear H; intro b w H))
    | ((with_reducible refine at_alloc ?_); first | (refine wpList_alloc_H rfl rfl H ?_; clear H; intro b w H))
    | ((with_reducible refine at_load ?_); first | (refine wpList_load_H rfl rfl H rfl (by repeat constructor) ?_) | (refine wpList_loads_H rfl rfl H rfl (by repeat constructor) ?_))
    | ((with_reducible refine at_store ?_); first | (refine wpList_store_H rfl rfl H rfl rfl (by repeat constructor) ?_; clear H; intro w H)))
  refine wp_cut (fun u a' w' => ∃ (y : GV) (d : BV), Hid (d.m = withGuestM B.m g (stoppedM (gAtM B.m g) ⟨1, p, false, 0⟩)) ∧ Hp W0 w' [.box bR 28 (barr d).toList, .bare d] ∧ a' = puts u [(75, B.val), (76, (.int .i64 g)), (77, x.val), (78, (.int .i64 a)), (79, (.int .i64 p)), (80, (.bool false)), (81, (Exit.val ⟨1, p, false, 0⟩)), (82, y.val), (83, d.val), (5, (.bool true))]) ?_ ?_
  · refine wp_region_held (S := (fun w' => Rw w' bB 28 (barr B) ∧ Rw w' bX 53 (garr x) ∧ Rw w' bI 45 ([.int .i64 i.op, .int .i64 i.x] : List Value).toArray)) (by kernel_rfl) ?_
    replace H := H.drew
    refine tkH (i := 0) rfl .here (yields_loads_R rfl rfl rfl (fun _ hS => hS.1) (by repeat constructor)) ⟨H.rw_ (by repeat constructor), H.rw_ (by repeat constructor), H.rw_ (by repeat constructor)⟩ ?_
    (try go_frame)
    refine tkH (i := 1) rfl (.of rfl) (yields_val (v := (.int .i64 g)) rfl (fun _ => by go_simp)) ⟨H.rw_ (by repeat constructor), H.rw_ (by repeat constructor), H.rw_ (by repeat constructor)⟩ ?_
    (try go_frame)
    refine tkH (i := 2) rfl (.of rfl) (yields_loads_R rfl rfl rfl (fun _ hS => hS.2.1) (by repeat constructor)) ⟨H.rw_ (by repeat constructor), H.rw_ (by repeat constructor), H.rw_ (by repeat constructor)⟩ ?_
    (try go_frame)
    refine tkH (i := 3) rfl (.of rfl) (yields_val (v := (.int .i64 a)) rfl (fun _ => by go_simp)) ⟨H.rw_ (by repeat constructor), H.rw_ (by repeat constructor), H.rw_ (by repeat constructor)⟩ ?_
    (try go_frame)
    refine tkH (i := 5) rfl (.of rfl) (yields_val (v := (.bool false)) rfl (fun _ => by go_simp)) ⟨H.rw_ (by repeat constructor), H.rw_ (by repeat constructor), H.rw_ (by repeat constructor)⟩ ?_
    (try go_frame)
    refine anyH_1 (i := 4) (by kernel_rfl) ?_
    refine wpOp_at rfl (.of rfl) rfl ?_
    refine wp_call_H Tryz.f119 rfl rfl Tryz.func119 (by kernel_rfl) rfl rfl (val_H (v := .int .i64 p) H ((addrPage_c a ha1 ha2 _).mono fun _ _ ⟨he, K⟩ => ⟨by rw [he, HP.out], K⟩)) ?_
    clear H
    rintro _ w ⟨rfl, H⟩
    refine ⟨⟨H.rw_ (by repeat constructor), H.rw_ (by repeat constructor), H.rw_ (by repeat constructor)⟩, ?_⟩
    (try go_frame)
    refine anyH_1 (i := 6) (by kernel_rfl) ?_
    refine wpOp_at rfl (.of rfl) rfl ?_
    refine wp_call_H Tryz.f121 rfl rfl Tryz.func121 (by kernel_rfl) rfl rfl (val_H (v := Exit.val ⟨1, p, false, 0⟩) H (faultExit_c p false _)) ?_
    clear H
    rintro _ w ⟨rfl, H⟩
    refine ⟨⟨H.rw_ (by repeat constructor), H.rw_ (by repeat constructor), H.rw_ (by repeat constructor)⟩, ?_⟩
    (try go_frame)
    refine anyH_1 (i := 7) (by kernel_rfl) ?_
    refine wpOp_at rfl (.of rfl) rfl ?_
    refine wp_call_H Tryz.f75 rfl rfl Tryz.func75 (by kernel_rfl) rfl rfl (made_H H ((stopped_c x ⟨1, p, false, 0⟩ _ rfl _ (H.grd1 (g := x) (by repeat constructor)) ZX).mono fun _ _ h => mkgS h)) ?_
    clear H
    rintro _ w ⟨y, rfl, HY, H⟩
    have zy : GBig y := gbig_mm (m := stoppedM x.m ⟨1, p, false, 0⟩) (show MBig _ from GBig.m ZX) HY
    refine ⟨⟨H.rw_ (by repeat constructor), H.rw_ (by repeat constructor), H.rw_ (by repeat constructor)⟩, ?_⟩
    (try go_frame)
    refine anyH_1 (i := 8) (by kernel_rfl) ?_
    refine wpOp_at rfl (.of rfl) rfl ?_
    refine wp_call_H Tryz.f38 rfl rfl Tryz.func38 (by kernel_rfl) rfl rfl (made_H H (withGuest_c B g y _ (R.at_ H) Z (H.grd1 (g := y) (by repeat constructor)) zy)) ?_
    clear H
    rintro _ w ⟨d, rfl, HD, H⟩
    refine ⟨⟨H.rw_ (by repeat constructor), H.rw_ (by repeat constructor), H.rw_ (by repeat constructor)⟩, ?_⟩
    (try go_frame)
    refine anyH_1 (i := 9) (by kernel_rfl) ?_
    refine wpOp_at rfl (.of rfl) rfl ?_
    refine wp_store_H rfl H rfl rfl (by repeat constructor) ?_
    clear H
    intro w H
    refine ⟨⟨H.rw_ (by repeat constructor), H.rw_ (by repeat constructor), H.rw_ (by repeat constructor)⟩, ?_⟩
    (try go_frame)
    refine tkH (i := 10) rfl (.of rfl) (yields_val (v := (.bool true)) rfl (fun _ => by go_simp)) ⟨H.rw_ (by repeat constructor), H.rw_ (by repeat constructor), H.rw_ (by repeat constructor)⟩ ?_
    (try go_frame)
    refine wpAnyH_done (by kernel_rfl) ?_ _
    exact ⟨rfl, y, d, (by show _ = _; rw [HD.out, HY.out, HX.out]), H.pick (.cons (by repeat constructor) (.cons (by repeat constructor) .nil)), by first | (simp only [puts_cons, puts_nil, Act.put, List.setIfInBounds_toArray, List.set_cons_succ, List.set_cons_zero]; done) | (simp only [puts_cons, puts_nil, Act.put, List.setIfInBounds_toArray, List.set_cons_succ, List.set_cons_zero]; rfl)⟩
  clear H
  rintro u w ⟨y, d, HD, H, rfl⟩
  simp only [puts_cons, puts_nil, Act.put, List.setIfInBounds_toArray, List.set_cons_succ, List.set_cons_zero]
  go_wp2_with (first
    | go_skip
    | ((with_reducible refine at_box ?_); first | (refine wpList_box_H rfl rfl H rfl (by constructor) ?_; clear H; intro b w H))
    | ((with_reducible refine at_alloc ?_); first | (refine wpList_alloc_H rfl rfl H ?_; clear H; intro b w H))
    | ((with_reducible refine at_load ?_); first | (refine wpList_load_H rfl rfl H rfl (by repeat constructor) ?_) | (refine wpList_loads_H rfl rfl H rfl (by repeat constructor) ?_))
    | ((with_reducible refine at_store ?_); first | (refine wpList_store_H rfl rfl H rfl rfl (by repeat constructor) ?_; clear H; intro w H)))
  refine bodyPost_ret (results_H2 rfl H rfl (by repeat constructor)) rfl ⟨d, rfl, HD.out, H.pick (.cons (by repeat constructor) .nil)⟩
set_option maxRecDepth 100000 in
set_option maxHeartbeats 4000000 in
theorem bareStep_3t (B : BV) (g : Int) (e1 : bareOkM B.m = true) (e2 : hasM B.m g = true) (hw : wantM (gAtM B.m g) = 3) (hk : walkOkM (gAtM B.m g).live (addrPageM (addrM (gAtM B.m g))) 1 = true) (W0 : World) (R : BRd W0 B) (Z : BBig B) : Calls Tryz.prog 24 #[B.val, .int .i64 g] W0 fun e w' => ∃ d : BV, e = .returned (.tuple #[d.val, .bool true]) ∧ d.m = withGuestM B.m g (loadedM (gAtM B.m g) (cellAtM B.m.memory (walkPageM (gAtM B.m g).live (addrPageM (addrM (gAtM B.m g))) 1) (addrCellM (addrM (gAtM B.m g))))) ∧ Hp W0 w' [.bare d] := by
  obtain ⟨a, ha⟩ : ∃ a, a = addrM (gAtM B.m g) := ⟨_, rfl⟩
  have HA : Hid (addrM (gAtM B.m g) = a) := ha.symm
  clear ha
  obtain ⟨i, hi⟩ : ∃ i, i = insAtM (gAtM B.m g).prog (gAtM B.m g).pc := ⟨_, rfl⟩
  have HI : Hid (insAtM (gAtM B.m g).prog (gAtM B.m g).pc = i) := hi.symm
  clear hi
  have ZM : B.m.size ≤ 4194304 := Z
  obtain ⟨hb1, hb2⟩ := addr_bd e1 e2 (by rw [hw]; simp)
  rw [HA.out] at hb1 hb2
  have ha1 : a ≤ 9223372036854775807 := by omega
  have ha2 : -9223372036854775808 ≤ a := by omega
  clear hb1 hb2
  obtain ⟨p, hp⟩ : ∃ p, p = addrPageM a := ⟨_, rfl⟩
  have HP : Hid (addrPageM a = p) := hp.symm
  clear hp
  obtain ⟨c, hc⟩ : ∃ c, c = addrCellM a := ⟨_, rfl⟩
  have HC : Hid (addrCellM a = c) := hc.symm
  clear hc
  obtain ⟨pg, hpg⟩ : ∃ pg, pg = walkPageM (gAtM B.m g).live p 1 := ⟨_, rfl⟩
  have HPG : Hid (walkPageM (gAtM B.m g).live p 1 = pg) := hpg.symm
  clear hpg
  have HWK : Hid (walkOkM (gAtM B.m g).live p 1 = true) := by show _ = _; rw [← HP.out, ← HA.out]; exact hk
  have HM : withGuestM B.m g (loadedM (gAtM B.m g) (cellAtM B.m.memory (walkPageM (gAtM B.m g).live (addrPageM (addrM (gAtM B.m g))) 1) (addrCellM (addrM (gAtM B.m g))))) = withGuestM B.m g (loadedM (gAtM B.m g) (cellAtM B.m.memory pg c)) := by simp only [HA.out, HP.out, HC.out, HPG.out]
  rw [HM]
  clear HM hk
  obtain ⟨v, hv⟩ : ∃ v, v = cellAtM B.m.memory pg c := ⟨_, rfl⟩
  have HV : Hid (cellAtM (memOf B.mem) pg c = v) := hv.symm
  rw [← hv]
  clear hv
  have ew := Lib.hid hw; clear hw
  have H := Hp.start W0
  go_enter Tryz.func24, Tryz.ntmps24
  go_wp2_with (first
    | go_skip
    | ((with_reducible refine at_box ?_); first | (refine wpList_box_H (cs := (barr B).toList) rfl rfl H rfl CellsOf.agg ?_; clear H; intro bB w H) | (refine wpList_box_H rfl rfl H rfl (by constructor) ?_; clear H; intro b w H))
    | ((with_reducible refine at_alloc ?_); first | ((with_reducible refine at_dst 4 ?_); refine wpList_alloc_H rfl rfl H ?_; clear H; intro bR w H) | ((with_reducible refine at_dst 6 ?_); refine wpList_alloc_H rfl rfl H ?_; clear H; intro bX w H) | ((with_reducible refine at_dst 10 ?_); refine wpList_alloc_H rfl rfl H ?_; clear H; intro bI w H) | (refine wpList_alloc_H rfl rfl H ?_; clear H; intro b w H))
    | ((with_reducible refine at_load ?_); first | (refine wpList_load_H rfl rfl H rfl (by repeat constructor) ?_) | (refine wpList_loads_H rfl rfl H rfl (by repeat constructor) ?_))
    | ((with_reducible refine at_store ?_); first | (refine wpList_store_H rfl rfl H rfl rfl (by repeat constructor) ?_; clear H; intro w H))
    | (go_at_call 40; refine (guestAt_c B g _ (R.at_ H) Z).mono ?_; rintro e w ⟨x, he, x1, K⟩; rw [e2] at he; subst he; have HX := Lib.hid x1; clear x1; have ZX : GBig x := size_big HX.out (Nat.le_trans (gAtM_size _ _) ZM); replace H := H.add_all K; clear K)
    | (go_at_call 112; refine (wantOf_any x _ (H.grd1 (g := x) (by repeat constructor)).prog ZX.1).mono ?_; rintro e w ⟨he, hb⟩; rw [HX.out, ew.out] at he; subst he; replace H := H.still hb; clear hb)
    | (go_at_call 50; refine (bareOk_c B _ (R.at_ H) Z).mono ?_; rintro e w ⟨he, K⟩; rw [e1] at he; subst he; replace H := H.add_all K; clear K)
    | (go_at_call 114; refine (address_any x _ (H.grd1 (g := x) (by repeat constructor)).prog ZX.1).mono ?_; rintro e w ⟨he, hb⟩; rw [HX.out, HA.out] at he; subst he; replace H := H.still hb; clear hb)
    | (go_at_call 115; refine (insAt_c x.prog x.pc _ (H.grd1 (g := x) (by repeat constructor)).prog ZX.1 i (by rw [← HI.out, ← HX.out]; rfl)).mono ?_; rintro e w ⟨rfl, hb⟩; replace H := H.still hb; clear hb))
  have HL : Hid (x.live.xs = (gAtM B.m g).live) := congrArg MG.live HX.out
  refine wp_cut (fun u a' w' => ∃ (_ : Unit), Hp W0 w' [.box bB 28 (barr B).toList, .box bX 53 (garr x).toList, .box bI 45 [.int .i64 i.op, .int .i64 i.x], .gst x, .box bR 28 [.slice none 0 0, .slice none 0 0, .slice none 0 0, .int .i64 0]] ∧ a' = puts u [(63, .pointer (some ⟨bX, 4, none⟩)), (64, .slice x.live.A x.live.xs.length x.live.c), (65, (.int .i64 a)), (66, (.int .i64 p)), (67, (.bool false)), (68, (.int .i64 1)), (69, (.tuple #[.int .i64 pg, .bool true])), (62, (.tuple #[.int .i64 pg, .bool true])), (70, (.int .i64 pg)), (71, (.bool true)), (12, (.int .i64 pg)), (13, (.bool true))]) ?_ ?_
  · refine wp_region_held (S := (fun w' => Rw w' bB 28 (barr B) ∧ Rw w' bX 53 (garr x) ∧ Rw w' bI 45 ([.int .i64 i.op, .int .i64 i.x] : List Value).toArray)) (by kernel_rfl) ?_
    replace H := H.drew
    refine tkH (i := 0) rfl .here (yields_val (v := .pointer (some ⟨bX, 4, none⟩)) rfl (fun _ => by go_simp)) ⟨H.rw_ (by repeat constructor), H.rw_ (by repeat constructor), H.rw_ (by repeat constructor)⟩ ?_
    (try go_frame)
    refine tkH (i := 1) rfl (.of rfl) (yields_load1_R rfl rfl rfl (fun _ hS => hS.2.1) rfl) ⟨H.rw_ (by repeat constructor), H.rw_ (by repeat constructor), H.rw_ (by repeat constructor)⟩ ?_
    (try go_frame)
    refine tkH (i := 2) rfl (.of rfl) (yields_val (v := (.int .i64 a)) rfl (fun _ => by go_simp)) ⟨H.rw_ (by repeat constructor), H.rw_ (by repeat constructor), H.rw_ (by repeat constructor)⟩ ?_
    (try go_frame)
    refine tkH (i := 4) rfl (.of rfl) (yields_val (v := (.bool false)) rfl (fun _ => by go_simp)) ⟨H.rw_ (by repeat constructor), H.rw_ (by repeat constructor), H.rw_ (by repeat constructor)⟩ ?_
    (try go_frame)
    refine anyH_1 (i := 3) (by kernel_rfl) ?_
    refine wpOp_at rfl (.of rfl) rfl ?_
    refine wp_call_H Tryz.f119 rfl rfl Tryz.func119 (by kernel_rfl) rfl rfl (val_H (v := .int .i64 p) H ((addrPage_c a ha1 ha2 _).mono fun _ _ ⟨he, K⟩ => ⟨by rw [he, HP.out], K⟩)) ?_
    clear H
    rintro _ w ⟨rfl, H⟩
    refine ⟨⟨H.rw_ (by repeat constructor), H.rw_ (by repeat constructor), H.rw_ (by repeat constructor)⟩, ?_⟩
    (try go_frame)
    refine anyH_1 (i := 5) (by kernel_rfl) ?_
    refine wpOp_at rfl (.of rfl) rfl ?_
    refine wp_call_H Tryz.f120 rfl rfl Tryz.func120 (by kernel_rfl) rfl rfl (val_H (v := .int .i64 1) H (needOf_c false _)) ?_
    clear H
    rintro _ w ⟨rfl, H⟩
    refine ⟨⟨H.rw_ (by repeat constructor), H.rw_ (by repeat constructor), H.rw_ (by repeat constructor)⟩, ?_⟩
    (try go_frame)
    refine anyH_1 (i := 6) (by kernel_rfl) ?_
    refine wpOp_at rfl (.of rfl) rfl ?_
    refine wp_call_H Tryz.f118 rfl rfl Tryz.func118 (by kernel_rfl) rfl rfl (val_H (v := .tuple #[.int .i64 pg, .bool true]) H ((walkInner_c x.live p 1 _ (H.grd1 (g := x) (by repeat constructor)).live ZX.2.2.1).mono fun _ _ ⟨he, K⟩ => ⟨by rw [he, HL.out, HPG.out, HWK.out], K⟩)) ?_
    clear H
    rintro _ w ⟨rfl, H⟩
    refine ⟨⟨H.rw_ (by repeat constructor), H.rw_ (by repeat constructor), H.rw_ (by repeat constructor)⟩, ?_⟩
    (try go_frame)
    refine tkH (i := 7) rfl (.of rfl) (yields_val (v := (.tuple #[.int .i64 pg, .bool true])) rfl (fun _ => by go_simp)) ⟨H.rw_ (by repeat constructor), H.rw_ (by repeat constructor), H.rw_ (by repeat constructor)⟩ ?_
    (try go_frame)
    refine tkH (i := 8) rfl (.of rfl) (yields_val (v := (.int .i64 pg)) rfl (fun _ => by go_simp)) ⟨H.rw_ (by repeat constructor), H.rw_ (by repeat constructor), H.rw_ (by repeat constructor)⟩ ?_
    (try go_frame)
    refine tkH (i := 9) rfl (.of rfl) (yields_val (v := (.bool true)) rfl (fun _ => by go_simp)) ⟨H.rw_ (by repeat constructor), H.rw_ (by repeat constructor), H.rw_ (by repeat constructor)⟩ ?_
    (try go_frame)
    refine tkH (i := 10) rfl (.of rfl) (yields_val (v := (.int .i64 pg)) rfl (fun _ => by go_simp)) ⟨H.rw_ (by repeat constructor), H.rw_ (by repeat constructor), H.rw_ (by repeat constructor)⟩ ?_
    (try go_frame)
    refine tkH (i := 11) rfl (.of rfl) (yields_val (v := (.bool true)) rfl (fun _ => by go_simp)) ⟨H.rw_ (by repeat constructor), H.rw_ (by repeat constructor), H.rw_ (by repeat constructor)⟩ ?_
    (try go_frame)
    refine wpAnyH_done (by kernel_rfl) ?_ _
    exact ⟨rfl, (), H.pick (.cons (by repeat constructor) (.cons (by repeat constructor) (.cons (by repeat constructor) (.cons (by repeat constructor) (.cons (by repeat constructor) .nil))))), by first | (simp only [puts_cons, puts_nil, Act.put, List.setIfInBounds_toArray, List.set_cons_succ, List.set_cons_zero]; done) | (simp only [puts_cons, puts_nil, Act.put, List.setIfInBounds_toArray, List.set_cons_succ, List.set_cons_zero]; rfl)⟩
  clear H
  rintro u w ⟨_, H, rfl⟩
  simp only [puts_cons, puts_nil, Act.put, List.setIfInBounds_toArray, List.set_cons_succ, List.set_cons_zero]
  go_wp2_with (first
    | go_skip
    | ((with_reducible refine at_box ?_); first | (refine wpList_box_H rfl rfl H rfl (by constructor) ?_; clear H; intro b w H))
    | ((with_reducible refine at_alloc ?_); first | (refine wpList_alloc_H rfl rfl H ?_; clear H; intro b w H))
    | ((with_reducible refine at_load ?_); first | (refine wpList_load_H rfl rfl H rfl (by repeat constructor) ?_) | (refine wpList_loads_H rfl rfl H rfl (by repeat constructor) ?_))
    | ((with_reducible refine at_store ?_); first | (refine wpList_store_H rfl rfl H rfl rfl (by repeat constructor) ?_; clear H; intro w H)))
  refine wp_cut (fun u a' w' => ∃ (y : GV) (d : BV), Hid (d.m = withGuestM B.m g (loadedM (gAtM B.m g) v)) ∧ Hp W0 w' [.box bR 28 (barr d).toList, .bare d] ∧ a' = puts u [(100, B.val), (101, (.int .i64 g)), (102, x.val), (103, .pointer (some ⟨bB, 0, none⟩)), (104, .slice B.mem.A B.mem.xs.length B.mem.c), (105, (.int .i64 pg)), (106, (.int .i64 a)), (107, (.int .i64 c)), (108, (.int .i64 v)), (109, y.val), (110, d.val), (5, (.bool true))]) ?_ ?_
  · refine wp_region_held (S := (fun w' => Rw w' bB 28 (barr B) ∧ Rw w' bX 53 (garr x) ∧ Rw w' bI 45 ([.int .i64 i.op, .int .i64 i.x] : List Value).toArray)) (by kernel_rfl) ?_
    replace H := H.drew
    refine tkH (i := 0) rfl .here (yields_loads_R rfl rfl rfl (fun _ hS => hS.1) (by repeat constructor)) ⟨H.rw_ (by repeat constructor), H.rw_ (by repeat constructor), H.rw_ (by repeat constructor)⟩ ?_
    (try go_frame)
    refine tkH (i := 1) rfl (.of rfl) (yields_val (v := (.int .i64 g)) rfl (fun _ => by go_simp)) ⟨H.rw_ (by repeat constructor), H.rw_ (by repeat constructor), H.rw_ (by repeat constructor)⟩ ?_
    (try go_frame)
    refine tkH (i := 2) rfl (.of rfl) (yields_loads_R rfl rfl rfl (fun _ hS => hS.2.1) (by repeat constructor)) ⟨H.rw_ (by repeat constructor), H.rw_ (by repeat constructor), H.rw_ (by repeat constructor)⟩ ?_
    (try go_frame)
    refine tkH (i := 3) rfl (.of rfl) (yields_val (v := .pointer (some ⟨bB, 0, none⟩)) rfl (fun _ => by go_simp)) ⟨H.rw_ (by repeat constructor), H.rw_ (by repeat constructor), H.rw_ (by repeat constructor)⟩ ?_
    (try go_frame)
    refine tkH (i := 4) rfl (.of rfl) (yields_load1_R rfl rfl rfl (fun _ hS => hS.1) rfl) ⟨H.rw_ (by repeat constructor), H.rw_ (by repeat constructor), H.rw_ (by repeat constructor)⟩ ?_
    (try go_frame)
    refine tkH (i := 5) rfl (.of rfl) (yields_val (v := (.int .i64 pg)) rfl (fun _ => by go_simp)) ⟨H.rw_ (by repeat constructor), H.rw_ (by repeat constructor), H.rw_ (by repeat constructor)⟩ ?_
    (try go_frame)
    refine tkH (i := 6) rfl (.of rfl) (yields_val (v := (.int .i64 a)) rfl (fun _ => by go_simp)) ⟨H.rw_ (by repeat constructor), H.rw_ (by repeat constructor), H.rw_ (by repeat constructor)⟩ ?_
    (try go_frame)
    refine anyH_1 (i := 7) (by kernel_rfl) ?_
    refine wpOp_at rfl (.of rfl) rfl ?_
    refine wp_call_H Tryz.f123 rfl rfl Tryz.func123 (by kernel_rfl) rfl rfl (val_H (v := .int .i64 c) H ((addrCell_c a ha1 ha2 _).mono fun _ _ ⟨he, K⟩ => ⟨by rw [he, HC.out], K⟩)) ?_
    clear H
    rintro _ w ⟨rfl, H⟩
    refine ⟨⟨H.rw_ (by repeat constructor), H.rw_ (by repeat constructor), H.rw_ (by repeat constructor)⟩, ?_⟩
    (try go_frame)
    refine anyH_1 (i := 8) (by kernel_rfl) ?_
    refine wpOp_at rfl (.of rfl) rfl ?_
    refine wp_call_H Tryz.f126 rfl rfl Tryz.func126 (by kernel_rfl) rfl rfl (val_H (v := .int .i64 v) H ((cellAt_c B.mem pg c _ (R.mem.at_ H) (fun x hx => (R.memi x hx).at_ H) Z.mem Z.memi).mono fun _ _ ⟨he, K⟩ => ⟨by rw [he, HV.out], K⟩)) ?_
    clear H
    rintro _ w ⟨rfl, H⟩
    refine ⟨⟨H.rw_ (by repeat constructor), H.rw_ (by repeat constructor), H.rw_ (by repeat constructor)⟩, ?_⟩
    (try go_frame)
    refine anyH_1 (i := 9) (by kernel_rfl) ?_
    refine wpOp_at rfl (.of rfl) rfl ?_
    refine wp_call_H Tryz.f125 rfl rfl Tryz.func125 (by kernel_rfl) rfl rfl (made_H H ((loaded_c x v _ rfl _ (H.grd1 (g := x) (by repeat constructor)) ZX).mono fun _ _ h => mkgS h)) ?_
    clear H
    rintro _ w ⟨y, rfl, HY, H⟩
    have zy : GBig y := gbig_mm (m := loadedM x.m v) (show MBig (movedM (sawM { x.m with a := v } v)) from sawM_big (m := { x.m with a := v }) (show MBig _ from GBig.m ZX) v) HY
    refine ⟨⟨H.rw_ (by repeat constructor), H.rw_ (by repeat constructor), H.rw_ (by repeat constructor)⟩, ?_⟩
    (try go_frame)
    refine anyH_1 (i := 10) (by kernel_rfl) ?_
    refine wpOp_at rfl (.of rfl) rfl ?_
    refine wp_call_H Tryz.f38 rfl rfl Tryz.func38 (by kernel_rfl) rfl rfl (made_H H (withGuest_c B g y _ (R.at_ H) Z (H.grd1 (g := y) (by repeat constructor)) zy)) ?_
    clear H
    rintro _ w ⟨d, rfl, HD, H⟩
    refine ⟨⟨H.rw_ (by repeat constructor), H.rw_ (by repeat constructor), H.rw_ (by repeat constructor)⟩, ?_⟩
    (try go_frame)
    refine anyH_1 (i := 11) (by kernel_rfl) ?_
    refine wpOp_at rfl (.of rfl) rfl ?_
    refine wp_store_H rfl H rfl rfl (by repeat constructor) ?_
    clear H
    intro w H
    refine ⟨⟨H.rw_ (by repeat constructor), H.rw_ (by repeat constructor), H.rw_ (by repeat constructor)⟩, ?_⟩
    (try go_frame)
    refine tkH (i := 12) rfl (.of rfl) (yields_val (v := (.bool true)) rfl (fun _ => by go_simp)) ⟨H.rw_ (by repeat constructor), H.rw_ (by repeat constructor), H.rw_ (by repeat constructor)⟩ ?_
    (try go_frame)
    refine wpAnyH_done (by kernel_rfl) ?_ _
    exact ⟨rfl, y, d, (by show _ = _; rw [HD.out, HY.out, HX.out]), H.pick (.cons (by repeat constructor) (.cons (by repeat constructor) .nil)), by first | (simp only [puts_cons, puts_nil, Act.put, List.setIfInBounds_toArray, List.set_cons_succ, List.set_cons_zero]; done) | (simp only [puts_cons, puts_nil, Act.put, List.setIfInBounds_toArray, List.set_cons_succ, List.set_cons_zero]; rfl)⟩
  clear H
  rintro u w ⟨y, d, HD, H, rfl⟩
  simp only [puts_cons, puts_nil, Act.put, List.setIfInBounds_toArray, List.set_cons_succ, List.set_cons_zero]
  go_wp2_with (first
    | go_skip
    | ((with_reducible refine at_box ?_); first | (refine wpList_box_H rfl rfl H rfl (by constructor) ?_; clear H; intro b w H))
    | ((with_reducible refine at_alloc ?_); first | (refine wpList_alloc_H rfl rfl H ?_; clear H; intro b w H))
    | ((with_reducible refine at_load ?_); first | (refine wpList_load_H rfl rfl H rfl (by repeat constructor) ?_) | (refine wpList_loads_H rfl rfl H rfl (by repeat constructor) ?_))
    | ((with_reducible refine at_store ?_); first | (refine wpList_store_H rfl rfl H rfl rfl (by repeat constructor) ?_; clear H; intro w H)))
  refine bodyPost_ret (results_H2 rfl H rfl (by repeat constructor)) rfl ⟨d, rfl, HD.out, H.pick (.cons (by repeat constructor) .nil)⟩
end Go.Proofs.YtaafnenmdombiaaGreat
