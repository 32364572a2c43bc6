/- Cases of BareStep of the reference. No condition but that the arguments lie in memory. -/
import Derived.Maps.RangeWalk
import Derived.Test.YtaafnenmdombiaaGreatSt
namespace Go.Proofs.YtaafnenmdombiaaGreat
set_option linter.unusedSimpArgs false
set_option linter.unusedVariables false
open Go.RowKit
set_option maxRecDepth 100000 in
set_option maxHeartbeats 4000000 in
theorem specBareStep_n1 (B : BV) (g : Int) (e2 : hasM B.m g = false) (W0 : World) (R : BRd W0 B) (Z : BBig B) : Calls Tryz.prog 22 #[B.val, .int .i64 g] W0 fun e w' => ∃ d : BV, e = .returned (.tuple #[d.val, .bool false]) ∧ d.m = B.m ∧ Hp W0 w' [.bare d] := by
  obtain ⟨n, hn⟩ : ∃ n, n = wantM (gAtM B.m g) := ⟨_, rfl⟩
  have ew : Hid (wantM (gAtM B.m g) = n) := hn.symm
  clear hn
  have ZM : B.m.size ≤ 4194304 := Z
  have H := Hp.start W0
  go_enter Tryz.func22, Tryz.ntmps22
  go_wp2_with (first
    | go_skip
    | ((with_reducible refine at_box ?_); first | (refine wpList_box_H (cs := (barr B).toList) rfl rfl H rfl CellsOf.agg ?_; clear H; intro bB w H) | (refine wpList_box_H rfl rfl H rfl (by constructor) ?_; clear H; intro b w H))
    | ((with_reducible refine at_alloc ?_); first | ((with_reducible refine at_dst 4 ?_); refine wpList_alloc_H rfl rfl H ?_; clear H; intro bR w H) | ((with_reducible refine at_dst 6 ?_); refine wpList_alloc_H rfl rfl H ?_; clear H; intro bX w H) | ((with_reducible refine at_dst 13 ?_); refine wpList_alloc_H rfl rfl H ?_; clear H; intro bY w H) | (refine wpList_alloc_H rfl rfl H ?_; clear H; intro b w H))
    | ((with_reducible refine at_load ?_); first | (refine wpList_load_H rfl rfl H rfl (by repeat constructor) ?_) | (refine wpList_loads_H rfl rfl H rfl (by repeat constructor) ?_))
    | ((with_reducible refine at_store ?_); first | (refine wpList_store_H rfl rfl H rfl rfl (by repeat constructor) ?_; clear H; intro w H))
    | (go_at_call 76; refine (l17Copy_c B _ (R.at_ H) Z).mono ?_; rintro e w ⟨d, rfl, x1, K⟩; have HD := Lib.hid x1; clear x1; have Zd := m_big HD Z; replace H := H.add_all K; clear K)
    | (go_at_call 41; refine (specGuestAt_c d g _ (H.brd (b := d) (by repeat constructor)) Zd).mono ?_; rintro e w ⟨x, he, x1, K⟩; rw [HD.out, e2] at he; subst he; have HX : Hid (x.m = gAtM B.m g) := (by show _ = _; rw [x1, HD.out]); clear x1; have ZX : GBig x := size_big HX.out (Nat.le_trans (gAtM_size _ _) ZM); replace H := H.add_all K; clear K)
    | (go_at_call 95; refine (specWantOf_any x _ (H.grd1 (g := x) (by repeat constructor)).prog ZX.1).mono ?_; rintro e w ⟨he, hb⟩; rw [HX.out, ew.out] at he; subst he; replace H := H.still hb; clear hb)
    | (go_at_call 51; refine (specBareOk_c d _ (H.brd (b := d) (by repeat constructor)) Zd).mono ?_; rintro e w ⟨he, K⟩; rw [HD.out, e1] at he; subst he; replace H := H.add_all K; clear K))
  refine bodyPost_ret (results_H2 rfl H rfl (by repeat constructor)) rfl ⟨d, rfl, HD.out, H.pick (.cons (by repeat constructor) .nil)⟩
set_option maxRecDepth 100000 in
set_option maxHeartbeats 4000000 in
theorem specBareStep_n2 (B : BV) (g : Int) (e2 : hasM B.m g = true) (e1 : bareOkM B.m = false) (W0 : World) (R : BRd W0 B) (Z : BBig B) : Calls Tryz.prog 22 #[B.val, .int .i64 g] W0 fun e w' => ∃ d : BV, e = .returned (.tuple #[d.val, .bool false]) ∧ d.m = B.m ∧ Hp W0 w' [.bare d] := by
  obtain ⟨n, hn⟩ : ∃ n, n = wantM (gAtM B.m g) := ⟨_, rfl⟩
  have ew : Hid (wantM (gAtM B.m g) = n) := hn.symm
  clear hn
  have ZM : B.m.size ≤ 4194304 := Z
  have H := Hp.start W0
  go_enter Tryz.func22, Tryz.ntmps22
  go_wp2_with (first
    | go_skip
    | ((with_reducible refine at_box ?_); first | (refine wpList_box_H (cs := (barr B).toList) rfl rfl H rfl CellsOf.agg ?_; clear H; intro bB w H) | (refine wpList_box_H rfl rfl H rfl (by constructor) ?_; clear H; intro b w H))
    | ((with_reducible refine at_alloc ?_); first | ((with_reducible refine at_dst 4 ?_); refine wpList_alloc_H rfl rfl H ?_; clear H; intro bR w H) | ((with_reducible refine at_dst 6 ?_); refine wpList_alloc_H rfl rfl H ?_; clear H; intro bX w H) | ((with_reducible refine at_dst 13 ?_); refine wpList_alloc_H rfl rfl H ?_; clear H; intro bY w H) | (refine wpList_alloc_H rfl rfl H ?_; clear H; intro b w H))
    | ((with_reducible refine at_load ?_); first | (refine wpList_load_H rfl rfl H rfl (by repeat constructor) ?_) | (refine wpList_loads_H rfl rfl H rfl (by repeat constructor) ?_))
    | ((with_reducible refine at_store ?_); first | (refine wpList_store_H rfl rfl H rfl rfl (by repeat constructor) ?_; clear H; intro w H))
    | (go_at_call 76; refine (l17Copy_c B _ (R.at_ H) Z).mono ?_; rintro e w ⟨d, rfl, x1, K⟩; have HD := Lib.hid x1; clear x1; have Zd := m_big HD Z; replace H := H.add_all K; clear K)
    | (go_at_call 41; refine (specGuestAt_c d g _ (H.brd (b := d) (by repeat constructor)) Zd).mono ?_; rintro e w ⟨x, he, x1, K⟩; rw [HD.out, e2] at he; subst he; have HX : Hid (x.m = gAtM B.m g) := (by show _ = _; rw [x1, HD.out]); clear x1; have ZX : GBig x := size_big HX.out (Nat.le_trans (gAtM_size _ _) ZM); replace H := H.add_all K; clear K)
    | (go_at_call 95; refine (specWantOf_any x _ (H.grd1 (g := x) (by repeat constructor)).prog ZX.1).mono ?_; rintro e w ⟨he, hb⟩; rw [HX.out, ew.out] at he; subst he; replace H := H.still hb; clear hb)
    | (go_at_call 51; refine (specBareOk_c d _ (H.brd (b := d) (by repeat constructor)) Zd).mono ?_; rintro e w ⟨he, K⟩; rw [HD.out, e1] at he; subst he; replace H := H.add_all K; clear K))
  refine bodyPost_ret (results_H2 rfl H rfl (by repeat constructor)) rfl ⟨d, rfl, HD.out, H.pick (.cons (by repeat constructor) .nil)⟩
set_option maxRecDepth 100000 in
set_option maxHeartbeats 4000000 in
theorem specBareStep_n3 (B : BV) (g : Int) (e1 : bareOkM B.m = true) (e2 : hasM B.m g = true) (hw : wantM (gAtM B.m g) = 0) (W0 : World) (R : BRd W0 B) (Z : BBig B) : Calls Tryz.prog 22 #[B.val, .int .i64 g] W0 fun e w' => ∃ d : BV, e = .returned (.tuple #[d.val, .bool false]) ∧ d.m = B.m ∧ Hp W0 w' [.bare d] := by
  have ew := Lib.hid hw; clear hw
  have ZM : B.m.size ≤ 4194304 := Z
  have H := Hp.start W0
  go_enter Tryz.func22, Tryz.ntmps22
  go_wp2_with (first
    | go_skip
    | ((with_reducible refine at_box ?_); first | (refine wpList_box_H (cs := (barr B).toList) rfl rfl H rfl CellsOf.agg ?_; clear H; intro bB w H) | (refine wpList_box_H rfl rfl H rfl (by constructor) ?_; clear H; intro b w H))
    | ((with_reducible refine at_alloc ?_); first | ((with_reducible refine at_dst 4 ?_); refine wpList_alloc_H rfl rfl H ?_; clear H; intro bR w H) | ((with_reducible refine at_dst 6 ?_); refine wpList_alloc_H rfl rfl H ?_; clear H; intro bX w H) | ((with_reducible refine at_dst 13 ?_); refine wpList_alloc_H rfl rfl H ?_; clear H; intro bY w H) | (refine wpList_alloc_H rfl rfl H ?_; clear H; intro b w H))
    | ((with_reducible refine at_load ?_); first | (refine wpList_load_H rfl rfl H rfl (by repeat constructor) ?_) | (refine wpList_loads_H rfl rfl H rfl (by repeat constructor) ?_))
    | ((with_reducible refine at_store ?_); first | (refine wpList_store_H rfl rfl H rfl rfl (by repeat constructor) ?_; clear H; intro w H))
    | (go_at_call 76; refine (l17Copy_c B _ (R.at_ H) Z).mono ?_; rintro e w ⟨d, rfl, x1, K⟩; have HD := Lib.hid x1; clear x1; have Zd := m_big HD Z; replace H := H.add_all K; clear K)
    | (go_at_call 41; refine (specGuestAt_c d g _ (H.brd (b := d) (by repeat constructor)) Zd).mono ?_; rintro e w ⟨x, he, x1, K⟩; rw [HD.out, e2] at he; subst he; have HX : Hid (x.m = gAtM B.m g) := (by show _ = _; rw [x1, HD.out]); clear x1; have ZX : GBig x := size_big HX.out (Nat.le_trans (gAtM_size _ _) ZM); replace H := H.add_all K; clear K)
    | (go_at_call 95; refine (specWantOf_any x _ (H.grd1 (g := x) (by repeat constructor)).prog ZX.1).mono ?_; rintro e w ⟨he, hb⟩; rw [HX.out, ew.out] at he; subst he; replace H := H.still hb; clear hb)
    | (go_at_call 51; refine (specBareOk_c d _ (H.brd (b := d) (by repeat constructor)) Zd).mono ?_; rintro e w ⟨he, K⟩; rw [HD.out, e1] at he; subst he; replace H := H.add_all K; clear K))
  refine bodyPost_ret (results_H2 rfl H rfl (by repeat constructor)) rfl ⟨d, rfl, HD.out, H.pick (.cons (by repeat constructor) .nil)⟩
set_option maxRecDepth 100000 in
set_option maxHeartbeats 4000000 in
theorem specBareStep_1 (B : BV) (g : Int) (e1 : bareOkM B.m = true) (e2 : hasM B.m g = true) (hw : wantM (gAtM B.m g) = 1) (W0 : World) (R : BRd W0 B) (Z : BBig B) : Calls Tryz.prog 22 #[B.val, .int .i64 g] W0 fun e w' => ∃ d : BV, e = .returned (.tuple #[d.val, .bool true]) ∧ d.m = withGuestM B.m g (interruptedM (gAtM B.m g)) ∧ Hp W0 w' [.bare d] := by
  have hg : 0 ≤ g ∧ g < B.gs.xs.length := by simpa [hasM, hasB, BV.m, gsOf] using e2
  obtain ⟨k, rfl⟩ := Int.eq_ofNat_of_zero_le hg.1
  have hk : k < B.gs.xs.length := by omega
  clear hg
  obtain ⟨a, ha⟩ : ∃ a, a = addrM (gAtM B.m k) := ⟨_, rfl⟩
  have HA : Hid (addrM (gAtM B.m k) = a) := ha.symm
  clear ha
  obtain ⟨i, hi⟩ : ∃ i, i = insAtM (gAtM B.m k).prog (gAtM B.m k).pc := ⟨_, rfl⟩
  have HI : Hid (insAtM (gAtM B.m k).prog (gAtM B.m k).pc = i) := hi.symm
  clear hi
  have ZM : B.m.size ≤ 4194304 := Z
  have ew := Lib.hid hw; clear hw
  have H := Hp.start W0
  go_enter Tryz.func22, Tryz.ntmps22
  go_wp2_with (first
    | go_skip
    | ((with_reducible refine at_box ?_); first | (refine wpList_box_H (cs := (barr B).toList) rfl rfl H rfl CellsOf.agg ?_; clear H; intro bB w H) | (refine wpList_box_H rfl rfl H rfl (by constructor) ?_; clear H; intro b w H))
    | ((with_reducible refine at_alloc ?_); first | ((with_reducible refine at_dst 4 ?_); refine wpList_alloc_H rfl rfl H ?_; clear H; intro bR w H) | ((with_reducible refine at_dst 6 ?_); refine wpList_alloc_H rfl rfl H ?_; clear H; intro bX w H) | ((with_reducible refine at_dst 13 ?_); refine wpList_alloc_H rfl rfl H ?_; clear H; intro bY w H) | (refine wpList_alloc_H rfl rfl H ?_; clear H; intro b w H))
    | ((with_reducible refine at_load ?_); first | (refine wpList_load_H rfl rfl H rfl (by repeat constructor) ?_) | (refine wpList_loads_H rfl rfl H rfl (by repeat constructor) ?_))
    | ((with_reducible refine at_store ?_); first | (refine wpList_store_H rfl rfl H rfl rfl (by repeat constructor) ?_; clear H; intro w H))
    | (go_at_call 76; refine (l17Copy_c B _ (R.at_ H) Z).mono ?_; rintro e w ⟨d, rfl, x1, K⟩; have HD := Lib.hid x1; clear x1; have Zd := m_big HD Z; replace H := H.add_all K; clear K)
    | (go_at_call 41; refine (specGuestAt_c d k _ (H.brd (b := d) (by repeat constructor)) Zd).mono ?_; rintro e w ⟨x, he, x1, K⟩; rw [HD.out, e2] at he; subst he; have HX : Hid (x.m = gAtM B.m k) := (by show _ = _; rw [x1, HD.out]); clear x1; have ZX : GBig x := size_big HX.out (Nat.le_trans (gAtM_size _ _) ZM); replace H := H.add_all K; clear K)
    | (go_at_call 95; refine (specWantOf_any x _ (H.grd1 (g := x) (by repeat constructor)).prog ZX.1).mono ?_; rintro e w ⟨he, hb⟩; rw [HX.out, ew.out] at he; subst he; replace H := H.still hb; clear hb)
    | (go_at_call 51; refine (specBareOk_c d _ (H.brd (b := d) (by repeat constructor)) Zd).mono ?_; rintro e w ⟨he, K⟩; rw [HD.out, e1] at he; subst he; replace H := H.add_all K; clear K)
    | (go_at_call 98; refine (specAddress_any x _ (H.grd1 (g := x) (by repeat constructor)).prog ZX.1).mono ?_; rintro e w ⟨he, hb⟩; rw [HX.out, HA.out] at he; subst he; replace H := H.still hb; clear hb))
  replace H := (H.take (e := .bare d) (by repeat constructor)).bparts
  refine wp_cut (fun u a' w' => ∃ (y : GV), Hid (y.m = interruptedM (gAtM B.m k)) ∧ Hp W0 w' [.gst y, .many En.gst d.gs.xs, .gsl ⟨d.gs.A, d.gs.c, d.gs.xs.set k y⟩, .rows d.mem, .many En.int d.mem.xs, .int d.outs, .box bB 28 (barr d).toList, .box bR 28 [.slice none 0 0, .slice none 0 0, .slice none 0 0, .int .i64 0]] ∧ a' = puts u [(67, .pointer (some ⟨bB, 1, none⟩)), (68, .slice d.gs.A d.gs.xs.length d.gs.c), (69, (.int .i64 k)), (70, x.val), (71, y.val), (72, (.pointer (some ⟨ablk d.gs.A, aoff d.gs.A + k * 15, none⟩)))]) ?_ ?_
  · refine wp_region_held (S := (fun w' => Rw w' bB 28 (barr d) ∧ Rw w' bX 53 (garr x))) (by kernel_rfl) ?_
    replace H := H.drew
    refine tkH (i := 0) rfl .here (yields_val (v := .pointer (some ⟨bB, 1, none⟩)) rfl (fun _ => by go_simp)) ⟨H.rw_ (by repeat constructor), H.rw_ (by repeat constructor)⟩ ?_
    (try go_frame)
    refine tkH (i := 1) rfl (.of rfl) (yields_load1_R rfl rfl rfl (fun _ hS => hS.1) rfl) ⟨H.rw_ (by repeat constructor), H.rw_ (by repeat constructor)⟩ ?_
    (try go_frame)
    refine tkH (i := 2) rfl (.of rfl) (yields_val (v := (.int .i64 k)) rfl (fun _ => by go_simp)) ⟨H.rw_ (by repeat constructor), H.rw_ (by repeat constructor)⟩ ?_
    (try go_frame)
    refine tkH (i := 3) rfl (.of rfl) (yields_loads_R rfl rfl rfl (fun _ hS => hS.2) (by repeat constructor)) ⟨H.rw_ (by repeat constructor), H.rw_ (by repeat constructor)⟩ ?_
    (try go_frame)
    refine anyH_1 (i := 4) (by kernel_rfl) ?_
    refine wpOp_at rfl (.of rfl) rfl ?_
    refine wp_call_H Tryz.f96 rfl rfl Tryz.func96 (by kernel_rfl) rfl rfl (made_H H ((specInterrupted_c x _ rfl _ (H.grd1 (g := x) (by repeat constructor)) ZX).mono fun _ _ h => mkgS h)) ?_
    clear H
    rintro _ w ⟨y, rfl, HY, H⟩
    refine ⟨⟨H.rw_ (by repeat constructor), H.rw_ (by repeat constructor)⟩, ?_⟩
    (try go_frame)
    refine anyH_1 (i := 5) (by kernel_rfl) ?_
    refine wpOp_at rfl (.of rfl) rfl ?_
    refine wp_index_n rfl d.gs (H.rdgsl (by repeat constructor)) rfl rfl rfl (by rw [m_glen HD]; exact hk) ?_
    refine ⟨⟨H.rw_ (by repeat constructor), H.rw_ (by repeat constructor)⟩, ?_⟩
    (try go_frame)
    refine anyH_1 (i := 6) (by kernel_rfl) ?_
    refine wpOp_at rfl (.of rfl) rfl ?_
    refine wp_store_el rfl H d.gs (by repeat constructor) g_len rfl rfl (d.gs.xs[k]'(by rw [m_glen HD]; exact hk)) y (List.getElem?_eq_getElem _) (Nat.add_zero _).symm (by constructor) (by repeat constructor) (by exact rfl) (by exact rfl) ?_
    clear H
    intro w H
    refine ⟨⟨H.rw_ (by repeat constructor), H.rw_ (by repeat constructor)⟩, ?_⟩
    (try go_frame)
    refine wpAnyH_done (by kernel_rfl) ?_ _
    exact ⟨rfl, y, (by show _ = _; rw [HY.out, HX.out]), H.pick (.cons (by repeat constructor) (.cons (by repeat constructor) (.cons (by repeat constructor) (.cons (by repeat constructor) (.cons (by repeat constructor) (.cons (by repeat constructor) (.cons (by repeat constructor) (.cons (by repeat constructor) .nil)))))))), by first | (simp only [puts_cons, puts_nil, Act.put, List.setIfInBounds_toArray, List.set_cons_succ, List.set_cons_zero]; done) | (simp only [puts_cons, puts_nil, Act.put, List.setIfInBounds_toArray, List.set_cons_succ, List.set_cons_zero]; rfl)⟩
  clear H
  rintro u w ⟨y, HY, H, rfl⟩
  simp only [puts_cons, puts_nil, Act.put, List.setIfInBounds_toArray, List.set_cons_succ, List.set_cons_zero]
  replace H := H.many_set (by rw [m_glen HD]; exact hk)
  go_wp2_with (first
    | go_skip
    | ((with_reducible refine at_box ?_); first | (refine wpList_box_H rfl rfl H rfl (by constructor) ?_; clear H; intro b w H))
    | ((with_reducible refine at_alloc ?_); first | (refine wpList_alloc_H rfl rfl H ?_; clear H; intro b w H))
    | ((with_reducible refine at_load ?_); first | (refine wpList_load_H rfl rfl H rfl (by repeat constructor) ?_) | (refine wpList_loads_H rfl rfl H rfl (by repeat constructor) ?_))
    | ((with_reducible refine at_store ?_); first | (refine wpList_store_H rfl rfl H rfl rfl (by repeat constructor) ?_; clear H; intro w H)))
  refine bodyPost_ret (results_H2 rfl H rfl (by repeat constructor)) rfl ⟨⟨d.mem, ⟨d.gs.A, d.gs.c, d.gs.xs.set k y⟩, d.outs, d.pend⟩, by simp [BV.val], wgPut (d := ⟨d.mem, d.gs, d.outs, d.pend⟩) HD (by rw [m_glen HD]; exact hk) HY.out, H.bare5 (.cons (by repeat constructor) (.cons (by repeat constructor) (.cons (by repeat constructor) (.cons (by repeat constructor) (.cons (by repeat constructor) .nil))))) rfl rfl⟩
set_option maxRecDepth 100000 in
set_option maxHeartbeats 4000000 in
theorem specBareStep_2 (B : BV) (g : Int) (e1 : bareOkM B.m = true) (e2 : hasM B.m g = true) (hw : wantM (gAtM B.m g) = 2) (W0 : World) (R : BRd W0 B) (Z : BBig B) : Calls Tryz.prog 22 #[B.val, .int .i64 g] W0 fun e w' => ∃ d : BV, e = .returned (.tuple #[d.val, .bool true]) ∧ d.m = withGuestM B.m g (plainlyM (gAtM B.m g)) ∧ Hp W0 w' [.bare d] := by
  have hg : 0 ≤ g ∧ g < B.gs.xs.length := by simpa [hasM, hasB, BV.m, gsOf] using e2
  obtain ⟨k, rfl⟩ := Int.eq_ofNat_of_zero_le hg.1
  have hk : k < B.gs.xs.length := by omega
  clear hg
  obtain ⟨a, ha⟩ : ∃ a, a = addrM (gAtM B.m k) := ⟨_, rfl⟩
  have HA : Hid (addrM (gAtM B.m k) = a) := ha.symm
  clear ha
  obtain ⟨i, hi⟩ : ∃ i, i = insAtM (gAtM B.m k).prog (gAtM B.m k).pc := ⟨_, rfl⟩
  have HI : Hid (insAtM (gAtM B.m k).prog (gAtM B.m k).pc = i) := hi.symm
  clear hi
  have ZM : B.m.size ≤ 4194304 := Z
  have ew := Lib.hid hw; clear hw
  have H := Hp.start W0
  go_enter Tryz.func22, Tryz.ntmps22
  go_wp2_with (first
    | go_skip
    | ((with_reducible refine at_box ?_); first | (refine wpList_box_H (cs := (barr B).toList) rfl rfl H rfl CellsOf.agg ?_; clear H; intro bB w H) | (refine wpList_box_H rfl rfl H rfl (by constructor) ?_; clear H; intro b w H))
    | ((with_reducible refine at_alloc ?_); first | ((with_reducible refine at_dst 4 ?_); refine wpList_alloc_H rfl rfl H ?_; clear H; intro bR w H) | ((with_reducible refine at_dst 6 ?_); refine wpList_alloc_H rfl rfl H ?_; clear H; intro bX w H) | ((with_reducible refine at_dst 13 ?_); refine wpList_alloc_H rfl rfl H ?_; clear H; intro bY w H) | (refine wpList_alloc_H rfl rfl H ?_; clear H; intro b w H))
    | ((with_reducible refine at_load ?_); first | (refine wpList_load_H rfl rfl H rfl (by repeat constructor) ?_) | (refine wpList_loads_H rfl rfl H rfl (by repeat constructor) ?_))
    | ((with_reducible refine at_store ?_); first | (refine wpList_store_H rfl rfl H rfl rfl (by repeat constructor) ?_; clear H; intro w H))
    | (go_at_call 76; refine (l17Copy_c B _ (R.at_ H) Z).mono ?_; rintro e w ⟨d, rfl, x1, K⟩; have HD := Lib.hid x1; clear x1; have Zd := m_big HD Z; replace H := H.add_all K; clear K)
    | (go_at_call 41; refine (specGuestAt_c d k _ (H.brd (b := d) (by repeat constructor)) Zd).mono ?_; rintro e w ⟨x, he, x1, K⟩; rw [HD.out, e2] at he; subst he; have HX : Hid (x.m = gAtM B.m k) := (by show _ = _; rw [x1, HD.out]); clear x1; have ZX : GBig x := size_big HX.out (Nat.le_trans (gAtM_size _ _) ZM); replace H := H.add_all K; clear K)
    | (go_at_call 95; refine (specWantOf_any x _ (H.grd1 (g := x) (by repeat constructor)).prog ZX.1).mono ?_; rintro e w ⟨he, hb⟩; rw [HX.out, ew.out] at he; subst he; replace H := H.still hb; clear hb)
    | (go_at_call 51; refine (specBareOk_c d _ (H.brd (b := d) (by repeat constructor)) Zd).mono ?_; rintro e w ⟨he, K⟩; rw [HD.out, e1] at he; subst he; replace H := H.add_all K; clear K)
    | (go_at_call 98; refine (specAddress_any x _ (H.grd1 (g := x) (by repeat constructor)).prog ZX.1).mono ?_; rintro e w ⟨he, hb⟩; rw [HX.out, HA.out] at he; subst he; replace H := H.still hb; clear hb))
  replace H := (H.take (e := .bare d) (by repeat constructor)).bparts
  refine wp_cut (fun u a' w' => ∃ (y : GV), Hid (y.m = plainlyM (gAtM B.m k)) ∧ Hp W0 w' [.gst y, .many En.gst d.gs.xs, .gsl ⟨d.gs.A, d.gs.c, d.gs.xs.set k y⟩, .rows d.mem, .many En.int d.mem.xs, .int d.outs, .box bB 28 (barr d).toList, .box bR 28 [.slice none 0 0, .slice none 0 0, .slice none 0 0, .int .i64 0]] ∧ a' = puts u [(75, .pointer (some ⟨bB, 1, none⟩)), (76, .slice d.gs.A d.gs.xs.length d.gs.c), (77, (.int .i64 k)), (78, x.val), (79, y.val), (80, (.pointer (some ⟨ablk d.gs.A, aoff d.gs.A + k * 15, none⟩)))]) ?_ ?_
  · refine wp_region_held (S := (fun w' => Rw w' bB 28 (barr d) ∧ Rw w' bX 53 (garr x))) (by kernel_rfl) ?_
    replace H := H.drew
    refine tkH (i := 0) rfl .here (yields_val (v := .pointer (some ⟨bB, 1, none⟩)) rfl (fun _ => by go_simp)) ⟨H.rw_ (by repeat constructor), H.rw_ (by repeat constructor)⟩ ?_
    (try go_frame)
    refine tkH (i := 1) rfl (.of rfl) (yields_load1_R rfl rfl rfl (fun _ hS => hS.1) rfl) ⟨H.rw_ (by repeat constructor), H.rw_ (by repeat constructor)⟩ ?_
    (try go_frame)
    refine tkH (i := 2) rfl (.of rfl) (yields_val (v := (.int .i64 k)) rfl (fun _ => by go_simp)) ⟨H.rw_ (by repeat constructor), H.rw_ (by repeat constructor)⟩ ?_
    (try go_frame)
    refine tkH (i := 3) rfl (.of rfl) (yields_loads_R rfl rfl rfl (fun _ hS => hS.2) (by repeat constructor)) ⟨H.rw_ (by repeat constructor), H.rw_ (by repeat constructor)⟩ ?_
    (try go_frame)
    refine anyH_1 (i := 4) (by kernel_rfl) ?_
    refine wpOp_at rfl (.of rfl) rfl ?_
    refine wp_call_H Tryz.f97 rfl rfl Tryz.func97 (by kernel_rfl) rfl rfl (made_H H ((specPlainly_c x _ rfl _ (H.grd1 (g := x) (by repeat constructor)) ZX).mono fun _ _ h => mkgS h)) ?_
    clear H
    rintro _ w ⟨y, rfl, HY, H⟩
    refine ⟨⟨H.rw_ (by repeat constructor), H.rw_ (by repeat constructor)⟩, ?_⟩
    (try go_frame)
    refine anyH_1 (i := 5) (by kernel_rfl) ?_
    refine wpOp_at rfl (.of rfl) rfl ?_
    refine wp_index_n rfl d.gs (H.rdgsl (by repeat constructor)) rfl rfl rfl (by rw [m_glen HD]; exact hk) ?_
    refine ⟨⟨H.rw_ (by repeat constructor), H.rw_ (by repeat constructor)⟩, ?_⟩
    (try go_frame)
    refine anyH_1 (i := 6) (by kernel_rfl) ?_
    refine wpOp_at rfl (.of rfl) rfl ?_
    refine wp_store_el rfl H d.gs (by repeat constructor) g_len rfl rfl (d.gs.xs[k]'(by rw [m_glen HD]; exact hk)) y (List.getElem?_eq_getElem _) (Nat.add_zero _).symm (by constructor) (by repeat constructor) (by exact rfl) (by exact rfl) ?_
    clear H
    intro w H
    refine ⟨⟨H.rw_ (by repeat constructor), H.rw_ (by repeat constructor)⟩, ?_⟩
    (try go_frame)
    refine wpAnyH_done (by kernel_rfl) ?_ _
    exact ⟨rfl, y, (by show _ = _; rw [HY.out, HX.out]), H.pick (.cons (by repeat constructor) (.cons (by repeat constructor) (.cons (by repeat constructor) (.cons (by repeat constructor) (.cons (by repeat constructor) (.cons (by repeat constructor) (.cons (by repeat constructor) (.cons (by repeat constructor) .nil)))))))), by first | (simp only [puts_cons, puts_nil, Act.put, List.setIfInBounds_toArray, List.set_cons_succ, List.set_cons_zero]; done) | (simp only [puts_cons, puts_nil, Act.put, List.setIfInBounds_toArray, List.set_cons_succ, List.set_cons_zero]; rfl)⟩
  clear H
  rintro u w ⟨y, HY, H, rfl⟩
  simp only [puts_cons, puts_nil, Act.put, List.setIfInBounds_toArray, List.set_cons_succ, List.set_cons_zero]
  replace H := H.many_set (by rw [m_glen HD]; exact hk)
  go_wp2_with (first
    | go_skip
    | ((with_reducible refine at_box ?_); first | (refine wpList_box_H rfl rfl H rfl (by constructor) ?_; clear H; intro b w H))
    | ((with_reducible refine at_alloc ?_); first | (refine wpList_alloc_H rfl rfl H ?_; clear H; intro b w H))
    | ((with_reducible refine at_load ?_); first | (refine wpList_load_H rfl rfl H rfl (by repeat constructor) ?_) | (refine wpList_loads_H rfl rfl H rfl (by repeat constructor) ?_))
    | ((with_reducible refine at_store ?_); first | (refine wpList_store_H rfl rfl H rfl rfl (by repeat constructor) ?_; clear H; intro w H)))
  refine bodyPost_ret (results_H2 rfl H rfl (by repeat constructor)) rfl ⟨⟨d.mem, ⟨d.gs.A, d.gs.c, d.gs.xs.set k y⟩, d.outs, d.pend⟩, by simp [BV.val], wgPut (d := ⟨d.mem, d.gs, d.outs, d.pend⟩) HD (by rw [m_glen HD]; exact hk) HY.out, H.bare5 (.cons (by repeat constructor) (.cons (by repeat constructor) (.cons (by repeat constructor) (.cons (by repeat constructor) (.cons (by repeat constructor) .nil))))) rfl rfl⟩
set_option maxRecDepth 100000 in
set_option maxHeartbeats 4000000 in
theorem specBareStep_3f (B : BV) (g : Int) (e1 : bareOkM B.m = true) (e2 : hasM B.m g = true) (hw : wantM (gAtM B.m g) = 3) (hk : walkOkM (gAtM B.m g).live (addrPageM (addrM (gAtM B.m g))) 1 = false) (W0 : World) (R : BRd W0 B) (Z : BBig B) : Calls Tryz.prog 22 #[B.val, .int .i64 g] W0 fun e w' => ∃ d : BV, e = .returned (.tuple #[d.val, .bool true]) ∧ d.m = withGuestM B.m g (stoppedM (gAtM B.m g) ⟨1, addrPageM (addrM (gAtM B.m g)), false, 0⟩) ∧ Hp W0 w' [.bare d] := by
  have hg : 0 ≤ g ∧ g < B.gs.xs.length := by simpa [hasM, hasB, BV.m, gsOf] using e2
  obtain ⟨k, rfl⟩ := Int.eq_ofNat_of_zero_le hg.1
  have hkk : k < B.gs.xs.length := by omega
  clear hg
  obtain ⟨a, ha⟩ : ∃ a, a = addrM (gAtM B.m k) := ⟨_, rfl⟩
  have HA : Hid (addrM (gAtM B.m k) = a) := ha.symm
  clear ha
  obtain ⟨i, hi⟩ : ∃ i, i = insAtM (gAtM B.m k).prog (gAtM B.m k).pc := ⟨_, rfl⟩
  have HI : Hid (insAtM (gAtM B.m k).prog (gAtM B.m k).pc = i) := hi.symm
  clear hi
  have ZM : B.m.size ≤ 4194304 := Z
  obtain ⟨hb1, hb2⟩ := addr_bd e1 e2 (by rw [hw]; simp)
  rw [HA.out] at hb1 hb2
  have ha1 : a ≤ 9223372036854775807 := by omega
  have ha2 : -9223372036854775808 ≤ a := by omega
  clear hb1 hb2
  obtain ⟨p, hp⟩ : ∃ p, p = addrPageM a := ⟨_, rfl⟩
  have HP : Hid (addrPageM a = p) := hp.symm
  clear hp
  obtain ⟨c, hc⟩ : ∃ c, c = addrCellM a := ⟨_, rfl⟩
  have HC : Hid (addrCellM a = c) := hc.symm
  clear hc
  obtain ⟨pg, hpg⟩ : ∃ pg, pg = walkPageM (gAtM B.m k).live p 1 := ⟨_, rfl⟩
  have HPG : Hid (walkPageM (gAtM B.m k).live p 1 = pg) := hpg.symm
  clear hpg
  have HWK : Hid (walkOkM (gAtM B.m k).live p 1 = false) := by show _ = _; rw [← HP.out, ← HA.out]; exact hk
  have HM : withGuestM B.m k (stoppedM (gAtM B.m k) ⟨1, addrPageM (addrM (gAtM B.m k)), false, 0⟩) = withGuestM B.m k (stoppedM (gAtM B.m k) ⟨1, p, false, 0⟩) := by simp only [HA.out, HP.out, HC.out, HPG.out]
  rw [HM]
  clear HM hk
  have hk := hkk
  clear hkk
  have ew := Lib.hid hw; clear hw
  have H := Hp.start W0
  go_enter Tryz.func22, Tryz.ntmps22
  go_wp2_with (first
    | go_skip
    | ((with_reducible refine at_box ?_); first | (refine wpList_box_H (cs := (barr B).toList) rfl rfl H rfl CellsOf.agg ?_; clear H; intro bB w H) | (refine wpList_box_H rfl rfl H rfl (by constructor) ?_; clear H; intro b w H))
    | ((with_reducible refine at_alloc ?_); first | ((with_reducible refine at_dst 4 ?_); refine wpList_alloc_H rfl rfl H ?_; clear H; intro bR w H) | ((with_reducible refine at_dst 6 ?_); refine wpList_alloc_H rfl rfl H ?_; clear H; intro bX w H) | ((with_reducible refine at_dst 13 ?_); refine wpList_alloc_H rfl rfl H ?_; clear H; intro bY w H) | (refine wpList_alloc_H rfl rfl H ?_; clear H; intro b w H))
    | ((with_reducible refine at_load ?_); first | (refine wpList_load_H rfl rfl H rfl (by repeat constructor) ?_) | (refine wpList_loads_H rfl rfl H rfl (by repeat constructor) ?_))
    | ((with_reducible refine at_store ?_); first | (refine wpList_store_H rfl rfl H rfl rfl (by repeat constructor) ?_; clear H; intro w H))
    | (go_at_call 76; refine (l17Copy_c B _ (R.at_ H) Z).mono ?_; rintro e w ⟨d, rfl, x1, K⟩; have HD := Lib.hid x1; clear x1; have Zd := m_big HD Z; replace H := H.add_all K; clear K)
    | (go_at_call 41; refine (specGuestAt_c d k _ (H.brd (b := d) (by repeat constructor)) Zd).mono ?_; rintro e w ⟨x, he, x1, K⟩; rw [HD.out, e2] at he; subst he; have HX : Hid (x.m = gAtM B.m k) := (by show _ = _; rw [x1, HD.out]); clear x1; have ZX : GBig x := size_big HX.out (Nat.le_trans (gAtM_size _ _) ZM); replace H := H.add_all K; clear K)
    | (go_at_call 95; refine (specWantOf_any x _ (H.grd1 (g := x) (by repeat constructor)).prog ZX.1).mono ?_; rintro e w ⟨he, hb⟩; rw [HX.out, ew.out] at he; subst he; replace H := H.still hb; clear hb)
    | (go_at_call 51; refine (specBareOk_c d _ (H.brd (b := d) (by repeat constructor)) Zd).mono ?_; rintro e w ⟨he, K⟩; rw [HD.out, e1] at he; subst he; replace H := H.add_all K; clear K)
    | (go_at_call 98; refine (specAddress_any x _ (H.grd1 (g := x) (by repeat constructor)).prog ZX.1).mono ?_; rintro e w ⟨he, hb⟩; rw [HX.out, HA.out] at he; subst he; replace H := H.still hb; clear hb))
  have HL : Hid (x.live.xs = (gAtM B.m k).live) := congrArg MG.live HX.out
  refine wp_cut (fun u a' w' => ∃ (_ : Unit), Hp W0 w' [.bare d, .gst x, .box bX 53 (garr x).toList, .box bB 28 (barr d).toList, .box bR 28 [.slice none 0 0, .slice none 0 0, .slice none 0 0, .int .i64 0]] ∧ a' = puts u [(89, .pointer (some ⟨bX, 4, none⟩)), (90, .slice x.live.A x.live.xs.length x.live.c), (91, (.int .i64 a)), (92, (.int .i64 p)), (93, (.bool false)), (94, (.int .i64 1)), (95, (.tuple #[.int .i64 pg, .bool false])), (88, (.tuple #[.int .i64 pg, .bool false])), (96, (.int .i64 pg)), (97, (.bool false)), (11, (.int .i64 pg)), (12, (.bool false))]) ?_ ?_
  · refine wp_region_held (S := (fun w' => Rw w' bB 28 (barr d) ∧ Rw w' bX 53 (garr x))) (by kernel_rfl) ?_
    replace H := H.drew
    refine tkH (i := 0) rfl .here (yields_val (v := .pointer (some ⟨bX, 4, none⟩)) rfl (fun _ => by go_simp)) ⟨H.rw_ (by repeat constructor), H.rw_ (by repeat constructor)⟩ ?_
    (try go_frame)
    refine tkH (i := 1) rfl (.of rfl) (yields_load1_R rfl rfl rfl (fun _ hS => hS.2) rfl) ⟨H.rw_ (by repeat constructor), H.rw_ (by repeat constructor)⟩ ?_
    (try go_frame)
    refine tkH (i := 2) rfl (.of rfl) (yields_val (v := (.int .i64 a)) rfl (fun _ => by go_simp)) ⟨H.rw_ (by repeat constructor), H.rw_ (by repeat constructor)⟩ ?_
    (try go_frame)
    refine tkH (i := 4) rfl (.of rfl) (yields_val (v := (.bool false)) rfl (fun _ => by go_simp)) ⟨H.rw_ (by repeat constructor), H.rw_ (by repeat constructor)⟩ ?_
    (try go_frame)
    refine anyH_1 (i := 3) (by kernel_rfl) ?_
    refine wpOp_at rfl (.of rfl) rfl ?_
    refine wp_call_H Tryz.f100 rfl rfl Tryz.func100 (by kernel_rfl) rfl rfl (val_H (v := .int .i64 p) H ((specAddrPage_c a ha1 ha2 _).mono fun _ _ ⟨he, K⟩ => ⟨by rw [he, HP.out], K⟩)) ?_
    clear H
    rintro _ w ⟨rfl, H⟩
    refine ⟨⟨H.rw_ (by repeat constructor), H.rw_ (by repeat constructor)⟩, ?_⟩
    (try go_frame)
    refine anyH_1 (i := 5) (by kernel_rfl) ?_
    refine wpOp_at rfl (.of rfl) rfl ?_
    refine wp_call_H Tryz.f101 rfl rfl Tryz.func101 (by kernel_rfl) rfl rfl (val_H (v := .int .i64 1) H (specNeedOf_c false _)) ?_
    clear H
    rintro _ w ⟨rfl, H⟩
    refine ⟨⟨H.rw_ (by repeat constructor), H.rw_ (by repeat constructor)⟩, ?_⟩
    (try go_frame)
    refine anyH_1 (i := 6) (by kernel_rfl) ?_
    refine wpOp_at rfl (.of rfl) rfl ?_
    refine wp_call_H Tryz.f99 rfl rfl Tryz.func99 (by kernel_rfl) rfl rfl (val_H (v := .tuple #[.int .i64 pg, .bool false]) H ((specWalkInner_c x.live p 1 _ (H.grd1 (g := x) (by repeat constructor)).live ZX.2.2.1).mono fun _ _ ⟨he, K⟩ => ⟨by rw [he, HL.out, HPG.out, HWK.out], K⟩)) ?_
    clear H
    rintro _ w ⟨rfl, H⟩
    refine ⟨⟨H.rw_ (by repeat constructor), H.rw_ (by repeat constructor)⟩, ?_⟩
    (try go_frame)
    refine tkH (i := 7) rfl (.of rfl) (yields_val (v := (.tuple #[.int .i64 pg, .bool false])) rfl (fun _ => by go_simp)) ⟨H.rw_ (by repeat constructor), H.rw_ (by repeat constructor)⟩ ?_
    (try go_frame)
    refine tkH (i := 8) rfl (.of rfl) (yields_val (v := (.int .i64 pg)) rfl (fun _ => by go_simp)) ⟨H.rw_ (by repeat constructor), H.rw_ (by repeat constructor)⟩ ?_
    (try go_frame)
    refine tkH (i := 9) rfl (.of rfl) (yields_val (v := (.bool false)) rfl (fun _ => by go_simp)) ⟨H.rw_ (by repeat constructor), H.rw_ (by repeat constructor)⟩ ?_
    (try go_frame)
    refine tkH (i := 10) rfl (.of rfl) (yields_val (v := (.int .i64 pg)) rfl (fun _ => by go_simp)) ⟨H.rw_ (by repeat constructor), H.rw_ (by repeat constructor)⟩ ?_
    (try go_frame)
    refine tkH (i := 11) rfl (.of rfl) (yields_val (v := (.bool false)) rfl (fun _ => by go_simp)) ⟨H.rw_ (by repeat constructor), H.rw_ (by repeat constructor)⟩ ?_
    (try go_frame)
    refine wpAnyH_done (by kernel_rfl) ?_ _
    exact ⟨rfl, (), H.pick (.cons (by repeat constructor) (.cons (by repeat constructor) (.cons (by repeat constructor) (.cons (by repeat constructor) (.cons (by repeat constructor) .nil))))), by first | (simp only [puts_cons, puts_nil, Act.put, List.setIfInBounds_toArray, List.set_cons_succ, List.set_cons_zero]; done) | (simp only [puts_cons, puts_nil, Act.put, List.setIfInBounds_toArray, List.set_cons_succ, List.set_cons_zero]; rfl)⟩
  clear H
  rintro u w ⟨_, H, rfl⟩
  simp only [puts_cons, puts_nil, Act.put, List.setIfInBounds_toArray, List.set_cons_succ, List.set_cons_zero]
  go_wp2_with (first
    | go_skip
    | ((with_reducible refine at_box ?_); first | (refine wpList_box_H rfl rfl H rfl (by constructor) ?_; clear H; intro b w H))
    | ((with_reducible refine at_alloc ?_); first | (refine wpList_alloc_H rfl rfl H ?_; clear H; intro b w H))
    | ((with_reducible refine at_load ?_); first | (refine wpList_load_H rfl rfl H rfl (by repeat constructor) ?_) | (refine wpList_loads_H rfl rfl H rfl (by repeat constructor) ?_))
    | ((with_reducible refine at_store ?_); first | (refine wpList_store_H rfl rfl H rfl rfl (by repeat constructor) ?_; clear H; intro w H)))
  replace H := (H.take (e := .bare d) (by repeat constructor)).bparts
  refine wp_cut (fun u a' w' => ∃ (y : GV), Hid (y.m = stoppedM (gAtM B.m k) ⟨1, p, false, 0⟩) ∧ Hp W0 w' [.gst y, .many En.gst d.gs.xs, .gsl ⟨d.gs.A, d.gs.c, d.gs.xs.set k y⟩, .rows d.mem, .many En.int d.mem.xs, .int d.outs, .box bB 28 (barr d).toList, .box bR 28 [.slice none 0 0, .slice none 0 0, .slice none 0 0, .int .i64 0]] ∧ a' = puts u [(113, .pointer (some ⟨bB, 1, none⟩)), (114, .slice d.gs.A d.gs.xs.length d.gs.c), (115, (.int .i64 k)), (116, x.val), (117, (.int .i64 a)), (118, (.int .i64 p)), (119, (.bool false)), (120, (Exit.val ⟨1, p, false, 0⟩)), (121, y.val), (122, (.pointer (some ⟨ablk d.gs.A, aoff d.gs.A + k * 15, none⟩)))]) ?_ ?_
  · refine wp_region_held (S := (fun w' => Rw w' bB 28 (barr d) ∧ Rw w' bX 53 (garr x))) (by kernel_rfl) ?_
    replace H := H.drew
    refine tkH (i := 0) rfl .here (yields_val (v := .pointer (some ⟨bB, 1, none⟩)) rfl (fun _ => by go_simp)) ⟨H.rw_ (by repeat constructor), H.rw_ (by repeat constructor)⟩ ?_
    (try go_frame)
    refine tkH (i := 1) rfl (.of rfl) (yields_load1_R rfl rfl rfl (fun _ hS => hS.1) rfl) ⟨H.rw_ (by repeat constructor), H.rw_ (by repeat constructor)⟩ ?_
    (try go_frame)
    refine tkH (i := 2) rfl (.of rfl) (yields_val (v := (.int .i64 k)) rfl (fun _ => by go_simp)) ⟨H.rw_ (by repeat constructor), H.rw_ (by repeat constructor)⟩ ?_
    (try go_frame)
    refine tkH (i := 3) rfl (.of rfl) (yields_loads_R rfl rfl rfl (fun _ hS => hS.2) (by repeat constructor)) ⟨H.rw_ (by repeat constructor), H.rw_ (by repeat constructor)⟩ ?_
    (try go_frame)
    refine tkH (i := 4) rfl (.of rfl) (yields_val (v := (.int .i64 a)) rfl (fun _ => by go_simp)) ⟨H.rw_ (by repeat constructor), H.rw_ (by repeat constructor)⟩ ?_
    (try go_frame)
    refine tkH (i := 6) rfl (.of rfl) (yields_val (v := (.bool false)) rfl (fun _ => by go_simp)) ⟨H.rw_ (by repeat constructor), H.rw_ (by repeat constructor)⟩ ?_
    (try go_frame)
    refine anyH_1 (i := 5) (by kernel_rfl) ?_
    refine wpOp_at rfl (.of rfl) rfl ?_
    refine wp_call_H Tryz.f100 rfl rfl Tryz.func100 (by kernel_rfl) rfl rfl (val_H (v := .int .i64 p) H ((specAddrPage_c a ha1 ha2 _).mono fun _ _ ⟨he, K⟩ => ⟨by rw [he, HP.out], K⟩)) ?_
    clear H
    rintro _ w ⟨rfl, H⟩
    refine ⟨⟨H.rw_ (by repeat constructor), H.rw_ (by repeat constructor)⟩, ?_⟩
    (try go_frame)
    refine anyH_1 (i := 7) (by kernel_rfl) ?_
    refine wpOp_at rfl (.of rfl) rfl ?_
    refine wp_call_H Tryz.f102 rfl rfl Tryz.func102 (by kernel_rfl) rfl rfl (val_H (v := Exit.val ⟨1, p, false, 0⟩) H (specFaultExit_c p false _)) ?_
    clear H
    rintro _ w ⟨rfl, H⟩
    refine ⟨⟨H.rw_ (by repeat constructor), H.rw_ (by repeat constructor)⟩, ?_⟩
    (try go_frame)
    refine anyH_1 (i := 8) (by kernel_rfl) ?_
    refine wpOp_at rfl (.of rfl) rfl ?_
    refine wp_call_H Tryz.f80 rfl rfl Tryz.func80 (by kernel_rfl) rfl rfl (made_H H ((specStopped_c x ⟨1, p, false, 0⟩ _ rfl _ (H.grd1 (g := x) (by repeat constructor)) ZX).mono fun _ _ h => mkgS h)) ?_
    clear H
    rintro _ w ⟨y, rfl, HY, H⟩
    refine ⟨⟨H.rw_ (by repeat constructor), H.rw_ (by repeat constructor)⟩, ?_⟩
    (try go_frame)
    refine anyH_1 (i := 9) (by kernel_rfl) ?_
    refine wpOp_at rfl (.of rfl) rfl ?_
    refine wp_index_n rfl d.gs (H.rdgsl (by repeat constructor)) rfl rfl rfl (by rw [m_glen HD]; exact hk) ?_
    refine ⟨⟨H.rw_ (by repeat constructor), H.rw_ (by repeat constructor)⟩, ?_⟩
    (try go_frame)
    refine anyH_1 (i := 10) (by kernel_rfl) ?_
    refine wpOp_at rfl (.of rfl) rfl ?_
    refine wp_store_el rfl H d.gs (by repeat constructor) g_len rfl rfl (d.gs.xs[k]'(by rw [m_glen HD]; exact hk)) y (List.getElem?_eq_getElem _) (Nat.add_zero _).symm (by constructor) (by repeat constructor) (by exact rfl) (by exact rfl) ?_
    clear H
    intro w H
    refine ⟨⟨H.rw_ (by repeat constructor), H.rw_ (by repeat constructor)⟩, ?_⟩
    (try go_frame)
    refine wpAnyH_done (by kernel_rfl) ?_ _
    exact ⟨rfl, y, (by show _ = _; rw [HY.out, HX.out]), H.pick (.cons (by repeat constructor) (.cons (by repeat constructor) (.cons (by repeat constructor) (.cons (by repeat constructor) (.cons (by repeat constructor) (.cons (by repeat constructor) (.cons (by repeat constructor) (.cons (by repeat constructor) .nil)))))))), by first | (simp only [puts_cons, puts_nil, Act.put, List.setIfInBounds_toArray, List.set_cons_succ, List.set_cons_zero]; done) | (simp only [puts_cons, puts_nil, Act.put, List.setIfInBounds_toArray, List.set_cons_succ, List.set_cons_zero]; rfl)⟩
  clear H
  rintro u w ⟨y, HY, H, rfl⟩
  simp only [puts_cons, puts_nil, Act.put, List.setIfInBounds_toArray, List.set_cons_succ, List.set_cons_zero]
  replace H := H.many_set (by rw [m_glen HD]; exact hk)
  go_wp2_with (first
    | go_skip
    | ((with_reducible refine at_box ?_); first | (refine wpList_box_H rfl rfl H rfl (by constructor) ?_; clear H; intro b w H))
    | ((with_reducible refine at_alloc ?_); first | (refine wpList_alloc_H rfl rfl H ?_; clear H; intro b w H))
    | ((with_reducible refine at_load ?_); first | (refine wpList_load_H rfl rfl H rfl (by repeat constructor) ?_) | (refine wpList_loads_H rfl rfl H rfl (by repeat constructor) ?_))
    | ((with_reducible refine at_store ?_); first | (refine wpList_store_H rfl rfl H rfl rfl (by repeat constructor) ?_; clear H; intro w H)))
  refine bodyPost_ret (results_H2 rfl H rfl (by repeat constructor)) rfl ⟨⟨d.mem, ⟨d.gs.A, d.gs.c, d.gs.xs.set k y⟩, d.outs, d.pend⟩, by simp [BV.val], wgPut (d := ⟨d.mem, d.gs, d.outs, d.pend⟩) HD (by rw [m_glen HD]; exact hk) HY.out, H.bare5 (.cons (by repeat constructor) (.cons (by repeat constructor) (.cons (by repeat constructor) (.cons (by repeat constructor) (.cons (by repeat constructor) .nil))))) rfl rfl⟩
set_option maxRecDepth 100000 in
set_option maxHeartbeats 4000000 in
theorem specBareStep_3t (B : BV) (g : Int) (e1 : bareOkM B.m = true) (e2 : hasM B.m g = true) (hw : wantM (gAtM B.m g) = 3) (hk : walkOkM (gAtM B.m g).live (addrPageM (addrM (gAtM B.m g))) 1 = true) (W0 : World) (R : BRd W0 B) (Z : BBig B) : Calls Tryz.prog 22 #[B.val, .int .i64 g] W0 fun e w' => ∃ d : BV, e = .returned (.tuple #[d.val, .bool true]) ∧ d.m = withGuestM B.m g (loadedM (gAtM B.m g) (cellAtM B.m.memory (walkPageM (gAtM B.m g).live (addrPageM (addrM (gAtM B.m g))) 1) (addrCellM (addrM (gAtM B.m g))))) ∧ Hp W0 w' [.bare d] := by
  have hg : 0 ≤ g ∧ g < B.gs.xs.length := by simpa [hasM, hasB, BV.m, gsOf] using e2
  obtain ⟨k, rfl⟩ := Int.eq_ofNat_of_zero_le hg.1
  have hkk : k < B.gs.xs.length := by omega
  clear hg
  obtain ⟨a, ha⟩ : ∃ a, a = addrM (gAtM B.m k) := ⟨_, rfl⟩
  have HA : Hid (addrM (gAtM B.m k) = a) := ha.symm
  clear ha
  obtain ⟨i, hi⟩ : ∃ i, i = insAtM (gAtM B.m k).prog (gAtM B.m k).pc := ⟨_, rfl⟩
  have HI : Hid (insAtM (gAtM B.m k).prog (gAtM B.m k).pc = i) := hi.symm
  clear hi
  have ZM : B.m.size ≤ 4194304 := Z
  obtain ⟨hb1, hb2⟩ := addr_bd e1 e2 (by rw [hw]; simp)
  rw [HA.out] at hb1 hb2
  have ha1 : a ≤ 9223372036854775807 := by omega
  have ha2 : -9223372036854775808 ≤ a := by omega
  clear hb1 hb2
  obtain ⟨p, hp⟩ : ∃ p, p = addrPageM a := ⟨_, rfl⟩
  have HP : Hid (addrPageM a = p) := hp.symm
  clear hp
  obtain ⟨c, hc⟩ : ∃ c, c = addrCellM a := ⟨_, rfl⟩
  have HC : Hid (addrCellM a = c) := hc.symm
  clear hc
  obtain ⟨pg, hpg⟩ : ∃ pg, pg = walkPageM (gAtM B.m k).live p 1 := ⟨_, rfl⟩
  have HPG : Hid (walkPageM (gAtM B.m k).live p 1 = pg) := hpg.symm
  clear hpg
  have HWK : Hid (walkOkM (gAtM B.m k).live p 1 = true) := by show _ = _; rw [← HP.out, ← HA.out]; exact hk
  have HM : withGuestM B.m k (loadedM (gAtM B.m k) (cellAtM B.m.memory (walkPageM (gAtM B.m k).live (addrPageM (addrM (gAtM B.m k))) 1) (addrCellM (addrM (gAtM B.m k))))) = withGuestM B.m k (loadedM (gAtM B.m k) (cellAtM B.m.memory pg c)) := by simp only [HA.out, HP.out, HC.out, HPG.out]
  rw [HM]
  clear HM hk
  have hk := hkk
  clear hkk
  obtain ⟨v, hv⟩ : ∃ v, v = cellAtM B.m.memory pg c := ⟨_, rfl⟩
  have HV : Hid (cellAtM (memOf B.mem) pg c = v) := hv.symm
  rw [← hv]
  clear hv
  have ew := Lib.hid hw; clear hw
  have H := Hp.start W0
  go_enter Tryz.func22, Tryz.ntmps22
  go_wp2_with (first
    | go_skip
    | ((with_reducible refine at_box ?_); first | (refine wpList_box_H (cs := (barr B).toList) rfl rfl H rfl CellsOf.agg ?_; clear H; intro bB w H) | (refine wpList_box_H rfl rfl H rfl (by constructor) ?_; clear H; intro b w H))
    | ((with_reducible refine at_alloc ?_); first | ((with_reducible refine at_dst 4 ?_); refine wpList_alloc_H rfl rfl H ?_; clear H; intro bR w H) | ((with_reducible refine at_dst 6 ?_); refine wpList_alloc_H rfl rfl H ?_; clear H; intro bX w H) | ((with_reducible refine at_dst 13 ?_); refine wpList_alloc_H rfl rfl H ?_; clear H; intro bY w H) | (refine wpList_alloc_H rfl rfl H ?_; clear H; intro b w H))
    | ((with_reducible refine at_load ?_); first | (refine wpList_load_H rfl rfl H rfl (by repeat constructor) ?_) | (refine wpList_loads_H rfl rfl H rfl (by repeat constructor) ?_))
    | ((with_reducible refine at_store ?_); first | (refine wpList_store_H rfl rfl H rfl rfl (by repeat constructor) ?_; clear H; intro w H))
    | (go_at_call 76; refine (l17Copy_c B _ (R.at_ H) Z).mono ?_; rintro e w ⟨d, rfl, x1, K⟩; have HD := Lib.hid x1; clear x1; have Zd := m_big HD Z; replace H := H.add_all K; clear K)
    | (go_at_call 41; refine (specGuestAt_c d k _ (H.brd (b := d) (by repeat constructor)) Zd).mono ?_; rintro e w ⟨x, he, x1, K⟩; rw [HD.out, e2] at he; subst he; have HX : Hid (x.m = gAtM B.m k) := (by show _ = _; rw [x1, HD.out]); clear x1; have ZX : GBig x := size_big HX.out (Nat.le_trans (gAtM_size _ _) ZM); replace H := H.add_all K; clear K)
    | (go_at_call 95; refine (specWantOf_any x _ (H.grd1 (g := x) (by repeat constructor)).prog ZX.1).mono ?_; rintro e w ⟨he, hb⟩; rw [HX.out, ew.out] at he; subst he; replace H := H.still hb; clear hb)
    | (go_at_call 51; refine (specBareOk_c d _ (H.brd (b := d) (by repeat constructor)) Zd).mono ?_; rintro e w ⟨he, K⟩; rw [HD.out, e1] at he; subst he; replace H := H.add_all K; clear K)
    | (go_at_call 98; refine (specAddress_any x _ (H.grd1 (g := x) (by repeat constructor)).prog ZX.1).mono ?_; rintro e w ⟨he, hb⟩; rw [HX.out, HA.out] at he; subst he; replace H := H.still hb; clear hb))
  have HL : Hid (x.live.xs = (gAtM B.m k).live) := congrArg MG.live HX.out
  refine wp_cut (fun u a' w' => ∃ (_ : Unit), Hp W0 w' [.bare d, .gst x, .box bX 53 (garr x).toList, .box bB 28 (barr d).toList, .box bR 28 [.slice none 0 0, .slice none 0 0, .slice none 0 0, .int .i64 0]] ∧ a' = puts u [(89, .pointer (some ⟨bX, 4, none⟩)), (90, .slice x.live.A x.live.xs.length x.live.c), (91, (.int .i64 a)), (92, (.int .i64 p)), (93, (.bool false)), (94, (.int .i64 1)), (95, (.tuple #[.int .i64 pg, .bool true])), (88, (.tuple #[.int .i64 pg, .bool true])), (96, (.int .i64 pg)), (97, (.bool true)), (11, (.int .i64 pg)), (12, (.bool true))]) ?_ ?_
  · refine wp_region_held (S := (fun w' => Rw w' bB 28 (barr d) ∧ Rw w' bX 53 (garr x))) (by kernel_rfl) ?_
    replace H := H.drew
    refine tkH (i := 0) rfl .here (yields_val (v := .pointer (some ⟨bX, 4, none⟩)) rfl (fun _ => by go_simp)) ⟨H.rw_ (by repeat constructor), H.rw_ (by repeat constructor)⟩ ?_
    (try go_frame)
    refine tkH (i := 1) rfl (.of rfl) (yields_load1_R rfl rfl rfl (fun _ hS => hS.2) rfl) ⟨H.rw_ (by repeat constructor), H.rw_ (by repeat constructor)⟩ ?_
    (try go_frame)
    refine tkH (i := 2) rfl (.of rfl) (yields_val (v := (.int .i64 a)) rfl (fun _ => by go_simp)) ⟨H.rw_ (by repeat constructor), H.rw_ (by repeat constructor)⟩ ?_
    (try go_frame)
    refine tkH (i := 4) rfl (.of rfl) (yields_val (v := (.bool false)) rfl (fun _ => by go_simp)) ⟨H.rw_ (by repeat constructor), H.rw_ (by repeat constructor)⟩ ?_
    (try go_frame)
    refine anyH_1 (i := 3) (by kernel_rfl) ?_
    refine wpOp_at rfl (.of rfl) rfl ?_
    refine wp_call_H Tryz.f100 rfl rfl Tryz.func100 (by kernel_rfl) rfl rfl (val_H (v := .int .i64 p) H ((specAddrPage_c a ha1 ha2 _).mono fun _ _ ⟨he, K⟩ => ⟨by rw [he, HP.out], K⟩)) ?_
    clear H
    rintro _ w ⟨rfl, H⟩
    refine ⟨⟨H.rw_ (by repeat constructor), H.rw_ (by repeat constructor)⟩, ?_⟩
    (try go_frame)
    refine anyH_1 (i := 5) (by kernel_rfl) ?_
    refine wpOp_at rfl (.of rfl) rfl ?_
    refine wp_call_H Tryz.f101 rfl rfl Tryz.func101 (by kernel_rfl) rfl rfl (val_H (v := .int .i64 1) H (specNeedOf_c false _)) ?_
    clear H
    rintro _ w ⟨rfl, H⟩
    refine ⟨⟨H.rw_ (by repeat constructor), H.rw_ (by repeat constructor)⟩, ?_⟩
    (try go_frame)
    refine anyH_1 (i := 6) (by kernel_rfl) ?_
    refine wpOp_at rfl (.of rfl) rfl ?_
    refine wp_call_H Tryz.f99 rfl rfl Tryz.func99 (by kernel_rfl) rfl rfl (val_H (v := .tuple #[.int .i64 pg, .bool true]) H ((specWalkInner_c x.live p 1 _ (H.grd1 (g := x) (by repeat constructor)).live ZX.2.2.1).mono fun _ _ ⟨he, K⟩ => ⟨by rw [he, HL.out, HPG.out, HWK.out], K⟩)) ?_
    clear H
    rintro _ w ⟨rfl, H⟩
    refine ⟨⟨H.rw_ (by repeat constructor), H.rw_ (by repeat constructor)⟩, ?_⟩
    (try go_frame)
    refine tkH (i := 7) rfl (.of rfl) (yields_val (v := (.tuple #[.int .i64 pg, .bool true])) rfl (fun _ => by go_simp)) ⟨H.rw_ (by repeat constructor), H.rw_ (by repeat constructor)⟩ ?_
    (try go_frame)
    refine tkH (i := 8) rfl (.of rfl) (yields_val (v := (.int .i64 pg)) rfl (fun _ => by go_simp)) ⟨H.rw_ (by repeat constructor), H.rw_ (by repeat constructor)⟩ ?_
    (try go_frame)
    refine tkH (i := 9) rfl (.of rfl) (yields_val (v := (.bool true)) rfl (fun _ => by go_simp)) ⟨H.rw_ (by repeat constructor), H.rw_ (by repeat constructor)⟩ ?_
    (try go_frame)
    refine tkH (i := 10) rfl (.of rfl) (yields_val (v := (.int .i64 pg)) rfl (fun _ => by go_simp)) ⟨H.rw_ (by repeat constructor), H.rw_ (by repeat constructor)⟩ ?_
    (try go_frame)
    refine tkH (i := 11) rfl (.of rfl) (yields_val (v := (.bool true)) rfl (fun _ => by go_simp)) ⟨H.rw_ (by repeat constructor), H.rw_ (by repeat constructor)⟩ ?_
    (try go_frame)
    refine wpAnyH_done (by kernel_rfl) ?_ _
    exact ⟨rfl, (), H.pick (.cons (by repeat constructor) (.cons (by repeat constructor) (.cons (by repeat constructor) (.cons (by repeat constructor) (.cons (by repeat constructor) .nil))))), by first | (simp only [puts_cons, puts_nil, Act.put, List.setIfInBounds_toArray, List.set_cons_succ, List.set_cons_zero]; done) | (simp only [puts_cons, puts_nil, Act.put, List.setIfInBounds_toArray, List.set_cons_succ, List.set_cons_zero]; rfl)⟩
  clear H
  rintro u w ⟨_, H, rfl⟩
  simp only [puts_cons, puts_nil, Act.put, List.setIfInBounds_toArray, List.set_cons_succ, List.set_cons_zero]
  go_wp2_with (first
    | go_skip
    | ((with_reducible refine at_box ?_); first | (refine wpList_box_H rfl rfl H rfl (by constructor) ?_; clear H; intro b w H))
    | ((with_reducible refine at_alloc ?_); first | (refine wpList_alloc_H rfl rfl H ?_; clear H; intro b w H))
    | ((with_reducible refine at_load ?_); first | (refine wpList_load_H rfl rfl H rfl (by repeat constructor) ?_) | (refine wpList_loads_H rfl rfl H rfl (by repeat constructor) ?_))
    | ((with_reducible refine at_store ?_); first | (refine wpList_store_H rfl rfl H rfl rfl (by repeat constructor) ?_; clear H; intro w H)))
  have HMM : Hid (memOf d.mem = memOf B.mem) := congrArg MB.memory HD.out
  replace H := (H.take (e := .bare d) (by repeat constructor)).bparts
  refine wp_cut (fun u a' w' => ∃ (y : GV), Hid (y.m = loadedM (gAtM B.m k) v) ∧ Hp W0 w' [.gst y, .many En.gst d.gs.xs, .gsl ⟨d.gs.A, d.gs.c, d.gs.xs.set k y⟩, .rows d.mem, .many En.int d.mem.xs, .int d.outs, .box bB 28 (barr d).toList, .box bR 28 [.slice none 0 0, .slice none 0 0, .slice none 0 0, .int .i64 0]] ∧ a' = puts u [(98, .pointer (some ⟨bB, 1, none⟩)), (99, .slice d.gs.A d.gs.xs.length d.gs.c), (100, (.int .i64 k)), (101, x.val), (102, .pointer (some ⟨bB, 0, none⟩)), (103, .slice d.mem.A d.mem.xs.length d.mem.c), (104, (.int .i64 pg)), (105, (.int .i64 a)), (106, (.int .i64 c)), (107, (.int .i64 v)), (108, y.val), (109, (.pointer (some ⟨ablk d.gs.A, aoff d.gs.A + k * 15, none⟩)))]) ?_ ?_
  · refine wp_region_held (S := (fun w' => Rw w' bB 28 (barr d) ∧ Rw w' bX 53 (garr x))) (by kernel_rfl) ?_
    replace H := H.drew
    refine tkH (i := 0) rfl .here (yields_val (v := .pointer (some ⟨bB, 1, none⟩)) rfl (fun _ => by go_simp)) ⟨H.rw_ (by repeat constructor), H.rw_ (by repeat constructor)⟩ ?_
    (try go_frame)
    refine tkH (i := 1) rfl (.of rfl) (yields_load1_R rfl rfl rfl (fun _ hS => hS.1) rfl) ⟨H.rw_ (by repeat constructor), H.rw_ (by repeat constructor)⟩ ?_
    (try go_frame)
    refine tkH (i := 2) rfl (.of rfl) (yields_val (v := (.int .i64 k)) rfl (fun _ => by go_simp)) ⟨H.rw_ (by repeat constructor), H.rw_ (by repeat constructor)⟩ ?_
    (try go_frame)
    refine tkH (i := 3) rfl (.of rfl) (yields_loads_R rfl rfl rfl (fun _ hS => hS.2) (by repeat constructor)) ⟨H.rw_ (by repeat constructor), H.rw_ (by repeat constructor)⟩ ?_
    (try go_frame)
    refine tkH (i := 4) rfl (.of rfl) (yields_val (v := .pointer (some ⟨bB, 0, none⟩)) rfl (fun _ => by go_simp)) ⟨H.rw_ (by repeat constructor), H.rw_ (by repeat constructor)⟩ ?_
    (try go_frame)
    refine tkH (i := 5) rfl (.of rfl) (yields_load1_R rfl rfl rfl (fun _ hS => hS.1) rfl) ⟨H.rw_ (by repeat constructor), H.rw_ (by repeat constructor)⟩ ?_
    (try go_frame)
    refine tkH (i := 6) rfl (.of rfl) (yields_val (v := (.int .i64 pg)) rfl (fun _ => by go_simp)) ⟨H.rw_ (by repeat constructor), H.rw_ (by repeat constructor)⟩ ?_
    (try go_frame)
    refine tkH (i := 7) rfl (.of rfl) (yields_val (v := (.int .i64 a)) rfl (fun _ => by go_simp)) ⟨H.rw_ (by repeat constructor), H.rw_ (by repeat constructor)⟩ ?_
    (try go_frame)
    refine anyH_1 (i := 8) (by kernel_rfl) ?_
    refine wpOp_at rfl (.of rfl) rfl ?_
    refine wp_call_H Tryz.f104 rfl rfl Tryz.func104 (by kernel_rfl) rfl rfl (val_H (v := .int .i64 c) H ((specAddrCell_c a ha1 ha2 _).mono fun _ _ ⟨he, K⟩ => ⟨by rw [he, HC.out], K⟩)) ?_
    clear H
    rintro _ w ⟨rfl, H⟩
    refine ⟨⟨H.rw_ (by repeat constructor), H.rw_ (by repeat constructor)⟩, ?_⟩
    (try go_frame)
    refine anyH_1 (i := 9) (by kernel_rfl) ?_
    refine wpOp_at rfl (.of rfl) rfl ?_
    refine wp_call_H Tryz.f107 rfl rfl Tryz.func107 (by kernel_rfl) rfl rfl (val_H (v := .int .i64 v) H ((specCellAt_c d.mem pg c _ (H.rdrows (s := d.mem) (by repeat constructor)) (H.rdmany (l := d.mem.xs) (by repeat constructor)) Zd.mem Zd.memi).mono fun _ _ ⟨he, K⟩ => ⟨by rw [he, HMM.out, HV.out], K⟩)) ?_
    clear H
    rintro _ w ⟨rfl, H⟩
    refine ⟨⟨H.rw_ (by repeat constructor), H.rw_ (by repeat constructor)⟩, ?_⟩
    (try go_frame)
    refine anyH_1 (i := 10) (by kernel_rfl) ?_
    refine wpOp_at rfl (.of rfl) rfl ?_
    refine wp_call_H Tryz.f106 rfl rfl Tryz.func106 (by kernel_rfl) rfl rfl (made_H H ((specLoaded_c x v _ rfl _ (H.grd1 (g := x) (by repeat constructor)) ZX).mono fun _ _ h => mkgS h)) ?_
    clear H
    rintro _ w ⟨y, rfl, HY, H⟩
    refine ⟨⟨H.rw_ (by repeat constructor), H.rw_ (by repeat constructor)⟩, ?_⟩
    (try go_frame)
    refine anyH_1 (i := 11) (by kernel_rfl) ?_
    refine wpOp_at rfl (.of rfl) rfl ?_
    refine wp_index_n rfl d.gs (H.rdgsl (by repeat constructor)) rfl rfl rfl (by rw [m_glen HD]; exact hk) ?_
    refine ⟨⟨H.rw_ (by repeat constructor), H.rw_ (by repeat constructor)⟩, ?_⟩
    (try go_frame)
    refine anyH_1 (i := 12) (by kernel_rfl) ?_
    refine wpOp_at rfl (.of rfl) rfl ?_
    refine wp_store_el rfl H d.gs (by repeat constructor) g_len rfl rfl (d.gs.xs[k]'(by rw [m_glen HD]; exact hk)) y (List.getElem?_eq_getElem _) (Nat.add_zero _).symm (by constructor) (by repeat constructor) (by exact rfl) (by exact rfl) ?_
    clear H
    intro w H
    refine ⟨⟨H.rw_ (by repeat constructor), H.rw_ (by repeat constructor)⟩, ?_⟩
    (try go_frame)
    refine wpAnyH_done (by kernel_rfl) ?_ _
    exact ⟨rfl, y, (by show _ = _; rw [HY.out, HX.out]), H.pick (.cons (by repeat constructor) (.cons (by repeat constructor) (.cons (by repeat constructor) (.cons (by repeat constructor) (.cons (by repeat constructor) (.cons (by repeat constructor) (.cons (by repeat constructor) (.cons (by repeat constructor) .nil)))))))), by first | (simp only [puts_cons, puts_nil, Act.put, List.setIfInBounds_toArray, List.set_cons_succ, List.set_cons_zero]; done) | (simp only [puts_cons, puts_nil, Act.put, List.setIfInBounds_toArray, List.set_cons_succ, List.set_cons_zero]; rfl)⟩
  clear H
  rintro u w ⟨y, HY, H, rfl⟩
  simp only [puts_cons, puts_nil, Act.put, List.setIfInBounds_toArray, List.set_cons_succ, List.set_cons_zero]
  replace H := H.many_set (by rw [m_glen HD]; exact hk)
  go_wp2_with (first
    | go_skip
    | ((with_reducible refine at_box ?_); first | (refine wpList_box_H rfl rfl H rfl (by constructor) ?_; clear H; intro b w H))
    | ((with_reducible refine at_alloc ?_); first | (refine wpList_alloc_H rfl rfl H ?_; clear H; intro b w H))
    | ((with_reducible refine at_load ?_); first | (refine wpList_load_H rfl rfl H rfl (by repeat constructor) ?_) | (refine wpList_loads_H rfl rfl H rfl (by repeat constructor) ?_))
    | ((with_reducible refine at_store ?_); first | (refine wpList_store_H rfl rfl H rfl rfl (by repeat constructor) ?_; clear H; intro w H)))
  refine bodyPost_ret (results_H2 rfl H rfl (by repeat constructor)) rfl ⟨⟨d.mem, ⟨d.gs.A, d.gs.c, d.gs.xs.set k y⟩, d.outs, d.pend⟩, by simp [BV.val], wgPut (d := ⟨d.mem, d.gs, d.outs, d.pend⟩) HD (by rw [m_glen HD]; exact hk) HY.out, H.bare5 (.cons (by repeat constructor) (.cons (by repeat constructor) (.cons (by repeat constructor) (.cons (by repeat constructor) (.cons (by repeat constructor) .nil))))) rfl rfl⟩
end Go.Proofs.YtaafnenmdombiaaGreat
