/- Cases of BareStep of the reference. No condition but that the arguments lie in memory. -/
import Derived.Maps.RangeWalk
import Derived.Test.YtaafnenmdombiaaGreatStc
namespace Go.Proofs.YtaafnenmdombiaaGreat
set_option linter.unusedSimpArgs false
set_option linter.unusedVariables false
open Go.RowKit
set_option maxRecDepth 100000 in
set_option maxHeartbeats 4000000 in
theorem specBareStep_4f (B : BV) (g : Int) (e1 : bareOkM B.m = true) (e2 : hasM B.m g = true) (hw : wantM (gAtM B.m g) = 4) (hk : walkOkM (gAtM B.m g).live (addrPageM (addrM (gAtM B.m g))) 2 = false) (W0 : World) (R : BRd W0 B) (Z : BBig B) : Calls Tryz.prog 22 #[B.val, .int .i64 g] W0 fun e w' => ∃ d : BV, e = .returned (.tuple #[d.val, .bool true]) ∧ d.m = withGuestM B.m g (stoppedM (gAtM B.m g) ⟨1, addrPageM (addrM (gAtM B.m g)), true, 0⟩) ∧ Hp W0 w' [.bare d] := by
  have hg : 0 ≤ g ∧ g < B.gs.xs.length := by simpa [hasM, hasB, BV.m, gsOf] using e2
  obtain ⟨k, rfl⟩ := Int.eq_ofNat_of_zero_le hg.1
  have hkk : k < B.gs.xs.length := by omega
  clear hg
  obtain ⟨a, ha⟩ : ∃ a, a = addrM (gAtM B.m k) := ⟨_, rfl⟩
  have HA : Hid (addrM (gAtM B.m k) = a) := ha.symm
  clear ha
  obtain ⟨i, hi⟩ : ∃ i, i = insAtM (gAtM B.m k).prog (gAtM B.m k).pc := ⟨_, rfl⟩
  have HI : Hid (insAtM (gAtM B.m k).prog (gAtM B.m k).pc = i) := hi.symm
  clear hi
  have ZM : B.m.size ≤ 4194304 := Z
  obtain ⟨hb1, hb2⟩ := addr_bd e1 e2 (by rw [hw]; simp)
  rw [HA.out] at hb1 hb2
  have ha1 : a ≤ 9223372036854775807 := by omega
  have ha2 : -9223372036854775808 ≤ a := by omega
  clear hb1 hb2
  obtain ⟨p, hp⟩ : ∃ p, p = addrPageM a := ⟨_, rfl⟩
  have HP : Hid (addrPageM a = p) := hp.symm
  clear hp
  obtain ⟨c, hc⟩ : ∃ c, c = addrCellM a := ⟨_, rfl⟩
  have HC : Hid (addrCellM a = c) := hc.symm
  clear hc
  obtain ⟨pg, hpg⟩ : ∃ pg, pg = walkPageM (gAtM B.m k).live p 2 := ⟨_, rfl⟩
  have HPG : Hid (walkPageM (gAtM B.m k).live p 2 = pg) := hpg.symm
  clear hpg
  have HWK : Hid (walkOkM (gAtM B.m k).live p 2 = false) := by show _ = _; rw [← HP.out, ← HA.out]; exact hk
  have HM : withGuestM B.m k (stoppedM (gAtM B.m k) ⟨1, addrPageM (addrM (gAtM B.m k)), true, 0⟩) = withGuestM B.m k (stoppedM (gAtM B.m k) ⟨1, p, true, 0⟩) := by simp only [HA.out, HP.out, HC.out, HPG.out]
  rw [HM]
  clear HM hk
  have hk := hkk
  clear hkk
  have ew := Lib.hid hw; clear hw
  have H := Hp.start W0
  go_enter Tryz.func22, Tryz.ntmps22
  go_wp2_with (first
    | go_skip
    | ((with_reducible refine at_box ?_); first | (refine wpList_box_H (cs := (barr B).toList) rfl rfl H rfl CellsOf.agg ?_; clear H; intro bB w H) | (refine wpList_box_H rfl rfl H rfl (by constructor) ?_; clear H; intro b w H))
    | ((with_reducible refine at_alloc ?_); first | ((with_reducible refine at_dst 4 ?_); refine wpList_alloc_H rfl rfl H ?_; clear H; intro bR w H) | ((with_reducible refine at_dst 6 ?_); refine wpList_alloc_H rfl rfl H ?_; clear H; intro bX w H) | ((with_reducible refine at_dst 13 ?_); refine wpList_alloc_H rfl rfl H ?_; clear H; intro bY w H) | (refine wpList_alloc_H rfl rfl H ?_; clear H; intro b w H))
    | ((with_reducible refine at_load ?_); first | (refine wpList_load_H rfl rfl H rfl (by repeat constructor) ?_) | (refine wpList_loads_H rfl rfl H rfl (by repeat constructor) ?_))
    | ((with_reducible refine at_store ?_); first | (refine wpList_store_H rfl rfl H rfl rfl (by repeat constructor) ?_; clear H; intro w H))
    | (go_at_call 76; refine (l17Copy_c B _ (R.at_ H) Z).mono ?_; rintro e w ⟨d, rfl, x1, K⟩; have HD := Lib.hid x1; clear x1; have Zd := m_big HD Z; replace H := H.add_all K; clear K)
    | (go_at_call 41; refine (specGuestAt_c d k _ (H.brd (b := d) (by repeat constructor)) Zd).mono ?_; rintro e w ⟨x, he, x1, K⟩; rw [HD.out, e2] at he; subst he; have HX : Hid (x.m = gAtM B.m k) := (by show _ = _; rw [x1, HD.out]); clear x1; have ZX : GBig x := size_big HX.out (Nat.le_trans (gAtM_size _ _) ZM); replace H := H.add_all K; clear K)
    | (go_at_call 95; refine (specWantOf_any x _ (H.grd1 (g := x) (by repeat constructor)).prog ZX.1).mono ?_; rintro e w ⟨he, hb⟩; rw [HX.out, ew.out] at he; subst he; replace H := H.still hb; clear hb)
    | (go_at_call 51; refine (specBareOk_c d _ (H.brd (b := d) (by repeat constructor)) Zd).mono ?_; rintro e w ⟨he, K⟩; rw [HD.out, e1] at he; subst he; replace H := H.add_all K; clear K)
    | (go_at_call 98; refine (specAddress_any x _ (H.grd1 (g := x) (by repeat constructor)).prog ZX.1).mono ?_; rintro e w ⟨he, hb⟩; rw [HX.out, HA.out] at he; subst he; replace H := H.still hb; clear hb))
  have HL : Hid (x.live.xs = (gAtM B.m k).live) := congrArg MG.live HX.out
  refine wp_cut (fun u a' w' => ∃ (_ : Unit), Hp W0 w' [.bare d, .gst x, .box bX 53 (garr x).toList, .box bB 28 (barr d).toList, .box bR 28 [.slice none 0 0, .slice none 0 0, .slice none 0 0, .int .i64 0]] ∧ a' = puts u [(89, .pointer (some ⟨bX, 4, none⟩)), (90, .slice x.live.A x.live.xs.length x.live.c), (91, (.int .i64 a)), (92, (.int .i64 p)), (93, (.bool true)), (94, (.int .i64 2)), (95, (.tuple #[.int .i64 pg, .bool false])), (88, (.tuple #[.int .i64 pg, .bool false])), (96, (.int .i64 pg)), (97, (.bool false)), (11, (.int .i64 pg)), (12, (.bool false))]) ?_ ?_
  · refine wp_region_held (S := (fun w' => Rw w' bB 28 (barr d) ∧ Rw w' bX 53 (garr x))) (by kernel_rfl) ?_
    replace H := H.drew
    refine tkH (i := 0) rfl .here (yields_val (v := .pointer (some ⟨bX, 4, none⟩)) rfl (fun _ => by go_simp)) ⟨H.rw_ (by repeat constructor), H.rw_ (by repeat constructor)⟩ ?_
    (try go_frame)
    refine tkH (i := 1) rfl (.of rfl) (yields_load1_R rfl rfl rfl (fun _ hS => hS.2) rfl) ⟨H.rw_ (by repeat constructor), H.rw_ (by repeat constructor)⟩ ?_
    (try go_frame)
    refine tkH (i := 2) rfl (.of rfl) (yields_val (v := (.int .i64 a)) rfl (fun _ => by go_simp)) ⟨H.rw_ (by repeat constructor), H.rw_ (by repeat constructor)⟩ ?_
    (try go_frame)
    refine tkH (i := 4) rfl (.of rfl) (yields_val (v := (.bool true)) rfl (fun _ => by go_simp)) ⟨H.rw_ (by repeat constructor), H.rw_ (by repeat constructor)⟩ ?_
    (try go_frame)
    refine anyH_1 (i := 3) (by kernel_rfl) ?_
    refine wpOp_at rfl (.of rfl) rfl ?_
    refine wp_call_H Tryz.f100 rfl rfl Tryz.func100 (by kernel_rfl) rfl rfl (val_H (v := .int .i64 p) H ((specAddrPage_c a ha1 ha2 _).mono fun _ _ ⟨he, K⟩ => ⟨by rw [he, HP.out], K⟩)) ?_
    clear H
    rintro _ w ⟨rfl, H⟩
    refine ⟨⟨H.rw_ (by repeat constructor), H.rw_ (by repeat constructor)⟩, ?_⟩
    (try go_frame)
    refine anyH_1 (i := 5) (by kernel_rfl) ?_
    refine wpOp_at rfl (.of rfl) rfl ?_
    refine wp_call_H Tryz.f101 rfl rfl Tryz.func101 (by kernel_rfl) rfl rfl (val_H (v := .int .i64 2) H (specNeedOf_c true _)) ?_
    clear H
    rintro _ w ⟨rfl, H⟩
    refine ⟨⟨H.rw_ (by repeat constructor), H.rw_ (by repeat constructor)⟩, ?_⟩
    (try go_frame)
    refine anyH_1 (i := 6) (by kernel_rfl) ?_
    refine wpOp_at rfl (.of rfl) rfl ?_
    refine wp_call_H Tryz.f99 rfl rfl Tryz.func99 (by kernel_rfl) rfl rfl (val_H (v := .tuple #[.int .i64 pg, .bool false]) H ((specWalkInner_c x.live p 2 _ (H.grd1 (g := x) (by repeat constructor)).live ZX.2.2.1).mono fun _ _ ⟨he, K⟩ => ⟨by rw [he, HL.out, HPG.out, HWK.out], K⟩)) ?_
    clear H
    rintro _ w ⟨rfl, H⟩
    refine ⟨⟨H.rw_ (by repeat constructor), H.rw_ (by repeat constructor)⟩, ?_⟩
    (try go_frame)
    refine tkH (i := 7) rfl (.of rfl) (yields_val (v := (.tuple #[.int .i64 pg, .bool false])) rfl (fun _ => by go_simp)) ⟨H.rw_ (by repeat constructor), H.rw_ (by repeat constructor)⟩ ?_
    (try go_frame)
    refine tkH (i := 8) rfl (.of rfl) (yields_val (v := (.int .i64 pg)) rfl (fun _ => by go_simp)) ⟨H.rw_ (by repeat constructor), H.rw_ (by repeat constructor)⟩ ?_
    (try go_frame)
    refine tkH (i := 9) rfl (.of rfl) (yields_val (v := (.bool false)) rfl (fun _ => by go_simp)) ⟨H.rw_ (by repeat constructor), H.rw_ (by repeat constructor)⟩ ?_
    (try go_frame)
    refine tkH (i := 10) rfl (.of rfl) (yields_val (v := (.int .i64 pg)) rfl (fun _ => by go_simp)) ⟨H.rw_ (by repeat constructor), H.rw_ (by repeat constructor)⟩ ?_
    (try go_frame)
    refine tkH (i := 11) rfl (.of rfl) (yields_val (v := (.bool false)) rfl (fun _ => by go_simp)) ⟨H.rw_ (by repeat constructor), H.rw_ (by repeat constructor)⟩ ?_
    (try go_frame)
    refine wpAnyH_done (by kernel_rfl) ?_ _
    exact ⟨rfl, (), H.pick (.cons (by repeat constructor) (.cons (by repeat constructor) (.cons (by repeat constructor) (.cons (by repeat constructor) (.cons (by repeat constructor) .nil))))), by first | (simp only [puts_cons, puts_nil, Act.put, List.setIfInBounds_toArray, List.set_cons_succ, List.set_cons_zero]; done) | (simp only [puts_cons, puts_nil, Act.put, List.setIfInBounds_toArray, List.set_cons_succ, List.set_cons_zero]; rfl)⟩
  clear H
  rintro u w ⟨_, H, rfl⟩
  simp only [puts_cons, puts_nil, Act.put, List.setIfInBounds_toArray, List.set_cons_succ, List.set_cons_zero]
  go_wp2_with (first
    | go_skip
    | ((with_reducible refine at_box ?_); first | (refine wpList_box_H rfl rfl H rfl (by constructor) ?_; clear H; intro b w H))
    | ((with_reducible refine at_alloc ?_); first | (refine wpList_alloc_H rfl rfl H ?_; clear H; intro b w H))
    | ((with_reducible refine at_load ?_); first | (refine wpList_load_H rfl rfl H rfl (by repeat constructor) ?_) | (refine wpList_loads_H rfl rfl H rfl (by repeat constructor) ?_))
    | ((with_reducible refine at_store ?_); first | (refine wpList_store_H rfl rfl H rfl rfl (by repeat constructor) ?_; clear H; intro w H)))
  replace H := (H.take (e := .bare d) (by repeat constructor)).bparts
  refine wp_cut (fun u a' w' => ∃ (y : GV), Hid (y.m = stoppedM (gAtM B.m k) ⟨1, p, true, 0⟩) ∧ Hp W0 w' [.gst y, .many En.gst d.gs.xs, .gsl ⟨d.gs.A, d.gs.c, d.gs.xs.set k y⟩, .rows d.mem, .many En.int d.mem.xs, .int d.outs, .box bB 28 (barr d).toList, .box bR 28 [.slice none 0 0, .slice none 0 0, .slice none 0 0, .int .i64 0]] ∧ a' = puts u [(113, .pointer (some ⟨bB, 1, none⟩)), (114, .slice d.gs.A d.gs.xs.length d.gs.c), (115, (.int .i64 k)), (116, x.val), (117, (.int .i64 a)), (118, (.int .i64 p)), (119, (.bool true)), (120, (Exit.val ⟨1, p, true, 0⟩)), (121, y.val), (122, (.pointer (some ⟨ablk d.gs.A, aoff d.gs.A + k * 15, none⟩)))]) ?_ ?_
  · refine wp_region_held (S := (fun w' => Rw w' bB 28 (barr d) ∧ Rw w' bX 53 (garr x))) (by kernel_rfl) ?_
    replace H := H.drew
    refine tkH (i := 0) rfl .here (yields_val (v := .pointer (some ⟨bB, 1, none⟩)) rfl (fun _ => by go_simp)) ⟨H.rw_ (by repeat constructor), H.rw_ (by repeat constructor)⟩ ?_
    (try go_frame)
    refine tkH (i := 1) rfl (.of rfl) (yields_load1_R rfl rfl rfl (fun _ hS => hS.1) rfl) ⟨H.rw_ (by repeat constructor), H.rw_ (by repeat constructor)⟩ ?_
    (try go_frame)
    refine tkH (i := 2) rfl (.of rfl) (yields_val (v := (.int .i64 k)) rfl (fun _ => by go_simp)) ⟨H.rw_ (by repeat constructor), H.rw_ (by repeat constructor)⟩ ?_
    (try go_frame)
    refine tkH (i := 3) rfl (.of rfl) (yields_loads_R rfl rfl rfl (fun _ hS => hS.2) (by repeat constructor)) ⟨H.rw_ (by repeat constructor), H.rw_ (by repeat constructor)⟩ ?_
    (try go_frame)
    refine tkH (i := 4) rfl (.of rfl) (yields_val (v := (.int .i64 a)) rfl (fun _ => by go_simp)) ⟨H.rw_ (by repeat constructor), H.rw_ (by repeat constructor)⟩ ?_
    (try go_frame)
    refine tkH (i := 6) rfl (.of rfl) (yields_val (v := (.bool true)) rfl (fun _ => by go_simp)) ⟨H.rw_ (by repeat constructor), H.rw_ (by repeat constructor)⟩ ?_
    (try go_frame)
    refine anyH_1 (i := 5) (by kernel_rfl) ?_
    refine wpOp_at rfl (.of rfl) rfl ?_
    refine wp_call_H Tryz.f100 rfl rfl Tryz.func100 (by kernel_rfl) rfl rfl (val_H (v := .int .i64 p) H ((specAddrPage_c a ha1 ha2 _).mono fun _ _ ⟨he, K⟩ => ⟨by rw [he, HP.out], K⟩)) ?_
    clear H
    rintro _ w ⟨rfl, H⟩
    refine ⟨⟨H.rw_ (by repeat constructor), H.rw_ (by repeat constructor)⟩, ?_⟩
    (try go_frame)
    refine anyH_1 (i := 7) (by kernel_rfl) ?_
    refine wpOp_at rfl (.of rfl) rfl ?_
    refine wp_call_H Tryz.f102 rfl rfl Tryz.func102 (by kernel_rfl) rfl rfl (val_H (v := Exit.val ⟨1, p, true, 0⟩) H (specFaultExit_c p true _)) ?_
    clear H
    rintro _ w ⟨rfl, H⟩
    refine ⟨⟨H.rw_ (by repeat constructor), H.rw_ (by repeat constructor)⟩, ?_⟩
    (try go_frame)
    refine anyH_1 (i := 8) (by kernel_rfl) ?_
    refine wpOp_at rfl (.of rfl) rfl ?_
    refine wp_call_H Tryz.f80 rfl rfl Tryz.func80 (by kernel_rfl) rfl rfl (made_H H ((specStopped_c x ⟨1, p, true, 0⟩ _ rfl _ (H.grd1 (g := x) (by repeat constructor)) ZX).mono fun _ _ h => mkgS h)) ?_
    clear H
    rintro _ w ⟨y, rfl, HY, H⟩
    refine ⟨⟨H.rw_ (by repeat constructor), H.rw_ (by repeat constructor)⟩, ?_⟩
    (try go_frame)
    refine anyH_1 (i := 9) (by kernel_rfl) ?_
    refine wpOp_at rfl (.of rfl) rfl ?_
    refine wp_index_n rfl d.gs (H.rdgsl (by repeat constructor)) rfl rfl rfl (by rw [m_glen HD]; exact hk) ?_
    refine ⟨⟨H.rw_ (by repeat constructor), H.rw_ (by repeat constructor)⟩, ?_⟩
    (try go_frame)
    refine anyH_1 (i := 10) (by kernel_rfl) ?_
    refine wpOp_at rfl (.of rfl) rfl ?_
    refine wp_store_el rfl H d.gs (by repeat constructor) g_len rfl rfl (d.gs.xs[k]'(by rw [m_glen HD]; exact hk)) y (List.getElem?_eq_getElem _) (Nat.add_zero _).symm (by constructor) (by repeat constructor) (by exact rfl) (by exact rfl) ?_
    clear H
    intro w H
    refine ⟨⟨H.rw_ (by repeat constructor), H.rw_ (by repeat constructor)⟩, ?_⟩
    (try go_frame)
    refine wpAnyH_done (by kernel_rfl) ?_ _
    exact ⟨rfl, y, (by show _ = _; rw [HY.out, HX.out]), H.pick (.cons (by repeat constructor) (.cons (by repeat constructor) (.cons (by repeat constructor) (.cons (by repeat constructor) (.cons (by repeat constructor) (.cons (by repeat constructor) (.cons (by repeat constructor) (.cons (by repeat constructor) .nil)))))))), by first | (simp only [puts_cons, puts_nil, Act.put, List.setIfInBounds_toArray, List.set_cons_succ, List.set_cons_zero]; done) | (simp only [puts_cons, puts_nil, Act.put, List.setIfInBounds_toArray, List.set_cons_succ, List.set_cons_zero]; rfl)⟩
  clear H
  rintro u w ⟨y, HY, H, rfl⟩
  simp only [puts_cons, puts_nil, Act.put, List.setIfInBounds_toArray, List.set_cons_succ, List.set_cons_zero]
  replace H := H.many_set (by rw [m_glen HD]; exact hk)
  go_wp2_with (first
    | go_skip
    | ((with_reducible refine at_box ?_); first | (refine wpList_box_H rfl rfl H rfl (by constructor) ?_; clear H; intro b w H))
    | ((with_reducible refine at_alloc ?_); first | (refine wpList_alloc_H rfl rfl H ?_; clear H; intro b w H))
    | ((with_reducible refine at_load ?_); first | (refine wpList_load_H rfl rfl H rfl (by repeat constructor) ?_) | (refine wpList_loads_H rfl rfl H rfl (by repeat constructor) ?_))
    | ((with_reducible refine at_store ?_); first | (refine wpList_store_H rfl rfl H rfl rfl (by repeat constructor) ?_; clear H; intro w H)))
  refine bodyPost_ret (results_H2 rfl H rfl (by repeat constructor)) rfl ⟨⟨d.mem, ⟨d.gs.A, d.gs.c, d.gs.xs.set k y⟩, d.outs, d.pend⟩, by simp [BV.val], wgPut (d := ⟨d.mem, d.gs, d.outs, d.pend⟩) HD (by rw [m_glen HD]; exact hk) HY.out, H.bare5 (.cons (by repeat constructor) (.cons (by repeat constructor) (.cons (by repeat constructor) (.cons (by repeat constructor) (.cons (by repeat constructor) .nil))))) rfl rfl⟩
set_option maxRecDepth 100000 in
set_option maxHeartbeats 4000000 in
theorem specBareStep_4t (B : BV) (g : Int) (e1 : bareOkM B.m = true) (e2 : hasM B.m g = true) (hw : wantM (gAtM B.m g) = 4) (hk : walkOkM (gAtM B.m g).live (addrPageM (addrM (gAtM B.m g))) 2 = true) (W0 : World) (R : BRd W0 B) (Z : BBig B) : Calls Tryz.prog 22 #[B.val, .int .i64 g] W0 fun e w' => ∃ d : BV, e = .returned (.tuple #[d.val, .bool true]) ∧ d.m = withGuestM { B.m with memory := withCellM B.m.memory (walkPageM (gAtM B.m g).live (addrPageM (addrM (gAtM B.m g))) 2) (addrCellM (addrM (gAtM B.m g))) (gAtM B.m g).a } g (movedM (gAtM B.m g)) ∧ Hp W0 w' [.bare d] := by
  have hg : 0 ≤ g ∧ g < B.gs.xs.length := by simpa [hasM, hasB, BV.m, gsOf] using e2
  obtain ⟨k, rfl⟩ := Int.eq_ofNat_of_zero_le hg.1
  have hkk : k < B.gs.xs.length := by omega
  clear hg
  obtain ⟨a, ha⟩ : ∃ a, a = addrM (gAtM B.m k) := ⟨_, rfl⟩
  have HA : Hid (addrM (gAtM B.m k) = a) := ha.symm
  clear ha
  obtain ⟨i, hi⟩ : ∃ i, i = insAtM (gAtM B.m k).prog (gAtM B.m k).pc := ⟨_, rfl⟩
  have HI : Hid (insAtM (gAtM B.m k).prog (gAtM B.m k).pc = i) := hi.symm
  clear hi
  have ZM : B.m.size ≤ 4194304 := Z
  obtain ⟨hb1, hb2⟩ := addr_bd e1 e2 (by rw [hw]; simp)
  rw [HA.out] at hb1 hb2
  have ha1 : a ≤ 9223372036854775807 := by omega
  have ha2 : -9223372036854775808 ≤ a := by omega
  clear hb1 hb2
  obtain ⟨p, hp⟩ : ∃ p, p = addrPageM a := ⟨_, rfl⟩
  have HP : Hid (addrPageM a = p) := hp.symm
  clear hp
  obtain ⟨c, hc⟩ : ∃ c, c = addrCellM a := ⟨_, rfl⟩
  have HC : Hid (addrCellM a = c) := hc.symm
  clear hc
  obtain ⟨pg, hpg⟩ : ∃ pg, pg = walkPageM (gAtM B.m k).live p 2 := ⟨_, rfl⟩
  have HPG : Hid (walkPageM (gAtM B.m k).live p 2 = pg) := hpg.symm
  clear hpg
  have HWK : Hid (walkOkM (gAtM B.m k).live p 2 = true) := by show _ = _; rw [← HP.out, ← HA.out]; exact hk
  have HM : withGuestM { B.m with memory := withCellM B.m.memory (walkPageM (gAtM B.m k).live (addrPageM (addrM (gAtM B.m k))) 2) (addrCellM (addrM (gAtM B.m k))) (gAtM B.m k).a } k (movedM (gAtM B.m k)) = withGuestM { B.m with memory := withCellM B.m.memory pg c (gAtM B.m k).a } k (movedM (gAtM B.m k)) := by simp only [HA.out, HP.out, HC.out, HPG.out]
  rw [HM]
  clear HM hk
  have hk := hkk
  clear hkk
  have ew := Lib.hid hw; clear hw
  have H := Hp.start W0
  go_enter Tryz.func22, Tryz.ntmps22
  go_wp2_with (first
    | go_skip
    | ((with_reducible refine at_box ?_); first | (refine wpList_box_H (cs := (barr B).toList) rfl rfl H rfl CellsOf.agg ?_; clear H; intro bB w H) | (refine wpList_box_H rfl rfl H rfl (by constructor) ?_; clear H; intro b w H))
    | ((with_reducible refine at_alloc ?_); first | ((with_reducible refine at_dst 4 ?_); refine wpList_alloc_H rfl rfl H ?_; clear H; intro bR w H) | ((with_reducible refine at_dst 6 ?_); refine wpList_alloc_H rfl rfl H ?_; clear H; intro bX w H) | ((with_reducible refine at_dst 13 ?_); refine wpList_alloc_H rfl rfl H ?_; clear H; intro bY w H) | (refine wpList_alloc_H rfl rfl H ?_; clear H; intro b w H))
    | ((with_reducible refine at_load ?_); first | (refine wpList_load_H rfl rfl H rfl (by repeat constructor) ?_) | (refine wpList_loads_H rfl rfl H rfl (by repeat constructor) ?_))
    | ((with_reducible refine at_store ?_); first | (refine wpList_store_H rfl rfl H rfl rfl (by repeat constructor) ?_; clear H; intro w H))
    | (go_at_call 76; refine (l17Copy_c B _ (R.at_ H) Z).mono ?_; rintro e w ⟨d, rfl, x1, K⟩; have HD := Lib.hid x1; clear x1; have Zd := m_big HD Z; replace H := H.add_all K; clear K)
    | (go_at_call 41; refine (specGuestAt_c d k _ (H.brd (b := d) (by repeat constructor)) Zd).mono ?_; rintro e w ⟨x, he, x1, K⟩; rw [HD.out, e2] at he; subst he; have HX : Hid (x.m = gAtM B.m k) := (by show _ = _; rw [x1, HD.out]); clear x1; have ZX : GBig x := size_big HX.out (Nat.le_trans (gAtM_size _ _) ZM); replace H := H.add_all K; clear K)
    | (go_at_call 95; refine (specWantOf_any x _ (H.grd1 (g := x) (by repeat constructor)).prog ZX.1).mono ?_; rintro e w ⟨he, hb⟩; rw [HX.out, ew.out] at he; subst he; replace H := H.still hb; clear hb)
    | (go_at_call 51; refine (specBareOk_c d _ (H.brd (b := d) (by repeat constructor)) Zd).mono ?_; rintro e w ⟨he, K⟩; rw [HD.out, e1] at he; subst he; replace H := H.add_all K; clear K)
    | (go_at_call 98; refine (specAddress_any x _ (H.grd1 (g := x) (by repeat constructor)).prog ZX.1).mono ?_; rintro e w ⟨he, hb⟩; rw [HX.out, HA.out] at he; subst he; replace H := H.still hb; clear hb))
  have HL : Hid (x.live.xs = (gAtM B.m k).live) := congrArg MG.live HX.out
  refine wp_cut (fun u a' w' => ∃ (_ : Unit), Hp W0 w' [.bare d, .gst x, .box bX 53 (garr x).toList, .box bB 28 (barr d).toList, .box bR 28 [.slice none 0 0, .slice none 0 0, .slice none 0 0, .int .i64 0]] ∧ a' = puts u [(89, .pointer (some ⟨bX, 4, none⟩)), (90, .slice x.live.A x.live.xs.length x.live.c), (91, (.int .i64 a)), (92, (.int .i64 p)), (93, (.bool true)), (94, (.int .i64 2)), (95, (.tuple #[.int .i64 pg, .bool true])), (88, (.tuple #[.int .i64 pg, .bool true])), (96, (.int .i64 pg)), (97, (.bool true)), (11, (.int .i64 pg)), (12, (.bool true))]) ?_ ?_
  · refine wp_region_held (S := (fun w' => Rw w' bB 28 (barr d) ∧ Rw w' bX 53 (garr x))) (by kernel_rfl) ?_
    replace H := H.drew
    refine tkH (i := 0) rfl .here (yields_val (v := .pointer (some ⟨bX, 4, none⟩)) rfl (fun _ => by go_simp)) ⟨H.rw_ (by repeat constructor), H.rw_ (by repeat constructor)⟩ ?_
    (try go_frame)
    refine tkH (i := 1) rfl (.of rfl) (yields_load1_R rfl rfl rfl (fun _ hS => hS.2) rfl) ⟨H.rw_ (by repeat constructor), H.rw_ (by repeat constructor)⟩ ?_
    (try go_frame)
    refine tkH (i := 2) rfl (.of rfl) (yields_val (v := (.int .i64 a)) rfl (fun _ => by go_simp)) ⟨H.rw_ (by repeat constructor), H.rw_ (by repeat constructor)⟩ ?_
    (try go_frame)
    refine tkH (i := 4) rfl (.of rfl) (yields_val (v := (.bool true)) rfl (fun _ => by go_simp)) ⟨H.rw_ (by repeat constructor), H.rw_ (by repeat constructor)⟩ ?_
    (try go_frame)
    refine anyH_1 (i := 3) (by kernel_rfl) ?_
    refine wpOp_at rfl (.of rfl) rfl ?_
    refine wp_call_H Tryz.f100 rfl rfl Tryz.func100 (by kernel_rfl) rfl rfl (val_H (v := .int .i64 p) H ((specAddrPage_c a ha1 ha2 _).mono fun _ _ ⟨he, K⟩ => ⟨by rw [he, HP.out], K⟩)) ?_
    clear H
    rintro _ w ⟨rfl, H⟩
    refine ⟨⟨H.rw_ (by repeat constructor), H.rw_ (by repeat constructor)⟩, ?_⟩
    (try go_frame)
    refine anyH_1 (i := 5) (by kernel_rfl) ?_
    refine wpOp_at rfl (.of rfl) rfl ?_
    refine wp_call_H Tryz.f101 rfl rfl Tryz.func101 (by kernel_rfl) rfl rfl (val_H (v := .int .i64 2) H (specNeedOf_c true _)) ?_
    clear H
    rintro _ w ⟨rfl, H⟩
    refine ⟨⟨H.rw_ (by repeat constructor), H.rw_ (by repeat constructor)⟩, ?_⟩
    (try go_frame)
    refine anyH_1 (i := 6) (by kernel_rfl) ?_
    refine wpOp_at rfl (.of rfl) rfl ?_
    refine wp_call_H Tryz.f99 rfl rfl Tryz.func99 (by kernel_rfl) rfl rfl (val_H (v := .tuple #[.int .i64 pg, .bool true]) H ((specWalkInner_c x.live p 2 _ (H.grd1 (g := x) (by repeat constructor)).live ZX.2.2.1).mono fun _ _ ⟨he, K⟩ => ⟨by rw [he, HL.out, HPG.out, HWK.out], K⟩)) ?_
    clear H
    rintro _ w ⟨rfl, H⟩
    refine ⟨⟨H.rw_ (by repeat constructor), H.rw_ (by repeat constructor)⟩, ?_⟩
    (try go_frame)
    refine tkH (i := 7) rfl (.of rfl) (yields_val (v := (.tuple #[.int .i64 pg, .bool true])) rfl (fun _ => by go_simp)) ⟨H.rw_ (by repeat constructor), H.rw_ (by repeat constructor)⟩ ?_
    (try go_frame)
    refine tkH (i := 8) rfl (.of rfl) (yields_val (v := (.int .i64 pg)) rfl (fun _ => by go_simp)) ⟨H.rw_ (by repeat constructor), H.rw_ (by repeat constructor)⟩ ?_
    (try go_frame)
    refine tkH (i := 9) rfl (.of rfl) (yields_val (v := (.bool true)) rfl (fun _ => by go_simp)) ⟨H.rw_ (by repeat constructor), H.rw_ (by repeat constructor)⟩ ?_
    (try go_frame)
    refine tkH (i := 10) rfl (.of rfl) (yields_val (v := (.int .i64 pg)) rfl (fun _ => by go_simp)) ⟨H.rw_ (by repeat constructor), H.rw_ (by repeat constructor)⟩ ?_
    (try go_frame)
    refine tkH (i := 11) rfl (.of rfl) (yields_val (v := (.bool true)) rfl (fun _ => by go_simp)) ⟨H.rw_ (by repeat constructor), H.rw_ (by repeat constructor)⟩ ?_
    (try go_frame)
    refine wpAnyH_done (by kernel_rfl) ?_ _
    exact ⟨rfl, (), H.pick (.cons (by repeat constructor) (.cons (by repeat constructor) (.cons (by repeat constructor) (.cons (by repeat constructor) (.cons (by repeat constructor) .nil))))), by first | (simp only [puts_cons, puts_nil, Act.put, List.setIfInBounds_toArray, List.set_cons_succ, List.set_cons_zero]; done) | (simp only [puts_cons, puts_nil, Act.put, List.setIfInBounds_toArray, List.set_cons_succ, List.set_cons_zero]; rfl)⟩
  clear H
  rintro u w ⟨_, H, rfl⟩
  simp only [puts_cons, puts_nil, Act.put, List.setIfInBounds_toArray, List.set_cons_succ, List.set_cons_zero]
  go_wp2_with (first
    | go_skip
    | ((with_reducible refine at_box ?_); first | (refine wpList_box_H rfl rfl H rfl (by constructor) ?_; clear H; intro b w H))
    | ((with_reducible refine at_alloc ?_); first | (refine wpList_alloc_H rfl rfl H ?_; clear H; intro b w H))
    | ((with_reducible refine at_load ?_); first | (refine wpList_load_H rfl rfl H rfl (by repeat constructor) ?_) | (refine wpList_loads_H rfl rfl H rfl (by repeat constructor) ?_))
    | ((with_reducible refine at_store ?_); first | (refine wpList_store_H rfl rfl H rfl rfl (by repeat constructor) ?_; clear H; intro w H)))
  replace H := (H.take (e := .bare d) (by repeat constructor)).bparts
  refine wp_cut (fun u a' w' => ∃ (q : Sl (Sl Int)), Hid (q.xs.map (fun x => x.xs) = withCellM (memOf d.mem) pg c x.a) ∧ Hp W0 w' [.rows q, .many En.int q.xs, .gsl d.gs, .many En.gst d.gs.xs, .int d.outs, .gst x, .box bX 53 (garr x).toList, .box bB 28 (barr (⟨q, d.gs, d.outs, d.pend⟩ : BV)).toList, .box bR 28 [.slice none 0 0, .slice none 0 0, .slice none 0 0, .int .i64 0]] ∧ a' = puts u [(125, .pointer (some ⟨bB, 0, none⟩)), (126, .slice d.mem.A d.mem.xs.length d.mem.c), (127, (.int .i64 pg)), (128, (.int .i64 a)), (129, (.int .i64 c)), (130, .pointer (some ⟨bX, 1, none⟩)), (131, (.int .i64 x.a)), (132, .slice q.A q.xs.length q.c), (133, .pointer (some ⟨bB, 0, none⟩))]) ?_ ?_
  · refine wp_region_last 9 (S := (fun w' => Rw w' bB 28 (barr d) ∧ Rw w' bX 53 (garr x))) (by kernel_rfl) ?_
    replace H := H.drew
    refine tkL (i := 0) rfl .here (yields_val (v := .pointer (some ⟨bB, 0, none⟩)) rfl (fun _ => by go_simp)) ⟨H.rw_ (by repeat constructor), H.rw_ (by repeat constructor)⟩ ?_
    (try go_frame)
    refine tkL (i := 1) rfl (.of rfl) (yields_load1_R rfl rfl rfl (fun _ hS => hS.1) rfl) ⟨H.rw_ (by repeat constructor), H.rw_ (by repeat constructor)⟩ ?_
    (try go_frame)
    refine tkL (i := 2) rfl (.of rfl) (yields_val (v := (.int .i64 pg)) rfl (fun _ => by go_simp)) ⟨H.rw_ (by repeat constructor), H.rw_ (by repeat constructor)⟩ ?_
    (try go_frame)
    refine tkL (i := 3) rfl (.of rfl) (yields_val (v := (.int .i64 a)) rfl (fun _ => by go_simp)) ⟨H.rw_ (by repeat constructor), H.rw_ (by repeat constructor)⟩ ?_
    (try go_frame)
    refine tkL (i := 5) rfl (.of rfl) (yields_val (v := .pointer (some ⟨bX, 1, none⟩)) rfl (fun _ => by go_simp)) ⟨H.rw_ (by repeat constructor), H.rw_ (by repeat constructor)⟩ ?_
    (try go_frame)
    refine tkL (i := 6) rfl (.of rfl) (yields_load1_R rfl rfl rfl (fun _ hS => hS.2) rfl) ⟨H.rw_ (by repeat constructor), H.rw_ (by repeat constructor)⟩ ?_
    (try go_frame)
    refine anyL_1 (i := 4) (by kernel_rfl) ?_
    refine wpOp_at rfl (.of rfl) rfl ?_
    refine wp_call_H Tryz.f104 rfl rfl Tryz.func104 (by kernel_rfl) rfl rfl (val_H (v := .int .i64 c) H ((specAddrCell_c a ha1 ha2 _).mono fun _ _ ⟨he, K⟩ => ⟨by rw [he, HC.out], K⟩)) ?_
    clear H
    rintro _ w ⟨rfl, H⟩
    refine ⟨fun _ => ⟨H.rw_ (by repeat constructor), H.rw_ (by repeat constructor)⟩, ?_⟩
    (try go_frame)
    refine anyL_1 (i := 7) (by kernel_rfl) ?_
    refine wpOp_at rfl (.of rfl) rfl ?_
    refine wp_call_H Tryz.f103 rfl rfl Tryz.func103 (by kernel_rfl) rfl rfl (made_H (val := fun q : Sl (Sl Int) => .slice q.A q.xs.length q.c) H ((specWithCell_c d.mem pg c x.a _ (H.rdrows (s := d.mem) (by repeat constructor)) (H.rdmany (l := d.mem.xs) (by repeat constructor)) Zd.mem Zd.memi))) ?_
    clear H
    rintro _ w ⟨q, rfl, HQ, H⟩
    refine ⟨fun _ => ⟨H.rw_ (by repeat constructor), H.rw_ (by repeat constructor)⟩, ?_⟩
    (try go_frame)
    refine tkL (i := 8) rfl (.of rfl) (yields_val (v := .pointer (some ⟨bB, 0, none⟩)) rfl (fun _ => by go_simp)) ⟨H.rw_ (by repeat constructor), H.rw_ (by repeat constructor)⟩ ?_
    (try go_frame)
    refine anyL_1 (i := 9) (by kernel_rfl) ?_
    refine wpOp_at rfl (.of rfl) rfl ?_
    refine wp_store_H rfl H rfl rfl (by repeat constructor) ?_
    clear H
    intro w H
    refine ⟨fun hw => absurd rfl hw, ?_⟩
    (try go_frame)
    refine anyL_done (by kernel_rfl) ?_ _
    exact ⟨rfl, q, (by show _ = _; rw [HQ.out]), H.pick (.cons (by repeat constructor) (.cons (by repeat constructor) (.cons (by repeat constructor) (.cons (by repeat constructor) (.cons (by repeat constructor) (.cons (by repeat constructor) (.cons (by repeat constructor) (.cons (by repeat constructor) (.cons (by repeat constructor) .nil))))))))), by first | (simp only [puts_cons, puts_nil, Act.put, List.setIfInBounds_toArray, List.set_cons_succ, List.set_cons_zero]; done) | (simp only [puts_cons, puts_nil, Act.put, List.setIfInBounds_toArray, List.set_cons_succ, List.set_cons_zero]; rfl)⟩
  clear H
  rintro u w ⟨q, HQ, H, rfl⟩
  simp only [puts_cons, puts_nil, Act.put, List.setIfInBounds_toArray, List.set_cons_succ, List.set_cons_zero]
  have HB2 : Hid ((⟨q, d.gs, d.outs, d.pend⟩ : BV).m = { B.m with memory := withCellM B.m.memory pg c (gAtM B.m k).a }) := by
    show _ = _
    have h : x.a = (gAtM B.m k).a := congrArg MG.a HX.out
    rw [h] at HQ
    have h2 : memOf d.mem = memOf B.mem := congrArg MB.memory HD.out
    rw [h2] at HQ
    have h3 := HD.out
    simp only [BV.m, MB.mk.injEq] at h3
    obtain ⟨_, h4, h5, h6⟩ := h3
    show (⟨q.xs.map (fun x => x.xs), gsOf d.gs, d.outs.xs, d.pend⟩ : MB) = _
    rw [HQ.out, h4, h5, h6]; rfl
  go_wp2_with (first
    | go_skip
    | ((with_reducible refine at_box ?_); first | (refine wpList_box_H rfl rfl H rfl (by constructor) ?_; clear H; intro b w H))
    | ((with_reducible refine at_alloc ?_); first | (refine wpList_alloc_H rfl rfl H ?_; clear H; intro b w H))
    | ((with_reducible refine at_load ?_); first | (refine wpList_load_H rfl rfl H rfl (by repeat constructor) ?_) | (refine wpList_loads_H rfl rfl H rfl (by repeat constructor) ?_))
    | ((with_reducible refine at_store ?_); first | (refine wpList_store_H rfl rfl H rfl rfl (by repeat constructor) ?_; clear H; intro w H)))
  refine wp_cut (fun u a' w' => ∃ (y : GV), Hid (y.m = movedM (gAtM B.m k)) ∧ Hp W0 w' [.gst y, .many En.gst d.gs.xs, .gsl ⟨d.gs.A, d.gs.c, d.gs.xs.set k y⟩, .rows q, .many En.int q.xs, .int d.outs, .box bB 28 (barr (⟨q, d.gs, d.outs, d.pend⟩ : BV)).toList, .box bR 28 [.slice none 0 0, .slice none 0 0, .slice none 0 0, .int .i64 0]] ∧ a' = puts u [(134, .pointer (some ⟨bB, 1, none⟩)), (135, .slice d.gs.A d.gs.xs.length d.gs.c), (136, (.int .i64 k)), (137, x.val), (138, y.val), (139, (.pointer (some ⟨ablk d.gs.A, aoff d.gs.A + k * 15, none⟩)))]) ?_ ?_
  · refine wp_region_held (S := (fun w' => Rw w' bB 28 (barr (⟨q, d.gs, d.outs, d.pend⟩ : BV)) ∧ Rw w' bX 53 (garr x))) (by kernel_rfl) ?_
    replace H := H.drew
    refine tkH (i := 0) rfl .here (yields_val (v := .pointer (some ⟨bB, 1, none⟩)) rfl (fun _ => by go_simp)) ⟨H.rw_ (by repeat constructor), H.rw_ (by repeat constructor)⟩ ?_
    (try go_frame)
    refine tkH (i := 1) rfl (.of rfl) (yields_load1_R rfl rfl rfl (fun _ hS => hS.1) rfl) ⟨H.rw_ (by repeat constructor), H.rw_ (by repeat constructor)⟩ ?_
    (try go_frame)
    refine tkH (i := 2) rfl (.of rfl) (yields_val (v := (.int .i64 k)) rfl (fun _ => by go_simp)) ⟨H.rw_ (by repeat constructor), H.rw_ (by repeat constructor)⟩ ?_
    (try go_frame)
    refine tkH (i := 3) rfl (.of rfl) (yields_loads_R rfl rfl rfl (fun _ hS => hS.2) (by repeat constructor)) ⟨H.rw_ (by repeat constructor), H.rw_ (by repeat constructor)⟩ ?_
    (try go_frame)
    refine anyH_1 (i := 4) (by kernel_rfl) ?_
    refine wpOp_at rfl (.of rfl) rfl ?_
    refine wp_call_H Tryz.f105 rfl rfl Tryz.func105 (by kernel_rfl) rfl rfl (made_H H ((specStored_c x _ rfl _ (H.grd1 (g := x) (by repeat constructor)) ZX).mono fun _ _ h => mkgS h)) ?_
    clear H
    rintro _ w ⟨y, rfl, HY, H⟩
    refine ⟨⟨H.rw_ (by repeat constructor), H.rw_ (by repeat constructor)⟩, ?_⟩
    (try go_frame)
    refine anyH_1 (i := 5) (by kernel_rfl) ?_
    refine wpOp_at rfl (.of rfl) rfl ?_
    refine wp_index_n rfl d.gs (H.rdgsl (by repeat constructor)) rfl rfl rfl (by rw [m_glen HD]; exact hk) ?_
    refine ⟨⟨H.rw_ (by repeat constructor), H.rw_ (by repeat constructor)⟩, ?_⟩
    (try go_frame)
    refine anyH_1 (i := 6) (by kernel_rfl) ?_
    refine wpOp_at rfl (.of rfl) rfl ?_
    refine wp_store_el rfl H d.gs (by repeat constructor) g_len rfl rfl (d.gs.xs[k]'(by rw [m_glen HD]; exact hk)) y (List.getElem?_eq_getElem _) (Nat.add_zero _).symm (by constructor) (by repeat constructor) (by exact rfl) (by exact rfl) ?_
    clear H
    intro w H
    refine ⟨⟨H.rw_ (by repeat constructor), H.rw_ (by repeat constructor)⟩, ?_⟩
    (try go_frame)
    refine wpAnyH_done (by kernel_rfl) ?_ _
    exact ⟨rfl, y, (by show _ = _; rw [HY.out, HX.out]), H.pick (.cons (by repeat constructor) (.cons (by repeat constructor) (.cons (by repeat constructor) (.cons (by repeat constructor) (.cons (by repeat constructor) (.cons (by repeat constructor) (.cons (by repeat constructor) (.cons (by repeat constructor) .nil)))))))), by first | (simp only [puts_cons, puts_nil, Act.put, List.setIfInBounds_toArray, List.set_cons_succ, List.set_cons_zero]; done) | (simp only [puts_cons, puts_nil, Act.put, List.setIfInBounds_toArray, List.set_cons_succ, List.set_cons_zero]; rfl)⟩
  clear H
  rintro u w ⟨y, HY, H, rfl⟩
  simp only [puts_cons, puts_nil, Act.put, List.setIfInBounds_toArray, List.set_cons_succ, List.set_cons_zero]
  replace H := H.many_set (by rw [m_glen HD]; exact hk)
  go_wp2_with (first
    | go_skip
    | ((with_reducible refine at_box ?_); first | (refine wpList_box_H rfl rfl H rfl (by constructor) ?_; clear H; intro b w H))
    | ((with_reducible refine at_alloc ?_); first | (refine wpList_alloc_H rfl rfl H ?_; clear H; intro b w H))
    | ((with_reducible refine at_load ?_); first | (refine wpList_load_H rfl rfl H rfl (by repeat constructor) ?_) | (refine wpList_loads_H rfl rfl H rfl (by repeat constructor) ?_))
    | ((with_reducible refine at_store ?_); first | (refine wpList_store_H rfl rfl H rfl rfl (by repeat constructor) ?_; clear H; intro w H)))
  refine bodyPost_ret (results_H2 rfl H rfl (by repeat constructor)) rfl ⟨⟨q, ⟨d.gs.A, d.gs.c, d.gs.xs.set k y⟩, d.outs, d.pend⟩, by simp [BV.val], wgPut (d := ⟨q, d.gs, d.outs, d.pend⟩) HB2 (by rw [m_glen HD]; exact hk) HY.out, H.bare5 (.cons (by repeat constructor) (.cons (by repeat constructor) (.cons (by repeat constructor) (.cons (by repeat constructor) (.cons (by repeat constructor) .nil))))) rfl rfl⟩
set_option maxRecDepth 100000 in
set_option maxHeartbeats 4000000 in
theorem specBareStep_6 (B : BV) (g : Int) (e1 : bareOkM B.m = true) (e2 : hasM B.m g = true) (hw : wantM (gAtM B.m g) = 6) (W0 : World) (R : BRd W0 B) (Z : BBig B) : Calls Tryz.prog 22 #[B.val, .int .i64 g] W0 fun e w' => ∃ d : BV, e = .returned (.tuple #[d.val, .bool true]) ∧ d.m = withGuestM B.m g (stoppedM (gAtM B.m g) ⟨2, 0, false, (insAtM (gAtM B.m g).prog (gAtM B.m g).pc).x⟩) ∧ Hp W0 w' [.bare d] := by
  have hg : 0 ≤ g ∧ g < B.gs.xs.length := by simpa [hasM, hasB, BV.m, gsOf] using e2
  obtain ⟨k, rfl⟩ := Int.eq_ofNat_of_zero_le hg.1
  have hk : k < B.gs.xs.length := by omega
  clear hg
  obtain ⟨a, ha⟩ : ∃ a, a = addrM (gAtM B.m k) := ⟨_, rfl⟩
  have HA : Hid (addrM (gAtM B.m k) = a) := ha.symm
  clear ha
  obtain ⟨i, hi⟩ : ∃ i, i = insAtM (gAtM B.m k).prog (gAtM B.m k).pc := ⟨_, rfl⟩
  have HI : Hid (insAtM (gAtM B.m k).prog (gAtM B.m k).pc = i) := hi.symm
  clear hi
  have ZM : B.m.size ≤ 4194304 := Z
  have ew := Lib.hid hw; clear hw
  have H := Hp.start W0
  go_enter Tryz.func22, Tryz.ntmps22
  go_wp2_with (first
    | go_skip
    | ((with_reducible refine at_box ?_); first | (refine wpList_box_H (cs := (barr B).toList) rfl rfl H rfl CellsOf.agg ?_; clear H; intro bB w H) | (refine wpList_box_H rfl rfl H rfl (by constructor) ?_; clear H; intro b w H))
    | ((with_reducible refine at_alloc ?_); first | ((with_reducible refine at_dst 4 ?_); refine wpList_alloc_H rfl rfl H ?_; clear H; intro bR w H) | ((with_reducible refine at_dst 6 ?_); refine wpList_alloc_H rfl rfl H ?_; clear H; intro bX w H) | ((with_reducible refine at_dst 13 ?_); refine wpList_alloc_H rfl rfl H ?_; clear H; intro bY w H) | (refine wpList_alloc_H rfl rfl H ?_; clear H; intro b w H))
    | ((with_reducible refine at_load ?_); first | (refine wpList_load_H rfl rfl H rfl (by repeat constructor) ?_) | (refine wpList_loads_H rfl rfl H rfl (by repeat constructor) ?_))
    | ((with_reducible refine at_store ?_); first | (refine wpList_store_el (enc := GV.cells) (sz := 15) rfl rfl H d.gs (by repeat constructor) g_len rfl rfl (d.gs.xs[k]'(by rw [m_glen HD]; exact hk)) y (List.getElem?_eq_getElem _) (by constructor) (by repeat constructor) (by exact rfl) (by exact rfl) (by exact rfl) ?_; clear H; intro w H) | (refine wpList_store_H rfl rfl H rfl rfl (by repeat constructor) ?_; clear H; intro w H))
    | ((with_reducible refine at_index ?_); first | (refine wpList_index_n rfl rfl d.gs (H.rdgsl (by repeat constructor)) rfl rfl rfl (by rw [m_glen HD]; exact hk) ?_))
    | (go_at_call 76; refine (l17Copy_c B _ (R.at_ H) Z).mono ?_; rintro e w ⟨d, rfl, x1, K⟩; have HD := Lib.hid x1; clear x1; have Zd := m_big HD Z; replace H := H.add_all K; clear K)
    | (go_at_call 41; refine (specGuestAt_c d k _ (H.brd (b := d) (by repeat constructor)) Zd).mono ?_; rintro e w ⟨x, he, x1, K⟩; rw [HD.out, e2] at he; subst he; have HX : Hid (x.m = gAtM B.m k) := (by show _ = _; rw [x1, HD.out]); clear x1; have ZX : GBig x := size_big HX.out (Nat.le_trans (gAtM_size _ _) ZM); replace H := H.add_all K; clear K)
    | (go_at_call 95; refine (specWantOf_any x _ (H.grd1 (g := x) (by repeat constructor)).prog ZX.1).mono ?_; rintro e w ⟨he, hb⟩; rw [HX.out, ew.out] at he; subst he; replace H := H.still hb; clear hb)
    | (go_at_call 51; refine (specBareOk_c d _ (H.brd (b := d) (by repeat constructor)) Zd).mono ?_; rintro e w ⟨he, K⟩; rw [HD.out, e1] at he; subst he; replace H := H.add_all K; clear K)
    | (go_at_call 98; refine (specAddress_any x _ (H.grd1 (g := x) (by repeat constructor)).prog ZX.1).mono ?_; rintro e w ⟨he, hb⟩; rw [HX.out, HA.out] at he; subst he; replace H := H.still hb; clear hb)
    | (go_at_call 108; refine (l18Trap_6 x x.ctl.traps _ (H.grd1 (g := x) (by repeat constructor)) ZX).mono ?_; rintro e w ⟨y, rfl, x1, K⟩; have HY : Hid (y.m = stoppedM (gAtM B.m k) ⟨2, 0, false, (insAtM (gAtM B.m k).prog (gAtM B.m k).pc).x⟩) := (by show _ = _; rw [x1, HX.out]); clear x1; replace H := H.add_all K; clear K; replace H := (H.take (e := .bare d) (by repeat constructor)).bparts))
  replace H : Hp W0 _ [.gst y, .many En.gst d.gs.xs, .gsl ⟨d.gs.A, d.gs.c, d.gs.xs.set k y⟩, .rows d.mem, .many En.int d.mem.xs, .int d.outs, .box bR 28 (barr d).toList] := H.pick (.cons (by repeat constructor) (.cons (by repeat constructor) (.cons (by repeat constructor) (.cons (by repeat constructor) (.cons (by repeat constructor) (.cons (by repeat constructor) (.cons (by repeat constructor) .nil)))))))
  replace H := H.many_set (by rw [m_glen HD]; exact hk)
  refine bodyPost_ret (results_H2 rfl H rfl (by repeat constructor)) rfl ⟨⟨d.mem, ⟨d.gs.A, d.gs.c, d.gs.xs.set k y⟩, d.outs, d.pend⟩, by simp [BV.val], wgPut HD (by rw [m_glen HD]; exact hk) HY.out, H.bare5 (.cons (by repeat constructor) (.cons (by repeat constructor) (.cons (by repeat constructor) (.cons (by repeat constructor) (.cons (by repeat constructor) .nil))))) rfl rfl⟩
set_option maxRecDepth 100000 in
set_option maxHeartbeats 4000000 in
theorem specBareStep_5t (B : BV) (g : Int) (e1 : bareOkM B.m = true) (e2 : hasM B.m g = true) (hw : wantM (gAtM B.m g) = 5) (ht : hasTrapM (gAtM B.m g).ctl.traps 1 = true) (W0 : World) (R : BRd W0 B) (Z : BBig B) : Calls Tryz.prog 22 #[B.val, .int .i64 g] W0 fun e w' => ∃ d : BV, e = .returned (.tuple #[d.val, .bool true]) ∧ d.m = withGuestM B.m g (stoppedM (gAtM B.m g) ⟨3, 0, false, (insAtM (gAtM B.m g).prog (gAtM B.m g).pc).x⟩) ∧ Hp W0 w' [.bare d] := by
  have hg : 0 ≤ g ∧ g < B.gs.xs.length := by simpa [hasM, hasB, BV.m, gsOf] using e2
  obtain ⟨k, rfl⟩ := Int.eq_ofNat_of_zero_le hg.1
  have hk : k < B.gs.xs.length := by omega
  clear hg
  obtain ⟨a, ha⟩ : ∃ a, a = addrM (gAtM B.m k) := ⟨_, rfl⟩
  have HA : Hid (addrM (gAtM B.m k) = a) := ha.symm
  clear ha
  obtain ⟨i, hi⟩ : ∃ i, i = insAtM (gAtM B.m k).prog (gAtM B.m k).pc := ⟨_, rfl⟩
  have HI : Hid (insAtM (gAtM B.m k).prog (gAtM B.m k).pc = i) := hi.symm
  clear hi
  have ZM : B.m.size ≤ 4194304 := Z
  have ew := Lib.hid hw; clear hw
  have H := Hp.start W0
  go_enter Tryz.func22, Tryz.ntmps22
  go_wp2_with (first
    | go_skip
    | ((with_reducible refine at_box ?_); first | (refine wpList_box_H (cs := (barr B).toList) rfl rfl H rfl CellsOf.agg ?_; clear H; intro bB w H) | (refine wpList_box_H rfl rfl H rfl (by constructor) ?_; clear H; intro b w H))
    | ((with_reducible refine at_alloc ?_); first | ((with_reducible refine at_dst 4 ?_); refine wpList_alloc_H rfl rfl H ?_; clear H; intro bR w H) | ((with_reducible refine at_dst 6 ?_); refine wpList_alloc_H rfl rfl H ?_; clear H; intro bX w H) | ((with_reducible refine at_dst 13 ?_); refine wpList_alloc_H rfl rfl H ?_; clear H; intro bY w H) | (refine wpList_alloc_H rfl rfl H ?_; clear H; intro b w H))
    | ((with_reducible refine at_load ?_); first | (refine wpList_load_H rfl rfl H rfl (by repeat constructor) ?_) | (refine wpList_loads_H rfl rfl H rfl (by repeat constructor) ?_))
    | ((with_reducible refine at_store ?_); first | (refine wpList_store_el (enc := GV.cells) (sz := 15) rfl rfl H d.gs (by repeat constructor) g_len rfl rfl (d.gs.xs[k]'(by rw [m_glen HD]; exact hk)) y (List.getElem?_eq_getElem _) (by constructor) (by repeat constructor) (by exact rfl) (by exact rfl) (by exact rfl) ?_; clear H; intro w H) | (refine wpList_store_H rfl rfl H rfl rfl (by repeat constructor) ?_; clear H; intro w H))
    | ((with_reducible refine at_index ?_); first | (refine wpList_index_n rfl rfl d.gs (H.rdgsl (by repeat constructor)) rfl rfl rfl (by rw [m_glen HD]; exact hk) ?_))
    | (go_at_call 76; refine (l17Copy_c B _ (R.at_ H) Z).mono ?_; rintro e w ⟨d, rfl, x1, K⟩; have HD := Lib.hid x1; clear x1; have Zd := m_big HD Z; replace H := H.add_all K; clear K)
    | (go_at_call 41; refine (specGuestAt_c d k _ (H.brd (b := d) (by repeat constructor)) Zd).mono ?_; rintro e w ⟨x, he, x1, K⟩; rw [HD.out, e2] at he; subst he; have HX : Hid (x.m = gAtM B.m k) := (by show _ = _; rw [x1, HD.out]); clear x1; have ZX : GBig x := size_big HX.out (Nat.le_trans (gAtM_size _ _) ZM); replace H := H.add_all K; clear K)
    | (go_at_call 95; refine (specWantOf_any x _ (H.grd1 (g := x) (by repeat constructor)).prog ZX.1).mono ?_; rintro e w ⟨he, hb⟩; rw [HX.out, ew.out] at he; subst he; replace H := H.still hb; clear hb)
    | (go_at_call 51; refine (specBareOk_c d _ (H.brd (b := d) (by repeat constructor)) Zd).mono ?_; rintro e w ⟨he, K⟩; rw [HD.out, e1] at he; subst he; replace H := H.add_all K; clear K)
    | (go_at_call 98; refine (specAddress_any x _ (H.grd1 (g := x) (by repeat constructor)).prog ZX.1).mono ?_; rintro e w ⟨he, hb⟩; rw [HX.out, HA.out] at he; subst he; replace H := H.still hb; clear hb)
    | (go_at_call 108; have HTT : x.ctl.traps = (gAtM B.m k).ctl.traps := ctl_traps HX; rw [← HTT] at ht; refine (l18Trap_5t x x.ctl.traps ht _ (H.grd1 (g := x) (by repeat constructor)) ZX).mono ?_; rintro e w ⟨y, rfl, x1, K⟩; have HY : Hid (y.m = stoppedM (gAtM B.m k) ⟨3, 0, false, (insAtM (gAtM B.m k).prog (gAtM B.m k).pc).x⟩) := (by show _ = _; rw [x1, HX.out]); clear x1; replace H := H.add_all K; clear K; replace H := (H.take (e := .bare d) (by repeat constructor)).bparts))
  replace H : Hp W0 _ [.gst y, .many En.gst d.gs.xs, .gsl ⟨d.gs.A, d.gs.c, d.gs.xs.set k y⟩, .rows d.mem, .many En.int d.mem.xs, .int d.outs, .box bR 28 (barr d).toList] := H.pick (.cons (by repeat constructor) (.cons (by repeat constructor) (.cons (by repeat constructor) (.cons (by repeat constructor) (.cons (by repeat constructor) (.cons (by repeat constructor) (.cons (by repeat constructor) .nil)))))))
  replace H := H.many_set (by rw [m_glen HD]; exact hk)
  refine bodyPost_ret (results_H2 rfl H rfl (by repeat constructor)) rfl ⟨⟨d.mem, ⟨d.gs.A, d.gs.c, d.gs.xs.set k y⟩, d.outs, d.pend⟩, by simp [BV.val], wgPut HD (by rw [m_glen HD]; exact hk) HY.out, H.bare5 (.cons (by repeat constructor) (.cons (by repeat constructor) (.cons (by repeat constructor) (.cons (by repeat constructor) (.cons (by repeat constructor) .nil))))) rfl rfl⟩
set_option maxRecDepth 100000 in
set_option maxHeartbeats 4000000 in
theorem specBareStep_7t (B : BV) (g : Int) (e1 : bareOkM B.m = true) (e2 : hasM B.m g = true) (hw : wantM (gAtM B.m g) = 7) (ht : hasTrapM (gAtM B.m g).ctl.traps 2 = true) (W0 : World) (R : BRd W0 B) (Z : BBig B) : Calls Tryz.prog 22 #[B.val, .int .i64 g] W0 fun e w' => ∃ d : BV, e = .returned (.tuple #[d.val, .bool true]) ∧ d.m = withGuestM B.m g (stoppedM (gAtM B.m g) ⟨4, 0, false, 0⟩) ∧ Hp W0 w' [.bare d] := by
  have hg : 0 ≤ g ∧ g < B.gs.xs.length := by simpa [hasM, hasB, BV.m, gsOf] using e2
  obtain ⟨k, rfl⟩ := Int.eq_ofNat_of_zero_le hg.1
  have hk : k < B.gs.xs.length := by omega
  clear hg
  obtain ⟨a, ha⟩ : ∃ a, a = addrM (gAtM B.m k) := ⟨_, rfl⟩
  have HA : Hid (addrM (gAtM B.m k) = a) := ha.symm
  clear ha
  obtain ⟨i, hi⟩ : ∃ i, i = insAtM (gAtM B.m k).prog (gAtM B.m k).pc := ⟨_, rfl⟩
  have HI : Hid (insAtM (gAtM B.m k).prog (gAtM B.m k).pc = i) := hi.symm
  clear hi
  have ZM : B.m.size ≤ 4194304 := Z
  have ew := Lib.hid hw; clear hw
  have H := Hp.start W0
  go_enter Tryz.func22, Tryz.ntmps22
  go_wp2_with (first
    | go_skip
    | ((with_reducible refine at_box ?_); first | (refine wpList_box_H (cs := (barr B).toList) rfl rfl H rfl CellsOf.agg ?_; clear H; intro bB w H) | (refine wpList_box_H rfl rfl H rfl (by constructor) ?_; clear H; intro b w H))
    | ((with_reducible refine at_alloc ?_); first | ((with_reducible refine at_dst 4 ?_); refine wpList_alloc_H rfl rfl H ?_; clear H; intro bR w H) | ((with_reducible refine at_dst 6 ?_); refine wpList_alloc_H rfl rfl H ?_; clear H; intro bX w H) | ((with_reducible refine at_dst 13 ?_); refine wpList_alloc_H rfl rfl H ?_; clear H; intro bY w H) | (refine wpList_alloc_H rfl rfl H ?_; clear H; intro b w H))
    | ((with_reducible refine at_load ?_); first | (refine wpList_load_H rfl rfl H rfl (by repeat constructor) ?_) | (refine wpList_loads_H rfl rfl H rfl (by repeat constructor) ?_))
    | ((with_reducible refine at_store ?_); first | (refine wpList_store_el (enc := GV.cells) (sz := 15) rfl rfl H d.gs (by repeat constructor) g_len rfl rfl (d.gs.xs[k]'(by rw [m_glen HD]; exact hk)) y (List.getElem?_eq_getElem _) (by constructor) (by repeat constructor) (by exact rfl) (by exact rfl) (by exact rfl) ?_; clear H; intro w H) | (refine wpList_store_H rfl rfl H rfl rfl (by repeat constructor) ?_; clear H; intro w H))
    | ((with_reducible refine at_index ?_); first | (refine wpList_index_n rfl rfl d.gs (H.rdgsl (by repeat constructor)) rfl rfl rfl (by rw [m_glen HD]; exact hk) ?_))
    | (go_at_call 76; refine (l17Copy_c B _ (R.at_ H) Z).mono ?_; rintro e w ⟨d, rfl, x1, K⟩; have HD := Lib.hid x1; clear x1; have Zd := m_big HD Z; replace H := H.add_all K; clear K)
    | (go_at_call 41; refine (specGuestAt_c d k _ (H.brd (b := d) (by repeat constructor)) Zd).mono ?_; rintro e w ⟨x, he, x1, K⟩; rw [HD.out, e2] at he; subst he; have HX : Hid (x.m = gAtM B.m k) := (by show _ = _; rw [x1, HD.out]); clear x1; have ZX : GBig x := size_big HX.out (Nat.le_trans (gAtM_size _ _) ZM); replace H := H.add_all K; clear K)
    | (go_at_call 95; refine (specWantOf_any x _ (H.grd1 (g := x) (by repeat constructor)).prog ZX.1).mono ?_; rintro e w ⟨he, hb⟩; rw [HX.out, ew.out] at he; subst he; replace H := H.still hb; clear hb)
    | (go_at_call 51; refine (specBareOk_c d _ (H.brd (b := d) (by repeat constructor)) Zd).mono ?_; rintro e w ⟨he, K⟩; rw [HD.out, e1] at he; subst he; replace H := H.add_all K; clear K)
    | (go_at_call 98; refine (specAddress_any x _ (H.grd1 (g := x) (by repeat constructor)).prog ZX.1).mono ?_; rintro e w ⟨he, hb⟩; rw [HX.out, HA.out] at he; subst he; replace H := H.still hb; clear hb)
    | (go_at_call 108; have HTT : x.ctl.traps = (gAtM B.m k).ctl.traps := ctl_traps HX; rw [← HTT] at ht; refine (l18Trap_7t x x.ctl.traps ht _ (H.grd1 (g := x) (by repeat constructor)) ZX).mono ?_; rintro e w ⟨y, rfl, x1, K⟩; have HY : Hid (y.m = stoppedM (gAtM B.m k) ⟨4, 0, false, 0⟩) := (by show _ = _; rw [x1, HX.out]); clear x1; replace H := H.add_all K; clear K; replace H := (H.take (e := .bare d) (by repeat constructor)).bparts))
  replace H : Hp W0 _ [.gst y, .many En.gst d.gs.xs, .gsl ⟨d.gs.A, d.gs.c, d.gs.xs.set k y⟩, .rows d.mem, .many En.int d.mem.xs, .int d.outs, .box bR 28 (barr d).toList] := H.pick (.cons (by repeat constructor) (.cons (by repeat constructor) (.cons (by repeat constructor) (.cons (by repeat constructor) (.cons (by repeat constructor) (.cons (by repeat constructor) (.cons (by repeat constructor) .nil)))))))
  replace H := H.many_set (by rw [m_glen HD]; exact hk)
  refine bodyPost_ret (results_H2 rfl H rfl (by repeat constructor)) rfl ⟨⟨d.mem, ⟨d.gs.A, d.gs.c, d.gs.xs.set k y⟩, d.outs, d.pend⟩, by simp [BV.val], wgPut HD (by rw [m_glen HD]; exact hk) HY.out, H.bare5 (.cons (by repeat constructor) (.cons (by repeat constructor) (.cons (by repeat constructor) (.cons (by repeat constructor) (.cons (by repeat constructor) .nil))))) rfl rfl⟩
set_option maxRecDepth 100000 in
set_option maxHeartbeats 4000000 in
theorem specBareStep_7f (B : BV) (g : Int) (e1 : bareOkM B.m = true) (e2 : hasM B.m g = true) (hw : wantM (gAtM B.m g) = 7) (ht : hasTrapM (gAtM B.m g).ctl.traps 2 = false) (W0 : World) (R : BRd W0 B) (Z : BBig B) : Calls Tryz.prog 22 #[B.val, .int .i64 g] W0 fun e w' => ∃ d : BV, e = .returned (.tuple #[d.val, .bool true]) ∧ d.m = withGuestM B.m g (heldM (gAtM B.m g)) ∧ Hp W0 w' [.bare d] := by
  have hg : 0 ≤ g ∧ g < B.gs.xs.length := by simpa [hasM, hasB, BV.m, gsOf] using e2
  obtain ⟨k, rfl⟩ := Int.eq_ofNat_of_zero_le hg.1
  have hk : k < B.gs.xs.length := by omega
  clear hg
  obtain ⟨a, ha⟩ : ∃ a, a = addrM (gAtM B.m k) := ⟨_, rfl⟩
  have HA : Hid (addrM (gAtM B.m k) = a) := ha.symm
  clear ha
  obtain ⟨i, hi⟩ : ∃ i, i = insAtM (gAtM B.m k).prog (gAtM B.m k).pc := ⟨_, rfl⟩
  have HI : Hid (insAtM (gAtM B.m k).prog (gAtM B.m k).pc = i) := hi.symm
  clear hi
  have ZM : B.m.size ≤ 4194304 := Z
  have ew := Lib.hid hw; clear hw
  have H := Hp.start W0
  go_enter Tryz.func22, Tryz.ntmps22
  go_wp2_with (first
    | go_skip
    | ((with_reducible refine at_box ?_); first | (refine wpList_box_H (cs := (barr B).toList) rfl rfl H rfl CellsOf.agg ?_; clear H; intro bB w H) | (refine wpList_box_H rfl rfl H rfl (by constructor) ?_; clear H; intro b w H))
    | ((with_reducible refine at_alloc ?_); first | ((with_reducible refine at_dst 4 ?_); refine wpList_alloc_H rfl rfl H ?_; clear H; intro bR w H) | ((with_reducible refine at_dst 6 ?_); refine wpList_alloc_H rfl rfl H ?_; clear H; intro bX w H) | ((with_reducible refine at_dst 13 ?_); refine wpList_alloc_H rfl rfl H ?_; clear H; intro bY w H) | (refine wpList_alloc_H rfl rfl H ?_; clear H; intro b w H))
    | ((with_reducible refine at_load ?_); first | (refine wpList_load_H rfl rfl H rfl (by repeat constructor) ?_) | (refine wpList_loads_H rfl rfl H rfl (by repeat constructor) ?_))
    | ((with_reducible refine at_store ?_); first | (refine wpList_store_el (enc := GV.cells) (sz := 15) rfl rfl H d.gs (by repeat constructor) g_len rfl rfl (d.gs.xs[k]'(by rw [m_glen HD]; exact hk)) y (List.getElem?_eq_getElem _) (by constructor) (by repeat constructor) (by exact rfl) (by exact rfl) (by exact rfl) ?_; clear H; intro w H) | (refine wpList_store_H rfl rfl H rfl rfl (by repeat constructor) ?_; clear H; intro w H))
    | ((with_reducible refine at_index ?_); first | (refine wpList_index_n rfl rfl d.gs (H.rdgsl (by repeat constructor)) rfl rfl rfl (by rw [m_glen HD]; exact hk) ?_))
    | (go_at_call 76; refine (l17Copy_c B _ (R.at_ H) Z).mono ?_; rintro e w ⟨d, rfl, x1, K⟩; have HD := Lib.hid x1; clear x1; have Zd := m_big HD Z; replace H := H.add_all K; clear K)
    | (go_at_call 41; refine (specGuestAt_c d k _ (H.brd (b := d) (by repeat constructor)) Zd).mono ?_; rintro e w ⟨x, he, x1, K⟩; rw [HD.out, e2] at he; subst he; have HX : Hid (x.m = gAtM B.m k) := (by show _ = _; rw [x1, HD.out]); clear x1; have ZX : GBig x := size_big HX.out (Nat.le_trans (gAtM_size _ _) ZM); replace H := H.add_all K; clear K)
    | (go_at_call 95; refine (specWantOf_any x _ (H.grd1 (g := x) (by repeat constructor)).prog ZX.1).mono ?_; rintro e w ⟨he, hb⟩; rw [HX.out, ew.out] at he; subst he; replace H := H.still hb; clear hb)
    | (go_at_call 51; refine (specBareOk_c d _ (H.brd (b := d) (by repeat constructor)) Zd).mono ?_; rintro e w ⟨he, K⟩; rw [HD.out, e1] at he; subst he; replace H := H.add_all K; clear K)
    | (go_at_call 98; refine (specAddress_any x _ (H.grd1 (g := x) (by repeat constructor)).prog ZX.1).mono ?_; rintro e w ⟨he, hb⟩; rw [HX.out, HA.out] at he; subst he; replace H := H.still hb; clear hb)
    | (go_at_call 108; have HTT : x.ctl.traps = (gAtM B.m k).ctl.traps := ctl_traps HX; rw [← HTT] at ht; refine (l18Trap_7f x x.ctl.traps ht _ (H.grd1 (g := x) (by repeat constructor)) ZX).mono ?_; rintro e w ⟨y, rfl, x1, K⟩; have HY : Hid (y.m = heldM (gAtM B.m k)) := (by show _ = _; rw [x1, HX.out]); clear x1; replace H := H.add_all K; clear K; replace H := (H.take (e := .bare d) (by repeat constructor)).bparts))
  replace H : Hp W0 _ [.gst y, .many En.gst d.gs.xs, .gsl ⟨d.gs.A, d.gs.c, d.gs.xs.set k y⟩, .rows d.mem, .many En.int d.mem.xs, .int d.outs, .box bR 28 (barr d).toList] := H.pick (.cons (by repeat constructor) (.cons (by repeat constructor) (.cons (by repeat constructor) (.cons (by repeat constructor) (.cons (by repeat constructor) (.cons (by repeat constructor) (.cons (by repeat constructor) .nil)))))))
  replace H := H.many_set (by rw [m_glen HD]; exact hk)
  refine bodyPost_ret (results_H2 rfl H rfl (by repeat constructor)) rfl ⟨⟨d.mem, ⟨d.gs.A, d.gs.c, d.gs.xs.set k y⟩, d.outs, d.pend⟩, by simp [BV.val], wgPut HD (by rw [m_glen HD]; exact hk) HY.out, H.bare5 (.cons (by repeat constructor) (.cons (by repeat constructor) (.cons (by repeat constructor) (.cons (by repeat constructor) (.cons (by repeat constructor) .nil))))) rfl rfl⟩
set_option maxRecDepth 100000 in
set_option maxHeartbeats 4000000 in
theorem specBareStep_5f (B : BV) (g : Int) (e1 : bareOkM B.m = true) (e2 : hasM B.m g = true) (hw : wantM (gAtM B.m g) = 5) (ht : hasTrapM (gAtM B.m g).ctl.traps 1 = false) (W0 : World) (R : BRd W0 B) (Z : BBig B) : Calls Tryz.prog 22 #[B.val, .int .i64 g] W0 fun e w' => ∃ d : BV, e = .returned (.tuple #[d.val, .bool true]) ∧ d.m = withGuestM (putOutM B.m (insAtM (gAtM B.m g).prog (gAtM B.m g).pc).x) g (movedM (gAtM B.m g)) ∧ Hp W0 w' [.bare d] := by
  have hg : 0 ≤ g ∧ g < B.gs.xs.length := by simpa [hasM, hasB, BV.m, gsOf] using e2
  obtain ⟨k, rfl⟩ := Int.eq_ofNat_of_zero_le hg.1
  have hk : k < B.gs.xs.length := by omega
  clear hg
  obtain ⟨a, ha⟩ : ∃ a, a = addrM (gAtM B.m k) := ⟨_, rfl⟩
  have HA : Hid (addrM (gAtM B.m k) = a) := ha.symm
  clear ha
  obtain ⟨i, hi⟩ : ∃ i, i = insAtM (gAtM B.m k).prog (gAtM B.m k).pc := ⟨_, rfl⟩
  have HI : Hid (insAtM (gAtM B.m k).prog (gAtM B.m k).pc = i) := hi.symm
  clear hi
  have ZM : B.m.size ≤ 4194304 := Z
  have ew := Lib.hid hw; clear hw
  have H := Hp.start W0
  go_enter Tryz.func22, Tryz.ntmps22
  go_wp2_with (first
    | go_skip
    | ((with_reducible refine at_box ?_); first | (refine wpList_box_H (cs := (barr B).toList) rfl rfl H rfl CellsOf.agg ?_; clear H; intro bB w H) | (refine wpList_box_H rfl rfl H rfl (by constructor) ?_; clear H; intro b w H))
    | ((with_reducible refine at_alloc ?_); first | ((with_reducible refine at_dst 4 ?_); refine wpList_alloc_H rfl rfl H ?_; clear H; intro bR w H) | ((with_reducible refine at_dst 6 ?_); refine wpList_alloc_H rfl rfl H ?_; clear H; intro bX w H) | ((with_reducible refine at_dst 13 ?_); refine wpList_alloc_H rfl rfl H ?_; clear H; intro bY w H) | (refine wpList_alloc_H rfl rfl H ?_; clear H; intro b w H))
    | ((with_reducible refine at_load ?_); first | (refine wpList_load_H rfl rfl H rfl (by repeat constructor) ?_) | (refine wpList_loads_H rfl rfl H rfl (by repeat constructor) ?_))
    | ((with_reducible refine at_store ?_); first | (refine wpList_store_el (enc := GV.cells) (sz := 15) rfl rfl H d.gs (by repeat constructor) g_len rfl rfl (d.gs.xs[k]'(by rw [m_glen HD]; exact hk)) y (List.getElem?_eq_getElem _) (by constructor) (by repeat constructor) (by exact rfl) (by exact rfl) (by exact rfl) ?_; clear H; intro w H) | (refine wpList_store_H rfl rfl H rfl rfl (by repeat constructor) ?_; clear H; intro w H))
    | ((with_reducible refine at_index ?_); first | (refine wpList_index_n rfl rfl d.gs (H.rdgsl (by repeat constructor)) rfl rfl rfl (by rw [m_glen HD]; exact hk) ?_))
    | (go_at_call 76; refine (l17Copy_c B _ (R.at_ H) Z).mono ?_; rintro e w ⟨d, rfl, x1, K⟩; have HD := Lib.hid x1; clear x1; have Zd := m_big HD Z; replace H := H.add_all K; clear K)
    | (go_at_call 41; refine (specGuestAt_c d k _ (H.brd (b := d) (by repeat constructor)) Zd).mono ?_; rintro e w ⟨x, he, x1, K⟩; rw [HD.out, e2] at he; subst he; have HX : Hid (x.m = gAtM B.m k) := (by show _ = _; rw [x1, HD.out]); clear x1; have ZX : GBig x := size_big HX.out (Nat.le_trans (gAtM_size _ _) ZM); replace H := H.add_all K; clear K)
    | (go_at_call 95; refine (specWantOf_any x _ (H.grd1 (g := x) (by repeat constructor)).prog ZX.1).mono ?_; rintro e w ⟨he, hb⟩; rw [HX.out, ew.out] at he; subst he; replace H := H.still hb; clear hb)
    | (go_at_call 51; refine (specBareOk_c d _ (H.brd (b := d) (by repeat constructor)) Zd).mono ?_; rintro e w ⟨he, K⟩; rw [HD.out, e1] at he; subst he; replace H := H.add_all K; clear K)
    | (go_at_call 98; refine (specAddress_any x _ (H.grd1 (g := x) (by repeat constructor)).prog ZX.1).mono ?_; rintro e w ⟨he, hb⟩; rw [HX.out, HA.out] at he; subst he; replace H := H.still hb; clear hb)
    | (go_at_call 108; have HTT : x.ctl.traps = (gAtM B.m k).ctl.traps := ctl_traps HX; rw [← HTT] at ht; refine (l18Trap_5f x x.ctl.traps ht _ (H.grd1 (g := x) (by repeat constructor)) ZX).mono ?_; rintro e w ⟨y, rfl, x1, K⟩; have HY : Hid (y.m = movedM (gAtM B.m k)) := (by show _ = _; rw [x1, HX.out]); clear x1; replace H := H.add_all K; clear K))
  have HIX : Hid (i = insAtM x.prog.xs x.pc) := by show _ = _; rw [← HI.out, ← HX.out]; rfl
  refine wp_cut (fun u a' w' => ∃ (q : BV), Hid (q.m = putOutM B.m (insAtM (gAtM B.m k).prog (gAtM B.m k).pc).x) ∧ Hp W0 w' [.bare q, .gst y, .gst x, .box bY 53 (garr y).toList, .box bB 28 (barr q).toList, .box bR 28 [.slice none 0 0, .slice none 0 0, .slice none 0 0, .int .i64 0]] ∧ a' = puts u [(52, d.val), (53, .pointer (some ⟨bX, 0, none⟩)), (54, .slice x.prog.A x.prog.xs.length x.prog.c), (55, .pointer (some ⟨bX, 2, none⟩)), (56, (.int .i64 x.pc)), (57, (.agg #[.int .i64 i.op, .int .i64 i.x])), (58, (.int .i64 i.x)), (59, q.val)]) ?_ ?_
  · refine wp_region_last 8 (S := (fun w' => Rw w' bB 28 (barr d) ∧ Rw w' bX 53 (garr x))) (by kernel_rfl) ?_
    replace H := H.drew
    refine tkL (i := 0) rfl .here (yields_loads_R rfl rfl rfl (fun _ hS => hS.1) (by repeat constructor)) ⟨H.rw_ (by repeat constructor), H.rw_ (by repeat constructor)⟩ ?_
    (try go_frame)
    refine tkL (i := 1) rfl (.of rfl) (yields_val (v := .pointer (some ⟨bX, 0, none⟩)) rfl (fun _ => by go_simp)) ⟨H.rw_ (by repeat constructor), H.rw_ (by repeat constructor)⟩ ?_
    (try go_frame)
    refine tkL (i := 2) rfl (.of rfl) (yields_load1_R rfl rfl rfl (fun _ hS => hS.2) rfl) ⟨H.rw_ (by repeat constructor), H.rw_ (by repeat constructor)⟩ ?_
    (try go_frame)
    refine tkL (i := 3) rfl (.of rfl) (yields_val (v := .pointer (some ⟨bX, 2, none⟩)) rfl (fun _ => by go_simp)) ⟨H.rw_ (by repeat constructor), H.rw_ (by repeat constructor)⟩ ?_
    (try go_frame)
    refine tkL (i := 4) rfl (.of rfl) (yields_load1_R rfl rfl rfl (fun _ hS => hS.2) rfl) ⟨H.rw_ (by repeat constructor), H.rw_ (by repeat constructor)⟩ ?_
    (try go_frame)
    refine anyL_1 (i := 5) (by kernel_rfl) ?_
    refine wpOp_at rfl (.of rfl) rfl ?_
    refine wp_call_H Tryz.f109 rfl rfl Tryz.func109 (by kernel_rfl) rfl rfl (belowS H (specInsAt_c x.prog x.pc _ (H.grd1 (g := x) (by repeat constructor)).prog ZX.1 i HIX.out)) ?_
    clear H
    rintro _ w ⟨rfl, H⟩
    refine ⟨fun _ => ⟨H.rw_ (by repeat constructor), H.rw_ (by repeat constructor)⟩, ?_⟩
    (try go_frame)
    refine tkL (i := 6) rfl (.of rfl) (yields_val (v := (.int .i64 i.x)) rfl (fun _ => by go_simp)) ⟨H.rw_ (by repeat constructor), H.rw_ (by repeat constructor)⟩ ?_
    (try go_frame)
    refine anyL_1 (i := 7) (by kernel_rfl) ?_
    refine wpOp_at rfl (.of rfl) rfl ?_
    refine wp_call_H Tryz.f48 rfl rfl Tryz.func48 (by kernel_rfl) rfl rfl (made_H H (specPutOut_c d i.x _ (H.brd (b := d) (by repeat constructor)) Zd)) ?_
    clear H
    rintro _ w ⟨q, rfl, HQ, H⟩
    refine ⟨fun _ => ⟨H.rw_ (by repeat constructor), H.rw_ (by repeat constructor)⟩, ?_⟩
    (try go_frame)
    refine anyL_1 (i := 8) (by kernel_rfl) ?_
    refine wpOp_at rfl (.of rfl) rfl ?_
    refine wp_store_H rfl H rfl rfl (by repeat constructor) ?_
    clear H
    intro w H
    refine ⟨fun hw => absurd rfl hw, ?_⟩
    (try go_frame)
    refine anyL_done (by kernel_rfl) ?_ _
    exact ⟨rfl, q, (by show _ = _; rw [HQ.out, HD.out, HI.out]), H.pick (.cons (by repeat constructor) (.cons (by repeat constructor) (.cons (by repeat constructor) (.cons (by repeat constructor) (.cons (by repeat constructor) (.cons (by repeat constructor) .nil)))))), by first | (simp only [puts_cons, puts_nil, Act.put, List.setIfInBounds_toArray, List.set_cons_succ, List.set_cons_zero]; done) | (simp only [puts_cons, puts_nil, Act.put, List.setIfInBounds_toArray, List.set_cons_succ, List.set_cons_zero]; rfl)⟩
  clear H
  rintro u w ⟨q, HQ, H, rfl⟩
  simp only [puts_cons, puts_nil, Act.put, List.setIfInBounds_toArray, List.set_cons_succ, List.set_cons_zero]
  replace H := (H.take (e := .bare q) (by repeat constructor)).bparts
  go_wp2_with (first
    | go_skip
    | ((with_reducible refine at_box ?_); first | (refine wpList_box_H rfl rfl H rfl (by constructor) ?_; clear H; intro b w H))
    | ((with_reducible refine at_alloc ?_); first | (refine wpList_alloc_H rfl rfl H ?_; clear H; intro b w H))
    | ((with_reducible refine at_load ?_); first | (refine wpList_load_H rfl rfl H rfl (by repeat constructor) ?_) | (refine wpList_loads_H rfl rfl H rfl (by repeat constructor) ?_))
    | ((with_reducible refine at_store ?_); first | (refine wpList_store_el (enc := GV.cells) (sz := 15) rfl rfl H q.gs (by repeat constructor) g_len rfl rfl (q.gs.xs[k]'(by rw [glenS HQ, putOut_glen]; simpa [BV.m, gsOf] using hk)) y (List.getElem?_eq_getElem _) (by constructor) (by repeat constructor) (by exact rfl) (by exact rfl) (by exact rfl) ?_; clear H; intro w H) | (refine wpList_store_H rfl rfl H rfl rfl (by repeat constructor) ?_; clear H; intro w H))
    | ((with_reducible refine at_index ?_); first | (refine wpList_index_n rfl rfl q.gs (H.rdgsl (by repeat constructor)) rfl rfl rfl (by rw [glenS HQ, putOut_glen]; simpa [BV.m, gsOf] using hk) ?_)))
  replace H : Hp W0 _ [.gst y, .many En.gst q.gs.xs, .gsl ⟨q.gs.A, q.gs.c, q.gs.xs.set k y⟩, .rows q.mem, .many En.int q.mem.xs, .int q.outs, .box bR 28 (barr q).toList] := H.pick (.cons (by repeat constructor) (.cons (by repeat constructor) (.cons (by repeat constructor) (.cons (by repeat constructor) (.cons (by repeat constructor) (.cons (by repeat constructor) (.cons (by repeat constructor) .nil)))))))
  replace H := H.many_set (by rw [glenS HQ, putOut_glen]; simpa [BV.m, gsOf] using hk)
  refine bodyPost_ret (results_H2 rfl H rfl (by repeat constructor)) rfl ⟨⟨q.mem, ⟨q.gs.A, q.gs.c, q.gs.xs.set k y⟩, q.outs, q.pend⟩, by simp [BV.val], wgPut HQ (by rw [glenS HQ, putOut_glen]; simpa [BV.m, gsOf] using hk) HY.out, H.bare5 (.cons (by repeat constructor) (.cons (by repeat constructor) (.cons (by repeat constructor) (.cons (by repeat constructor) (.cons (by repeat constructor) .nil))))) rfl rfl⟩
end Go.Proofs.YtaafnenmdombiaaGreat
