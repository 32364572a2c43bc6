/- Cases of BareStep of the reference. No condition but that the arguments lie in memory. -/
import Derived.Test.YthpoieoaaikpmaaGreatSt
namespace Go.Proofs.YthpoieoaaikpmaaGreat
open Go.RowKit
set_option linter.unusedSimpArgs false in
set_option linter.unusedVariables false in
set_option maxRecDepth 100000 in
set_option maxHeartbeats 4000000 in
theorem specBareStep_n1 (B : BV) (g : Int) (e2 : hasM B.m g = false) (W0 : World) (R : BRd W0 B) (Z : BBig B) : Calls Tryz.prog 6 #[B.val, .int .i64 g] W0 fun e w' => ∃ d : BV, e = .returned (.tuple #[d.val, .bool false]) ∧ d.m = B.m ∧ Hp W0 w' [.bare d] := by
  obtain ⟨n, hn⟩ : ∃ n, n = wantM (gAtM B.m g) := ⟨_, rfl⟩
  have ew : Hid (wantM (gAtM B.m g) = n) := hn.symm
  clear hn
  have ZM : B.m.size ≤ 4194304 := Z
  have H := Hp.start W0
  go_enter Tryz.func6, Tryz.ntmps6
  go_wp2_with (first
    | go_skip
    | ((with_reducible refine at_box ?_); first | (refine wpList_box_H (cs := (barr B).toList) rfl rfl H rfl CellsOf.agg ?_; clear H; intro bB w H) | (refine wpList_box_H rfl rfl H rfl (by first | exact CellsOf.agg | exact CellsOf.int | exact CellsOf.bool | exact CellsOf.slice | exact CellsOf.string | exact CellsOf.pointer | exact CellsOf.func) ?_; clear H; intro b w H))
    | ((with_reducible refine at_alloc ?_); first | ((with_reducible refine at_dst 4 ?_); refine wpList_alloc_H rfl rfl H ?_; clear H; intro bR w H) | ((with_reducible refine at_dst 6 ?_); refine wpList_alloc_H rfl rfl H ?_; clear H; intro bX w H) | ((with_reducible refine at_dst 13 ?_); refine wpList_alloc_H rfl rfl H ?_; clear H; intro bY w H) | (refine wpList_alloc_H rfl rfl H ?_; clear H; intro b w H))
    | ((with_reducible refine at_load ?_); first | (refine wpList_load_H rfl rfl H rfl (by repeat (first | exact LoadAt.here rfl | apply LoadAt.there)) ?_) | (refine wpList_loads_H rfl rfl H rfl (by repeat (first | (apply LoadsAt.here; repeat (first | exact GetsAt.nil | apply GetsAt.here | apply GetsAt.there)) | apply LoadsAt.there)) ?_))
    | ((with_reducible refine at_store ?_); first | (refine wpList_store_H rfl rfl H rfl rfl (by repeat (first | (apply StoreAt.here; (first | exact CellsOf.agg | exact CellsOf.int | exact CellsOf.bool | exact CellsOf.slice | exact CellsOf.string | exact CellsOf.pointer | exact CellsOf.func); (repeat (first | exact SetsAt.nil | apply SetsAt.here | apply SetsAt.there)); exact rfl; exact rfl) | apply StoreAt.there)) ?_; clear H; intro w H))
    | (go_at_call 23; refine (l17Copy_c B _ (R.at_ H) Z).mono ?_; rintro e w ⟨d, rfl, x1, K⟩; have HD := Lib.hid x1; clear x1; have Zd := m_big HD Z; replace H := H.add_all K; clear K)
    | (go_at_call 24; refine (specGuestAt_c d g _ (H.brd (b := d) (by repeat (first | exact Take.head | apply Take.tail))) Zd).mono ?_; rintro e w ⟨x, he, x1, K⟩; rw [HD.out, e2] at he; subst he; have HX : Hid (x.m = gAtM B.m g) := (by show _ = _; rw [x1, HD.out]); clear x1; have ZX : GBig x := size_big HX.out (Nat.le_trans (gAtM_size _ _) ZM); replace H := H.add_all K; clear K)
    | (go_at_call 25; refine (specWantOf_any x _ (H.grd1 (g := x) (by repeat (first | exact Take.head | apply Take.tail))).prog ZX.1).mono ?_; rintro e w ⟨he, hb⟩; rw [HX.out, ew.out] at he; subst he; replace H := H.still hb; clear hb)
    | (go_at_call 26; refine (specBareOk_c d _ (H.brd (b := d) (by repeat (first | exact Take.head | apply Take.tail))) Zd).mono ?_; rintro e w ⟨he, K⟩; rw [HD.out, e1] at he; subst he; replace H := H.add_all K; clear K))
  refine bodyPost_ret (results_H2 rfl H rfl (by repeat (first | (apply LoadsAt.here; repeat (first | exact GetsAt.nil | apply GetsAt.here | apply GetsAt.there)) | apply LoadsAt.there))) rfl ⟨d, rfl, HD.out, H.pick (.cons (by repeat (first | exact Take.head | apply Take.tail)) .nil)⟩
set_option linter.unusedSimpArgs false in
set_option linter.unusedVariables false in
set_option maxRecDepth 100000 in
set_option maxHeartbeats 4000000 in
theorem specBareStep_n2 (B : BV) (g : Int) (e2 : hasM B.m g = true) (e1 : bareOkM B.m = false) (W0 : World) (R : BRd W0 B) (Z : BBig B) : Calls Tryz.prog 6 #[B.val, .int .i64 g] W0 fun e w' => ∃ d : BV, e = .returned (.tuple #[d.val, .bool false]) ∧ d.m = B.m ∧ Hp W0 w' [.bare d] := by
  obtain ⟨n, hn⟩ : ∃ n, n = wantM (gAtM B.m g) := ⟨_, rfl⟩
  have ew : Hid (wantM (gAtM B.m g) = n) := hn.symm
  clear hn
  have ZM : B.m.size ≤ 4194304 := Z
  have H := Hp.start W0
  go_enter Tryz.func6, Tryz.ntmps6
  go_wp2_with (first
    | go_skip
    | ((with_reducible refine at_box ?_); first | (refine wpList_box_H (cs := (barr B).toList) rfl rfl H rfl CellsOf.agg ?_; clear H; intro bB w H) | (refine wpList_box_H rfl rfl H rfl (by first | exact CellsOf.agg | exact CellsOf.int | exact CellsOf.bool | exact CellsOf.slice | exact CellsOf.string | exact CellsOf.pointer | exact CellsOf.func) ?_; clear H; intro b w H))
    | ((with_reducible refine at_alloc ?_); first | ((with_reducible refine at_dst 4 ?_); refine wpList_alloc_H rfl rfl H ?_; clear H; intro bR w H) | ((with_reducible refine at_dst 6 ?_); refine wpList_alloc_H rfl rfl H ?_; clear H; intro bX w H) | ((with_reducible refine at_dst 13 ?_); refine wpList_alloc_H rfl rfl H ?_; clear H; intro bY w H) | (refine wpList_alloc_H rfl rfl H ?_; clear H; intro b w H))
    | ((with_reducible refine at_load ?_); first | (refine wpList_load_H rfl rfl H rfl (by repeat (first | exact LoadAt.here rfl | apply LoadAt.there)) ?_) | (refine wpList_loads_H rfl rfl H rfl (by repeat (first | (apply LoadsAt.here; repeat (first | exact GetsAt.nil | apply GetsAt.here | apply GetsAt.there)) | apply LoadsAt.there)) ?_))
    | ((with_reducible refine at_store ?_); first | (refine wpList_store_H rfl rfl H rfl rfl (by repeat (first | (apply StoreAt.here; (first | exact CellsOf.agg | exact CellsOf.int | exact CellsOf.bool | exact CellsOf.slice | exact CellsOf.string | exact CellsOf.pointer | exact CellsOf.func); (repeat (first | exact SetsAt.nil | apply SetsAt.here | apply SetsAt.there)); exact rfl; exact rfl) | apply StoreAt.there)) ?_; clear H; intro w H))
    | (go_at_call 23; refine (l17Copy_c B _ (R.at_ H) Z).mono ?_; rintro e w ⟨d, rfl, x1, K⟩; have HD := Lib.hid x1; clear x1; have Zd := m_big HD Z; replace H := H.add_all K; clear K)
    | (go_at_call 24; refine (specGuestAt_c d g _ (H.brd (b := d) (by repeat (first | exact Take.head | apply Take.tail))) Zd).mono ?_; rintro e w ⟨x, he, x1, K⟩; rw [HD.out, e2] at he; subst he; have HX : Hid (x.m = gAtM B.m g) := (by show _ = _; rw [x1, HD.out]); clear x1; have ZX : GBig x := size_big HX.out (Nat.le_trans (gAtM_size _ _) ZM); replace H := H.add_all K; clear K)
    | (go_at_call 25; refine (specWantOf_any x _ (H.grd1 (g := x) (by repeat (first | exact Take.head | apply Take.tail))).prog ZX.1).mono ?_; rintro e w ⟨he, hb⟩; rw [HX.out, ew.out] at he; subst he; replace H := H.still hb; clear hb)
    | (go_at_call 26; refine (specBareOk_c d _ (H.brd (b := d) (by repeat (first | exact Take.head | apply Take.tail))) Zd).mono ?_; rintro e w ⟨he, K⟩; rw [HD.out, e1] at he; subst he; replace H := H.add_all K; clear K))
  refine bodyPost_ret (results_H2 rfl H rfl (by repeat (first | (apply LoadsAt.here; repeat (first | exact GetsAt.nil | apply GetsAt.here | apply GetsAt.there)) | apply LoadsAt.there))) rfl ⟨d, rfl, HD.out, H.pick (.cons (by repeat (first | exact Take.head | apply Take.tail)) .nil)⟩
set_option linter.unusedSimpArgs false in
set_option linter.unusedVariables false in
set_option maxRecDepth 100000 in
set_option maxHeartbeats 4000000 in
theorem specBareStep_n3 (B : BV) (g : Int) (e1 : bareOkM B.m = true) (e2 : hasM B.m g = true) (hw : wantM (gAtM B.m g) = 0) (W0 : World) (R : BRd W0 B) (Z : BBig B) : Calls Tryz.prog 6 #[B.val, .int .i64 g] W0 fun e w' => ∃ d : BV, e = .returned (.tuple #[d.val, .bool false]) ∧ d.m = B.m ∧ Hp W0 w' [.bare d] := by
  have ew := Lib.hid hw; clear hw
  have ZM : B.m.size ≤ 4194304 := Z
  have H := Hp.start W0
  go_enter Tryz.func6, Tryz.ntmps6
  go_wp2_with (first
    | go_skip
    | ((with_reducible refine at_box ?_); first | (refine wpList_box_H (cs := (barr B).toList) rfl rfl H rfl CellsOf.agg ?_; clear H; intro bB w H) | (refine wpList_box_H rfl rfl H rfl (by first | exact CellsOf.agg | exact CellsOf.int | exact CellsOf.bool | exact CellsOf.slice | exact CellsOf.string | exact CellsOf.pointer | exact CellsOf.func) ?_; clear H; intro b w H))
    | ((with_reducible refine at_alloc ?_); first | ((with_reducible refine at_dst 4 ?_); refine wpList_alloc_H rfl rfl H ?_; clear H; intro bR w H) | ((with_reducible refine at_dst 6 ?_); refine wpList_alloc_H rfl rfl H ?_; clear H; intro bX w H) | ((with_reducible refine at_dst 13 ?_); refine wpList_alloc_H rfl rfl H ?_; clear H; intro bY w H) | (refine wpList_alloc_H rfl rfl H ?_; clear H; intro b w H))
    | ((with_reducible refine at_load ?_); first | (refine wpList_load_H rfl rfl H rfl (by repeat (first | exact LoadAt.here rfl | apply LoadAt.there)) ?_) | (refine wpList_loads_H rfl rfl H rfl (by repeat (first | (apply LoadsAt.here; repeat (first | exact GetsAt.nil | apply GetsAt.here | apply GetsAt.there)) | apply LoadsAt.there)) ?_))
    | ((with_reducible refine at_store ?_); first | (refine wpList_store_H rfl rfl H rfl rfl (by repeat (first | (apply StoreAt.here; (first | exact CellsOf.agg | exact CellsOf.int | exact CellsOf.bool | exact CellsOf.slice | exact CellsOf.string | exact CellsOf.pointer | exact CellsOf.func); (repeat (first | exact SetsAt.nil | apply SetsAt.here | apply SetsAt.there)); exact rfl; exact rfl) | apply StoreAt.there)) ?_; clear H; intro w H))
    | (go_at_call 23; refine (l17Copy_c B _ (R.at_ H) Z).mono ?_; rintro e w ⟨d, rfl, x1, K⟩; have HD := Lib.hid x1; clear x1; have Zd := m_big HD Z; replace H := H.add_all K; clear K)
    | (go_at_call 24; refine (specGuestAt_c d g _ (H.brd (b := d) (by repeat (first | exact Take.head | apply Take.tail))) Zd).mono ?_; rintro e w ⟨x, he, x1, K⟩; rw [HD.out, e2] at he; subst he; have HX : Hid (x.m = gAtM B.m g) := (by show _ = _; rw [x1, HD.out]); clear x1; have ZX : GBig x := size_big HX.out (Nat.le_trans (gAtM_size _ _) ZM); replace H := H.add_all K; clear K)
    | (go_at_call 25; refine (specWantOf_any x _ (H.grd1 (g := x) (by repeat (first | exact Take.head | apply Take.tail))).prog ZX.1).mono ?_; rintro e w ⟨he, hb⟩; rw [HX.out, ew.out] at he; subst he; replace H := H.still hb; clear hb)
    | (go_at_call 26; refine (specBareOk_c d _ (H.brd (b := d) (by repeat (first | exact Take.head | apply Take.tail))) Zd).mono ?_; rintro e w ⟨he, K⟩; rw [HD.out, e1] at he; subst he; replace H := H.add_all K; clear K))
  refine bodyPost_ret (results_H2 rfl H rfl (by repeat (first | (apply LoadsAt.here; repeat (first | exact GetsAt.nil | apply GetsAt.here | apply GetsAt.there)) | apply LoadsAt.there))) rfl ⟨d, rfl, HD.out, H.pick (.cons (by repeat (first | exact Take.head | apply Take.tail)) .nil)⟩
set_option linter.unusedSimpArgs false in
set_option linter.unusedVariables false in
set_option maxRecDepth 100000 in
set_option maxHeartbeats 4000000 in
theorem specBareStep_1 (B : BV) (g : Int) (e1 : bareOkM B.m = true) (e2 : hasM B.m g = true) (hw : wantM (gAtM B.m g) = 1) (W0 : World) (R : BRd W0 B) (Z : BBig B) : Calls Tryz.prog 6 #[B.val, .int .i64 g] W0 fun e w' => ∃ d : BV, e = .returned (.tuple #[d.val, .bool true]) ∧ d.m = withGuestM B.m g (interruptedM (gAtM B.m g)) ∧ Hp W0 w' [.bare d] := by
  have hg : 0 ≤ g ∧ g < B.gs.xs.length := by simpa [hasM, hasB, BV.m, gsOf] using e2
  obtain ⟨k, rfl⟩ := Int.eq_ofNat_of_zero_le hg.1
  have hk : k < B.gs.xs.length := by omega
  clear hg
  obtain ⟨a, ha⟩ : ∃ a, a = addrM (gAtM B.m k) := ⟨_, rfl⟩
  have HA : Hid (addrM (gAtM B.m k) = a) := ha.symm
  clear ha
  obtain ⟨i, hi⟩ : ∃ i, i = insAtM (gAtM B.m k).prog (gAtM B.m k).pc := ⟨_, rfl⟩
  have HI : Hid (insAtM (gAtM B.m k).prog (gAtM B.m k).pc = i) := hi.symm
  clear hi
  have ZM : B.m.size ≤ 4194304 := Z
  have ew := Lib.hid hw; clear hw
  have H := Hp.start W0
  go_enter Tryz.func6, Tryz.ntmps6
  go_wp2_with (first
    | go_skip
    | ((with_reducible refine at_box ?_); first | (refine wpList_box_H (cs := (barr B).toList) rfl rfl H rfl CellsOf.agg ?_; clear H; intro bB w H) | (refine wpList_box_H rfl rfl H rfl (by first | exact CellsOf.agg | exact CellsOf.int | exact CellsOf.bool | exact CellsOf.slice | exact CellsOf.string | exact CellsOf.pointer | exact CellsOf.func) ?_; clear H; intro b w H))
    | ((with_reducible refine at_alloc ?_); first | ((with_reducible refine at_dst 4 ?_); refine wpList_alloc_H rfl rfl H ?_; clear H; intro bR w H) | ((with_reducible refine at_dst 6 ?_); refine wpList_alloc_H rfl rfl H ?_; clear H; intro bX w H) | ((with_reducible refine at_dst 13 ?_); refine wpList_alloc_H rfl rfl H ?_; clear H; intro bY w H) | (refine wpList_alloc_H rfl rfl H ?_; clear H; intro b w H))
    | ((with_reducible refine at_load ?_); first | (refine wpList_load_H rfl rfl H rfl (by repeat (first | exact LoadAt.here rfl | apply LoadAt.there)) ?_) | (refine wpList_loads_H rfl rfl H rfl (by repeat (first | (apply LoadsAt.here; repeat (first | exact GetsAt.nil | apply GetsAt.here | apply GetsAt.there)) | apply LoadsAt.there)) ?_))
    | ((with_reducible refine at_store ?_); first | (refine wpList_store_H rfl rfl H rfl rfl (by repeat (first | (apply StoreAt.here; (first | exact CellsOf.agg | exact CellsOf.int | exact CellsOf.bool | exact CellsOf.slice | exact CellsOf.string | exact CellsOf.pointer | exact CellsOf.func); (repeat (first | exact SetsAt.nil | apply SetsAt.here | apply SetsAt.there)); exact rfl; exact rfl) | apply StoreAt.there)) ?_; clear H; intro w H))
    | (go_at_call 23; refine (l17Copy_c B _ (R.at_ H) Z).mono ?_; rintro e w ⟨d, rfl, x1, K⟩; have HD := Lib.hid x1; clear x1; have Zd := m_big HD Z; replace H := H.add_all K; clear K)
    | (go_at_call 24; refine (specGuestAt_c d k _ (H.brd (b := d) (by repeat (first | exact Take.head | apply Take.tail))) Zd).mono ?_; rintro e w ⟨x, he, x1, K⟩; rw [HD.out, e2] at he; subst he; have HX : Hid (x.m = gAtM B.m k) := (by show _ = _; rw [x1, HD.out]); clear x1; have ZX : GBig x := size_big HX.out (Nat.le_trans (gAtM_size _ _) ZM); replace H := H.add_all K; clear K)
    | (go_at_call 25; refine (specWantOf_any x _ (H.grd1 (g := x) (by repeat (first | exact Take.head | apply Take.tail))).prog ZX.1).mono ?_; rintro e w ⟨he, hb⟩; rw [HX.out, ew.out] at he; subst he; replace H := H.still hb; clear hb)
    | (go_at_call 26; refine (specBareOk_c d _ (H.brd (b := d) (by repeat (first | exact Take.head | apply Take.tail))) Zd).mono ?_; rintro e w ⟨he, K⟩; rw [HD.out, e1] at he; subst he; replace H := H.add_all K; clear K)
    | (go_at_call 29; refine (specAddress_any x _ (H.grd1 (g := x) (by repeat (first | exact Take.head | apply Take.tail))).prog ZX.1).mono ?_; rintro e w ⟨he, hb⟩; rw [HX.out, HA.out] at he; subst he; replace H := H.still hb; clear hb))
  replace H := (H.take (e := .bare d) (by repeat (first | exact Take.head | apply Take.tail))).bparts
  refine wp_cut (fun u a' w' => ∃ (y : GV), Hid (y.m = interruptedM (gAtM B.m k)) ∧ Hp W0 w' [.gst y, .many En.gst d.gs.xs, .gsl ⟨d.gs.A, d.gs.c, d.gs.xs.set k y⟩, .rows d.mem, .many En.int d.mem.xs, .int d.outs, .box bB 30 (barr d).toList, .box bR 30 [.slice none 0 0, .slice none 0 0, .slice none 0 0, .int .i64 0]] ∧ a' = puts u [(67, .pointer (some ⟨bB, 1, none⟩)), (68, .slice d.gs.A d.gs.xs.length d.gs.c), (69, (.int .i64 k)), (70, x.val), (71, y.val), (72, (.pointer (some ⟨ablk d.gs.A, aoff d.gs.A + k * 15, none⟩)))]) ?_ ?_
  · refine wp_region_held (S := (fun w' => Rw w' bB 30 (barr d) ∧ Rw w' bX 56 (garr x))) (by kernel_rfl) ?_
    replace H := H.drew
    refine takeH (i := 0) rfl .here (by kernel_rfl) (by kernel_rfl) (by kernel_rfl) (fun _ _ _ h => absurd h.1 (by simp)) (yields_val (v := .pointer (some ⟨bB, 1, none⟩)) rfl (fun _ => by go_simp)) ⟨H.rw_ (by repeat (first | exact Take.head | apply Take.tail)), H.rw_ (by repeat (first | exact Take.head | apply Take.tail))⟩ ?_
    (try simp only [Act.put, List.setIfInBounds_toArray, List.set_cons_succ, List.set_cons_zero])
    refine takeH (i := 1) rfl (.there .here) (by kernel_rfl) (by kernel_rfl) (by kernel_rfl) (fun _ _ _ h => absurd h.1 (by simp)) (yields_load1_R rfl rfl rfl (fun _ hS => hS.1) rfl) ⟨H.rw_ (by repeat (first | exact Take.head | apply Take.tail)), H.rw_ (by repeat (first | exact Take.head | apply Take.tail))⟩ ?_
    (try simp only [Act.put, List.setIfInBounds_toArray, List.set_cons_succ, List.set_cons_zero])
    refine takeH (i := 2) rfl (.there (.there .here)) (by kernel_rfl) (by kernel_rfl) (by kernel_rfl) (fun _ _ _ h => absurd h.1 (by simp)) (yields_val (v := (.int .i64 k)) rfl (fun _ => by go_simp)) ⟨H.rw_ (by repeat (first | exact Take.head | apply Take.tail)), H.rw_ (by repeat (first | exact Take.head | apply Take.tail))⟩ ?_
    (try simp only [Act.put, List.setIfInBounds_toArray, List.set_cons_succ, List.set_cons_zero])
    refine takeH (i := 3) rfl (.there (.there (.there .here))) (by kernel_rfl) (by kernel_rfl) (by kernel_rfl) (fun _ _ _ h => absurd h.1 (by simp)) (yields_loads_R rfl rfl rfl (fun _ hS => hS.2) (by repeat (first | exact GetsAt.nil | apply GetsAt.here | apply GetsAt.there))) ⟨H.rw_ (by repeat (first | exact Take.head | apply Take.tail)), H.rw_ (by repeat (first | exact Take.head | apply Take.tail))⟩ ?_
    (try simp only [Act.put, List.setIfInBounds_toArray, List.set_cons_succ, List.set_cons_zero])
    refine anyH_1 (i := 4) (by kernel_rfl) ?_
    refine wpOp_at rfl (.there (.there (.there (.there .here)))) rfl ?_
    refine wp_call_H Tryz.f27 rfl rfl Tryz.func27 (by kernel_rfl) rfl rfl (made_H H ((specInterrupted_c x _ rfl _ (H.grd1 (g := x) (by repeat (first | exact Take.head | apply Take.tail))) ZX).mono fun _ _ h => mkgS h)) ?_
    clear H
    rintro _ w ⟨y, rfl, HY, H⟩
    refine ⟨⟨H.rw_ (by repeat (first | exact Take.head | apply Take.tail)), H.rw_ (by repeat (first | exact Take.head | apply Take.tail))⟩, ?_⟩
    (try simp only [Act.put, List.setIfInBounds_toArray, List.set_cons_succ, List.set_cons_zero])
    refine anyH_1 (i := 5) (by kernel_rfl) ?_
    refine wpOp_at rfl (.there (.there (.there (.there (.there .here))))) rfl ?_
    refine wp_index_n rfl d.gs (H.rdgsl (by repeat (first | exact Take.head | apply Take.tail))) rfl rfl rfl (by rw [m_glen HD]; exact hk) ?_
    refine ⟨⟨H.rw_ (by repeat (first | exact Take.head | apply Take.tail)), H.rw_ (by repeat (first | exact Take.head | apply Take.tail))⟩, ?_⟩
    (try simp only [Act.put, List.setIfInBounds_toArray, List.set_cons_succ, List.set_cons_zero])
    refine anyH_1 (i := 6) (by kernel_rfl) ?_
    refine wpOp_at rfl (.there (.there (.there (.there (.there (.there .here)))))) rfl ?_
    refine wp_store_el rfl H d.gs (by repeat (first | exact Take.head | apply Take.tail)) g_len rfl rfl (d.gs.xs[k]'(by rw [m_glen HD]; exact hk)) y (List.getElem?_eq_getElem _) (Nat.add_zero _).symm (by first | exact CellsOf.agg | exact CellsOf.int | exact CellsOf.bool | exact CellsOf.slice | exact CellsOf.string | exact CellsOf.pointer | exact CellsOf.func) (by repeat (first | exact SetsAt.nil | apply SetsAt.here | apply SetsAt.there)) (by exact rfl) (by exact rfl) ?_
    clear H
    intro w H
    refine ⟨⟨H.rw_ (by repeat (first | exact Take.head | apply Take.tail)), H.rw_ (by repeat (first | exact Take.head | apply Take.tail))⟩, ?_⟩
    (try simp only [Act.put, List.setIfInBounds_toArray, List.set_cons_succ, List.set_cons_zero])
    refine wpAnyH_done (by kernel_rfl) ?_ _
    exact ⟨rfl, y, (by show _ = _; rw [HY.out, HX.out]), H.pick (.cons (by repeat (first | exact Take.head | apply Take.tail)) (.cons (by repeat (first | exact Take.head | apply Take.tail)) (.cons (by repeat (first | exact Take.head | apply Take.tail)) (.cons (by repeat (first | exact Take.head | apply Take.tail)) (.cons (by repeat (first | exact Take.head | apply Take.tail)) (.cons (by repeat (first | exact Take.head | apply Take.tail)) (.cons (by repeat (first | exact Take.head | apply Take.tail)) (.cons (by repeat (first | exact Take.head | apply Take.tail)) .nil)))))))), by first | (simp only [puts_cons, puts_nil, Act.put, List.setIfInBounds_toArray, List.set_cons_succ, List.set_cons_zero]; done) | (simp only [puts_cons, puts_nil, Act.put, List.setIfInBounds_toArray, List.set_cons_succ, List.set_cons_zero]; rfl)⟩
  clear H
  rintro u w ⟨y, HY, H, rfl⟩
  simp only [puts_cons, puts_nil, Act.put, List.setIfInBounds_toArray, List.set_cons_succ, List.set_cons_zero]
  replace H := H.many_set (by rw [m_glen HD]; exact hk)
  go_wp2_with (first
    | go_skip
    | ((with_reducible refine at_box ?_); first | (refine wpList_box_H rfl rfl H rfl (by first | exact CellsOf.agg | exact CellsOf.int | exact CellsOf.bool | exact CellsOf.slice | exact CellsOf.string | exact CellsOf.pointer | exact CellsOf.func) ?_; clear H; intro b w H))
    | ((with_reducible refine at_alloc ?_); first | (refine wpList_alloc_H rfl rfl H ?_; clear H; intro b w H))
    | ((with_reducible refine at_load ?_); first | (refine wpList_load_H rfl rfl H rfl (by repeat (first | exact LoadAt.here rfl | apply LoadAt.there)) ?_) | (refine wpList_loads_H rfl rfl H rfl (by repeat (first | (apply LoadsAt.here; repeat (first | exact GetsAt.nil | apply GetsAt.here | apply GetsAt.there)) | apply LoadsAt.there)) ?_))
    | ((with_reducible refine at_store ?_); first | (refine wpList_store_H rfl rfl H rfl rfl (by repeat (first | (apply StoreAt.here; (first | exact CellsOf.agg | exact CellsOf.int | exact CellsOf.bool | exact CellsOf.slice | exact CellsOf.string | exact CellsOf.pointer | exact CellsOf.func); (repeat (first | exact SetsAt.nil | apply SetsAt.here | apply SetsAt.there)); exact rfl; exact rfl) | apply StoreAt.there)) ?_; clear H; intro w H)))
  refine bodyPost_ret (results_H2 rfl H rfl (by repeat (first | (apply LoadsAt.here; repeat (first | exact GetsAt.nil | apply GetsAt.here | apply GetsAt.there)) | apply LoadsAt.there))) rfl ⟨⟨d.mem, ⟨d.gs.A, d.gs.c, d.gs.xs.set k y⟩, d.outs, d.pend⟩, by simp [BV.val], wgPut (d := ⟨d.mem, d.gs, d.outs, d.pend⟩) HD (by rw [m_glen HD]; exact hk) HY.out, H.bare5 (.cons (by repeat (first | exact Take.head | apply Take.tail)) (.cons (by repeat (first | exact Take.head | apply Take.tail)) (.cons (by repeat (first | exact Take.head | apply Take.tail)) (.cons (by repeat (first | exact Take.head | apply Take.tail)) (.cons (by repeat (first | exact Take.head | apply Take.tail)) .nil))))) rfl rfl⟩
set_option linter.unusedSimpArgs false in
set_option linter.unusedVariables false in
set_option maxRecDepth 100000 in
set_option maxHeartbeats 4000000 in
theorem specBareStep_2 (B : BV) (g : Int) (e1 : bareOkM B.m = true) (e2 : hasM B.m g = true) (hw : wantM (gAtM B.m g) = 2) (W0 : World) (R : BRd W0 B) (Z : BBig B) : Calls Tryz.prog 6 #[B.val, .int .i64 g] W0 fun e w' => ∃ d : BV, e = .returned (.tuple #[d.val, .bool true]) ∧ d.m = withGuestM B.m g (plainlyM (gAtM B.m g)) ∧ Hp W0 w' [.bare d] := by
  have hg : 0 ≤ g ∧ g < B.gs.xs.length := by simpa [hasM, hasB, BV.m, gsOf] using e2
  obtain ⟨k, rfl⟩ := Int.eq_ofNat_of_zero_le hg.1
  have hk : k < B.gs.xs.length := by omega
  clear hg
  obtain ⟨a, ha⟩ : ∃ a, a = addrM (gAtM B.m k) := ⟨_, rfl⟩
  have HA : Hid (addrM (gAtM B.m k) = a) := ha.symm
  clear ha
  obtain ⟨i, hi⟩ : ∃ i, i = insAtM (gAtM B.m k).prog (gAtM B.m k).pc := ⟨_, rfl⟩
  have HI : Hid (insAtM (gAtM B.m k).prog (gAtM B.m k).pc = i) := hi.symm
  clear hi
  have ZM : B.m.size ≤ 4194304 := Z
  have ew := Lib.hid hw; clear hw
  have H := Hp.start W0
  go_enter Tryz.func6, Tryz.ntmps6
  go_wp2_with (first
    | go_skip
    | ((with_reducible refine at_box ?_); first | (refine wpList_box_H (cs := (barr B).toList) rfl rfl H rfl CellsOf.agg ?_; clear H; intro bB w H) | (refine wpList_box_H rfl rfl H rfl (by first | exact CellsOf.agg | exact CellsOf.int | exact CellsOf.bool | exact CellsOf.slice | exact CellsOf.string | exact CellsOf.pointer | exact CellsOf.func) ?_; clear H; intro b w H))
    | ((with_reducible refine at_alloc ?_); first | ((with_reducible refine at_dst 4 ?_); refine wpList_alloc_H rfl rfl H ?_; clear H; intro bR w H) | ((with_reducible refine at_dst 6 ?_); refine wpList_alloc_H rfl rfl H ?_; clear H; intro bX w H) | ((with_reducible refine at_dst 13 ?_); refine wpList_alloc_H rfl rfl H ?_; clear H; intro bY w H) | (refine wpList_alloc_H rfl rfl H ?_; clear H; intro b w H))
    | ((with_reducible refine at_load ?_); first | (refine wpList_load_H rfl rfl H rfl (by repeat (first | exact LoadAt.here rfl | apply LoadAt.there)) ?_) | (refine wpList_loads_H rfl rfl H rfl (by repeat (first | (apply LoadsAt.here; repeat (first | exact GetsAt.nil | apply GetsAt.here | apply GetsAt.there)) | apply LoadsAt.there)) ?_))
    | ((with_reducible refine at_store ?_); first | (refine wpList_store_H rfl rfl H rfl rfl (by repeat (first | (apply StoreAt.here; (first | exact CellsOf.agg | exact CellsOf.int | exact CellsOf.bool | exact CellsOf.slice | exact CellsOf.string | exact CellsOf.pointer | exact CellsOf.func); (repeat (first | exact SetsAt.nil | apply SetsAt.here | apply SetsAt.there)); exact rfl; exact rfl) | apply StoreAt.there)) ?_; clear H; intro w H))
    | (go_at_call 23; refine (l17Copy_c B _ (R.at_ H) Z).mono ?_; rintro e w ⟨d, rfl, x1, K⟩; have HD := Lib.hid x1; clear x1; have Zd := m_big HD Z; replace H := H.add_all K; clear K)
    | (go_at_call 24; refine (specGuestAt_c d k _ (H.brd (b := d) (by repeat (first | exact Take.head | apply Take.tail))) Zd).mono ?_; rintro e w ⟨x, he, x1, K⟩; rw [HD.out, e2] at he; subst he; have HX : Hid (x.m = gAtM B.m k) := (by show _ = _; rw [x1, HD.out]); clear x1; have ZX : GBig x := size_big HX.out (Nat.le_trans (gAtM_size _ _) ZM); replace H := H.add_all K; clear K)
    | (go_at_call 25; refine (specWantOf_any x _ (H.grd1 (g := x) (by repeat (first | exact Take.head | apply Take.tail))).prog ZX.1).mono ?_; rintro e w ⟨he, hb⟩; rw [HX.out, ew.out] at he; subst he; replace H := H.still hb; clear hb)
    | (go_at_call 26; refine (specBareOk_c d _ (H.brd (b := d) (by repeat (first | exact Take.head | apply Take.tail))) Zd).mono ?_; rintro e w ⟨he, K⟩; rw [HD.out, e1] at he; subst he; replace H := H.add_all K; clear K)
    | (go_at_call 29; refine (specAddress_any x _ (H.grd1 (g := x) (by repeat (first | exact Take.head | apply Take.tail))).prog ZX.1).mono ?_; rintro e w ⟨he, hb⟩; rw [HX.out, HA.out] at he; subst he; replace H := H.still hb; clear hb))
  replace H := (H.take (e := .bare d) (by repeat (first | exact Take.head | apply Take.tail))).bparts
  refine wp_cut (fun u a' w' => ∃ (y : GV), Hid (y.m = plainlyM (gAtM B.m k)) ∧ Hp W0 w' [.gst y, .many En.gst d.gs.xs, .gsl ⟨d.gs.A, d.gs.c, d.gs.xs.set k y⟩, .rows d.mem, .many En.int d.mem.xs, .int d.outs, .box bB 30 (barr d).toList, .box bR 30 [.slice none 0 0, .slice none 0 0, .slice none 0 0, .int .i64 0]] ∧ a' = puts u [(75, .pointer (some ⟨bB, 1, none⟩)), (76, .slice d.gs.A d.gs.xs.length d.gs.c), (77, (.int .i64 k)), (78, x.val), (79, y.val), (80, (.pointer (some ⟨ablk d.gs.A, aoff d.gs.A + k * 15, none⟩)))]) ?_ ?_
  · refine wp_region_held (S := (fun w' => Rw w' bB 30 (barr d) ∧ Rw w' bX 56 (garr x))) (by kernel_rfl) ?_
    replace H := H.drew
    refine takeH (i := 0) rfl .here (by kernel_rfl) (by kernel_rfl) (by kernel_rfl) (fun _ _ _ h => absurd h.1 (by simp)) (yields_val (v := .pointer (some ⟨bB, 1, none⟩)) rfl (fun _ => by go_simp)) ⟨H.rw_ (by repeat (first | exact Take.head | apply Take.tail)), H.rw_ (by repeat (first | exact Take.head | apply Take.tail))⟩ ?_
    (try simp only [Act.put, List.setIfInBounds_toArray, List.set_cons_succ, List.set_cons_zero])
    refine takeH (i := 1) rfl (.there .here) (by kernel_rfl) (by kernel_rfl) (by kernel_rfl) (fun _ _ _ h => absurd h.1 (by simp)) (yields_load1_R rfl rfl rfl (fun _ hS => hS.1) rfl) ⟨H.rw_ (by repeat (first | exact Take.head | apply Take.tail)), H.rw_ (by repeat (first | exact Take.head | apply Take.tail))⟩ ?_
    (try simp only [Act.put, List.setIfInBounds_toArray, List.set_cons_succ, List.set_cons_zero])
    refine takeH (i := 2) rfl (.there (.there .here)) (by kernel_rfl) (by kernel_rfl) (by kernel_rfl) (fun _ _ _ h => absurd h.1 (by simp)) (yields_val (v := (.int .i64 k)) rfl (fun _ => by go_simp)) ⟨H.rw_ (by repeat (first | exact Take.head | apply Take.tail)), H.rw_ (by repeat (first | exact Take.head | apply Take.tail))⟩ ?_
    (try simp only [Act.put, List.setIfInBounds_toArray, List.set_cons_succ, List.set_cons_zero])
    refine takeH (i := 3) rfl (.there (.there (.there .here))) (by kernel_rfl) (by kernel_rfl) (by kernel_rfl) (fun _ _ _ h => absurd h.1 (by simp)) (yields_loads_R rfl rfl rfl (fun _ hS => hS.2) (by repeat (first | exact GetsAt.nil | apply GetsAt.here | apply GetsAt.there))) ⟨H.rw_ (by repeat (first | exact Take.head | apply Take.tail)), H.rw_ (by repeat (first | exact Take.head | apply Take.tail))⟩ ?_
    (try simp only [Act.put, List.setIfInBounds_toArray, List.set_cons_succ, List.set_cons_zero])
    refine anyH_1 (i := 4) (by kernel_rfl) ?_
    refine wpOp_at rfl (.there (.there (.there (.there .here)))) rfl ?_
    refine wp_call_H Tryz.f28 rfl rfl Tryz.func28 (by kernel_rfl) rfl rfl (made_H H ((specPlainly_c x _ rfl _ (H.grd1 (g := x) (by repeat (first | exact Take.head | apply Take.tail))) ZX).mono fun _ _ h => mkgS h)) ?_
    clear H
    rintro _ w ⟨y, rfl, HY, H⟩
    refine ⟨⟨H.rw_ (by repeat (first | exact Take.head | apply Take.tail)), H.rw_ (by repeat (first | exact Take.head | apply Take.tail))⟩, ?_⟩
    (try simp only [Act.put, List.setIfInBounds_toArray, List.set_cons_succ, List.set_cons_zero])
    refine anyH_1 (i := 5) (by kernel_rfl) ?_
    refine wpOp_at rfl (.there (.there (.there (.there (.there .here))))) rfl ?_
    refine wp_index_n rfl d.gs (H.rdgsl (by repeat (first | exact Take.head | apply Take.tail))) rfl rfl rfl (by rw [m_glen HD]; exact hk) ?_
    refine ⟨⟨H.rw_ (by repeat (first | exact Take.head | apply Take.tail)), H.rw_ (by repeat (first | exact Take.head | apply Take.tail))⟩, ?_⟩
    (try simp only [Act.put, List.setIfInBounds_toArray, List.set_cons_succ, List.set_cons_zero])
    refine anyH_1 (i := 6) (by kernel_rfl) ?_
    refine wpOp_at rfl (.there (.there (.there (.there (.there (.there .here)))))) rfl ?_
    refine wp_store_el rfl H d.gs (by repeat (first | exact Take.head | apply Take.tail)) g_len rfl rfl (d.gs.xs[k]'(by rw [m_glen HD]; exact hk)) y (List.getElem?_eq_getElem _) (Nat.add_zero _).symm (by first | exact CellsOf.agg | exact CellsOf.int | exact CellsOf.bool | exact CellsOf.slice | exact CellsOf.string | exact CellsOf.pointer | exact CellsOf.func) (by repeat (first | exact SetsAt.nil | apply SetsAt.here | apply SetsAt.there)) (by exact rfl) (by exact rfl) ?_
    clear H
    intro w H
    refine ⟨⟨H.rw_ (by repeat (first | exact Take.head | apply Take.tail)), H.rw_ (by repeat (first | exact Take.head | apply Take.tail))⟩, ?_⟩
    (try simp only [Act.put, List.setIfInBounds_toArray, List.set_cons_succ, List.set_cons_zero])
    refine wpAnyH_done (by kernel_rfl) ?_ _
    exact ⟨rfl, y, (by show _ = _; rw [HY.out, HX.out]), H.pick (.cons (by repeat (first | exact Take.head | apply Take.tail)) (.cons (by repeat (first | exact Take.head | apply Take.tail)) (.cons (by repeat (first | exact Take.head | apply Take.tail)) (.cons (by repeat (first | exact Take.head | apply Take.tail)) (.cons (by repeat (first | exact Take.head | apply Take.tail)) (.cons (by repeat (first | exact Take.head | apply Take.tail)) (.cons (by repeat (first | exact Take.head | apply Take.tail)) (.cons (by repeat (first | exact Take.head | apply Take.tail)) .nil)))))))), by first | (simp only [puts_cons, puts_nil, Act.put, List.setIfInBounds_toArray, List.set_cons_succ, List.set_cons_zero]; done) | (simp only [puts_cons, puts_nil, Act.put, List.setIfInBounds_toArray, List.set_cons_succ, List.set_cons_zero]; rfl)⟩
  clear H
  rintro u w ⟨y, HY, H, rfl⟩
  simp only [puts_cons, puts_nil, Act.put, List.setIfInBounds_toArray, List.set_cons_succ, List.set_cons_zero]
  replace H := H.many_set (by rw [m_glen HD]; exact hk)
  go_wp2_with (first
    | go_skip
    | ((with_reducible refine at_box ?_); first | (refine wpList_box_H rfl rfl H rfl (by first | exact CellsOf.agg | exact CellsOf.int | exact CellsOf.bool | exact CellsOf.slice | exact CellsOf.string | exact CellsOf.pointer | exact CellsOf.func) ?_; clear H; intro b w H))
    | ((with_reducible refine at_alloc ?_); first | (refine wpList_alloc_H rfl rfl H ?_; clear H; intro b w H))
    | ((with_reducible refine at_load ?_); first | (refine wpList_load_H rfl rfl H rfl (by repeat (first | exact LoadAt.here rfl | apply LoadAt.there)) ?_) | (refine wpList_loads_H rfl rfl H rfl (by repeat (first | (apply LoadsAt.here; repeat (first | exact GetsAt.nil | apply GetsAt.here | apply GetsAt.there)) | apply LoadsAt.there)) ?_))
    | ((with_reducible refine at_store ?_); first | (refine wpList_store_H rfl rfl H rfl rfl (by repeat (first | (apply StoreAt.here; (first | exact CellsOf.agg | exact CellsOf.int | exact CellsOf.bool | exact CellsOf.slice | exact CellsOf.string | exact CellsOf.pointer | exact CellsOf.func); (repeat (first | exact SetsAt.nil | apply SetsAt.here | apply SetsAt.there)); exact rfl; exact rfl) | apply StoreAt.there)) ?_; clear H; intro w H)))
  refine bodyPost_ret (results_H2 rfl H rfl (by repeat (first | (apply LoadsAt.here; repeat (first | exact GetsAt.nil | apply GetsAt.here | apply GetsAt.there)) | apply LoadsAt.there))) rfl ⟨⟨d.mem, ⟨d.gs.A, d.gs.c, d.gs.xs.set k y⟩, d.outs, d.pend⟩, by simp [BV.val], wgPut (d := ⟨d.mem, d.gs, d.outs, d.pend⟩) HD (by rw [m_glen HD]; exact hk) HY.out, H.bare5 (.cons (by repeat (first | exact Take.head | apply Take.tail)) (.cons (by repeat (first | exact Take.head | apply Take.tail)) (.cons (by repeat (first | exact Take.head | apply Take.tail)) (.cons (by repeat (first | exact Take.head | apply Take.tail)) (.cons (by repeat (first | exact Take.head | apply Take.tail)) .nil))))) rfl rfl⟩
end Go.Proofs.YthpoieoaaikpmaaGreat
