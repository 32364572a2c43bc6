/- Cases of BareStep of the reference. No condition but that the arguments lie in memory. -/
import Derived.Test.YthpoieoaaikpmaaGreatSt
import Derived.Test.YthpoieoaaikpmaaGreatDl
namespace Go.Proofs.YthpoieoaaikpmaaGreat
open Go.RowKit
set_option linter.unusedSimpArgs false in
set_option linter.unusedVariables false in
set_option maxRecDepth 100000 in
set_option maxHeartbeats 4000000 in
theorem specBareStep_6 (B : BV) (g : Int) (e1 : bareOkM B.m = true) (e2 : hasM B.m g = true) (hw : wantM (gAtM B.m g) = 6) (W0 : World) (R : BRd W0 B) (Z : BBig B) : Calls Tryz.prog 6 #[B.val, .int .i64 g] W0 fun e w' => ∃ d : BV, e = .returned (.tuple #[d.val, .bool true]) ∧ d.m = withGuestM B.m g (stoppedM (gAtM B.m g) ⟨2, 0, false, (insAtM (gAtM B.m g).prog (gAtM B.m g).pc).x⟩) ∧ Hp W0 w' [.bare d] := by
  have hg : 0 ≤ g ∧ g < B.gs.xs.length := by simpa [hasM, hasB, BV.m, gsOf] using e2
  obtain ⟨k, rfl⟩ := Int.eq_ofNat_of_zero_le hg.1
  have hk : k < B.gs.xs.length := by omega
  clear hg
  obtain ⟨a, ha⟩ : ∃ a, a = addrM (gAtM B.m k) := ⟨_, rfl⟩
  have HA : Hid (addrM (gAtM B.m k) = a) := ha.symm
  clear ha
  obtain ⟨i, hi⟩ : ∃ i, i = insAtM (gAtM B.m k).prog (gAtM B.m k).pc := ⟨_, rfl⟩
  have HI : Hid (insAtM (gAtM B.m k).prog (gAtM B.m k).pc = i) := hi.symm
  clear hi
  have ZM : B.m.size ≤ 4194304 := Z
  have ew := Lib.hid hw; clear hw
  have H := Hp.start W0
  go_enter Tryz.func6, Tryz.ntmps6
  go_wp2_with (first
    | go_skip
    | ((with_reducible refine at_box ?_); first | (refine wpList_box_H (cs := (barr B).toList) rfl rfl H rfl CellsOf.agg ?_; clear H; intro bB w H) | (refine wpList_box_H rfl rfl H rfl (by first | exact CellsOf.agg | exact CellsOf.int | exact CellsOf.bool | exact CellsOf.slice | exact CellsOf.string | exact CellsOf.pointer | exact CellsOf.func) ?_; clear H; intro b w H))
    | ((with_reducible refine at_alloc ?_); first | ((with_reducible refine at_dst 4 ?_); refine wpList_alloc_H rfl rfl H ?_; clear H; intro bR w H) | ((with_reducible refine at_dst 6 ?_); refine wpList_alloc_H rfl rfl H ?_; clear H; intro bX w H) | ((with_reducible refine at_dst 13 ?_); refine wpList_alloc_H rfl rfl H ?_; clear H; intro bY w H) | (refine wpList_alloc_H rfl rfl H ?_; clear H; intro b w H))
    | ((with_reducible refine at_load ?_); first | (refine wpList_load_H rfl rfl H rfl (by repeat (first | exact LoadAt.here rfl | apply LoadAt.there)) ?_) | (refine wpList_loads_H rfl rfl H rfl (by repeat (first | (apply LoadsAt.here; repeat (first | exact GetsAt.nil | apply GetsAt.here | apply GetsAt.there)) | apply LoadsAt.there)) ?_))
    | ((with_reducible refine at_store ?_); first | (refine wpList_store_el (enc := GV.cells) (sz := 15) rfl rfl H d.gs (by repeat (first | exact Take.head | apply Take.tail)) g_len rfl rfl (d.gs.xs[k]'(by rw [m_glen HD]; exact hk)) y (List.getElem?_eq_getElem _) (by first | exact CellsOf.agg | exact CellsOf.int | exact CellsOf.bool | exact CellsOf.slice | exact CellsOf.string | exact CellsOf.pointer | exact CellsOf.func) (by repeat (first | exact SetsAt.nil | apply SetsAt.here | apply SetsAt.there)) (by exact rfl) (by exact rfl) (by exact rfl) ?_; clear H; intro w H) | (refine wpList_store_H rfl rfl H rfl rfl (by repeat (first | (apply StoreAt.here; (first | exact CellsOf.agg | exact CellsOf.int | exact CellsOf.bool | exact CellsOf.slice | exact CellsOf.string | exact CellsOf.pointer | exact CellsOf.func); (repeat (first | exact SetsAt.nil | apply SetsAt.here | apply SetsAt.there)); exact rfl; exact rfl) | apply StoreAt.there)) ?_; clear H; intro w H))
    | ((with_reducible refine at_index ?_); first | (refine wpList_index_n rfl rfl d.gs (H.rdgsl (by repeat (first | exact Take.head | apply Take.tail))) rfl rfl rfl (by rw [m_glen HD]; exact hk) ?_))
    | (go_at_call 23; refine (l17Copy_c B _ (R.at_ H) Z).mono ?_; rintro e w ⟨d, rfl, x1, K⟩; have HD := Lib.hid x1; clear x1; have Zd := m_big HD Z; replace H := H.add_all K; clear K)
    | (go_at_call 24; refine (specGuestAt_c d k _ (H.brd (b := d) (by repeat (first | exact Take.head | apply Take.tail))) Zd).mono ?_; rintro e w ⟨x, he, x1, K⟩; rw [HD.out, e2] at he; subst he; have HX : Hid (x.m = gAtM B.m k) := (by show _ = _; rw [x1, HD.out]); clear x1; have ZX : GBig x := size_big HX.out (Nat.le_trans (gAtM_size _ _) ZM); replace H := H.add_all K; clear K)
    | (go_at_call 25; refine (specWantOf_any x _ (H.grd1 (g := x) (by repeat (first | exact Take.head | apply Take.tail))).prog ZX.1).mono ?_; rintro e w ⟨he, hb⟩; rw [HX.out, ew.out] at he; subst he; replace H := H.still hb; clear hb)
    | (go_at_call 26; refine (specBareOk_c d _ (H.brd (b := d) (by repeat (first | exact Take.head | apply Take.tail))) Zd).mono ?_; rintro e w ⟨he, K⟩; rw [HD.out, e1] at he; subst he; replace H := H.add_all K; clear K)
    | (go_at_call 29; refine (specAddress_any x _ (H.grd1 (g := x) (by repeat (first | exact Take.head | apply Take.tail))).prog ZX.1).mono ?_; rintro e w ⟨he, hb⟩; rw [HX.out, HA.out] at he; subst he; replace H := H.still hb; clear hb)
    | (go_at_call 40; refine (l18Trap_6 x x.ctl.traps _ (H.grd1 (g := x) (by repeat (first | exact Take.head | apply Take.tail))) ZX).mono ?_; rintro e w ⟨y, rfl, x1, K⟩; have HY : Hid (y.m = stoppedM (gAtM B.m k) ⟨2, 0, false, (insAtM (gAtM B.m k).prog (gAtM B.m k).pc).x⟩) := (by show _ = _; rw [x1, HX.out]); clear x1; replace H := H.add_all K; clear K; replace H := (H.take (e := .bare d) (by repeat (first | exact Take.head | apply Take.tail))).bparts))
  replace H : Hp W0 _ [.gst y, .many En.gst d.gs.xs, .gsl ⟨d.gs.A, d.gs.c, d.gs.xs.set k y⟩, .rows d.mem, .many En.int d.mem.xs, .int d.outs, .box bR 30 (barr d).toList] := H.pick (.cons (by repeat (first | exact Take.head | apply Take.tail)) (.cons (by repeat (first | exact Take.head | apply Take.tail)) (.cons (by repeat (first | exact Take.head | apply Take.tail)) (.cons (by repeat (first | exact Take.head | apply Take.tail)) (.cons (by repeat (first | exact Take.head | apply Take.tail)) (.cons (by repeat (first | exact Take.head | apply Take.tail)) (.cons (by repeat (first | exact Take.head | apply Take.tail)) .nil)))))))
  replace H := H.many_set (by rw [m_glen HD]; exact hk)
  refine bodyPost_ret (results_H2 rfl H rfl (by repeat (first | (apply LoadsAt.here; repeat (first | exact GetsAt.nil | apply GetsAt.here | apply GetsAt.there)) | apply LoadsAt.there))) rfl ⟨⟨d.mem, ⟨d.gs.A, d.gs.c, d.gs.xs.set k y⟩, d.outs, d.pend⟩, by simp [BV.val], wgPut HD (by rw [m_glen HD]; exact hk) HY.out, H.bare5 (.cons (by repeat (first | exact Take.head | apply Take.tail)) (.cons (by repeat (first | exact Take.head | apply Take.tail)) (.cons (by repeat (first | exact Take.head | apply Take.tail)) (.cons (by repeat (first | exact Take.head | apply Take.tail)) (.cons (by repeat (first | exact Take.head | apply Take.tail)) .nil))))) rfl rfl⟩
set_option linter.unusedSimpArgs false in
set_option linter.unusedVariables false in
set_option maxRecDepth 100000 in
set_option maxHeartbeats 4000000 in
theorem specBareStep_5t (B : BV) (g : Int) (e1 : bareOkM B.m = true) (e2 : hasM B.m g = true) (hw : wantM (gAtM B.m g) = 5) (ht : hasTrapM (gAtM B.m g).ctl.traps 1 = true) (W0 : World) (R : BRd W0 B) (Z : BBig B) : Calls Tryz.prog 6 #[B.val, .int .i64 g] W0 fun e w' => ∃ d : BV, e = .returned (.tuple #[d.val, .bool true]) ∧ d.m = withGuestM B.m g (stoppedM (gAtM B.m g) ⟨3, 0, false, (insAtM (gAtM B.m g).prog (gAtM B.m g).pc).x⟩) ∧ Hp W0 w' [.bare d] := by
  have hg : 0 ≤ g ∧ g < B.gs.xs.length := by simpa [hasM, hasB, BV.m, gsOf] using e2
  obtain ⟨k, rfl⟩ := Int.eq_ofNat_of_zero_le hg.1
  have hk : k < B.gs.xs.length := by omega
  clear hg
  obtain ⟨a, ha⟩ : ∃ a, a = addrM (gAtM B.m k) := ⟨_, rfl⟩
  have HA : Hid (addrM (gAtM B.m k) = a) := ha.symm
  clear ha
  obtain ⟨i, hi⟩ : ∃ i, i = insAtM (gAtM B.m k).prog (gAtM B.m k).pc := ⟨_, rfl⟩
  have HI : Hid (insAtM (gAtM B.m k).prog (gAtM B.m k).pc = i) := hi.symm
  clear hi
  have ZM : B.m.size ≤ 4194304 := Z
  have ew := Lib.hid hw; clear hw
  have H := Hp.start W0
  go_enter Tryz.func6, Tryz.ntmps6
  go_wp2_with (first
    | go_skip
    | ((with_reducible refine at_box ?_); first | (refine wpList_box_H (cs := (barr B).toList) rfl rfl H rfl CellsOf.agg ?_; clear H; intro bB w H) | (refine wpList_box_H rfl rfl H rfl (by first | exact CellsOf.agg | exact CellsOf.int | exact CellsOf.bool | exact CellsOf.slice | exact CellsOf.string | exact CellsOf.pointer | exact CellsOf.func) ?_; clear H; intro b w H))
    | ((with_reducible refine at_alloc ?_); first | ((with_reducible refine at_dst 4 ?_); refine wpList_alloc_H rfl rfl H ?_; clear H; intro bR w H) | ((with_reducible refine at_dst 6 ?_); refine wpList_alloc_H rfl rfl H ?_; clear H; intro bX w H) | ((with_reducible refine at_dst 13 ?_); refine wpList_alloc_H rfl rfl H ?_; clear H; intro bY w H) | (refine wpList_alloc_H rfl rfl H ?_; clear H; intro b w H))
    | ((with_reducible refine at_load ?_); first | (refine wpList_load_H rfl rfl H rfl (by repeat (first | exact LoadAt.here rfl | apply LoadAt.there)) ?_) | (refine wpList_loads_H rfl rfl H rfl (by repeat (first | (apply LoadsAt.here; repeat (first | exact GetsAt.nil | apply GetsAt.here | apply GetsAt.there)) | apply LoadsAt.there)) ?_))
    | ((with_reducible refine at_store ?_); first | (refine wpList_store_el (enc := GV.cells) (sz := 15) rfl rfl H d.gs (by repeat (first | exact Take.head | apply Take.tail)) g_len rfl rfl (d.gs.xs[k]'(by rw [m_glen HD]; exact hk)) y (List.getElem?_eq_getElem _) (by first | exact CellsOf.agg | exact CellsOf.int | exact CellsOf.bool | exact CellsOf.slice | exact CellsOf.string | exact CellsOf.pointer | exact CellsOf.func) (by repeat (first | exact SetsAt.nil | apply SetsAt.here | apply SetsAt.there)) (by exact rfl) (by exact rfl) (by exact rfl) ?_; clear H; intro w H) | (refine wpList_store_H rfl rfl H rfl rfl (by repeat (first | (apply StoreAt.here; (first | exact CellsOf.agg | exact CellsOf.int | exact CellsOf.bool | exact CellsOf.slice | exact CellsOf.string | exact CellsOf.pointer | exact CellsOf.func); (repeat (first | exact SetsAt.nil | apply SetsAt.here | apply SetsAt.there)); exact rfl; exact rfl) | apply StoreAt.there)) ?_; clear H; intro w H))
    | ((with_reducible refine at_index ?_); first | (refine wpList_index_n rfl rfl d.gs (H.rdgsl (by repeat (first | exact Take.head | apply Take.tail))) rfl rfl rfl (by rw [m_glen HD]; exact hk) ?_))
    | (go_at_call 23; refine (l17Copy_c B _ (R.at_ H) Z).mono ?_; rintro e w ⟨d, rfl, x1, K⟩; have HD := Lib.hid x1; clear x1; have Zd := m_big HD Z; replace H := H.add_all K; clear K)
    | (go_at_call 24; refine (specGuestAt_c d k _ (H.brd (b := d) (by repeat (first | exact Take.head | apply Take.tail))) Zd).mono ?_; rintro e w ⟨x, he, x1, K⟩; rw [HD.out, e2] at he; subst he; have HX : Hid (x.m = gAtM B.m k) := (by show _ = _; rw [x1, HD.out]); clear x1; have ZX : GBig x := size_big HX.out (Nat.le_trans (gAtM_size _ _) ZM); replace H := H.add_all K; clear K)
    | (go_at_call 25; refine (specWantOf_any x _ (H.grd1 (g := x) (by repeat (first | exact Take.head | apply Take.tail))).prog ZX.1).mono ?_; rintro e w ⟨he, hb⟩; rw [HX.out, ew.out] at he; subst he; replace H := H.still hb; clear hb)
    | (go_at_call 26; refine (specBareOk_c d _ (H.brd (b := d) (by repeat (first | exact Take.head | apply Take.tail))) Zd).mono ?_; rintro e w ⟨he, K⟩; rw [HD.out, e1] at he; subst he; replace H := H.add_all K; clear K)
    | (go_at_call 29; refine (specAddress_any x _ (H.grd1 (g := x) (by repeat (first | exact Take.head | apply Take.tail))).prog ZX.1).mono ?_; rintro e w ⟨he, hb⟩; rw [HX.out, HA.out] at he; subst he; replace H := H.still hb; clear hb)
    | (go_at_call 40; have HTT : x.ctl.traps = (gAtM B.m k).ctl.traps := ctl_traps HX; rw [← HTT] at ht; refine (l18Trap_5t x x.ctl.traps ht _ (H.grd1 (g := x) (by repeat (first | exact Take.head | apply Take.tail))) ZX).mono ?_; rintro e w ⟨y, rfl, x1, K⟩; have HY : Hid (y.m = stoppedM (gAtM B.m k) ⟨3, 0, false, (insAtM (gAtM B.m k).prog (gAtM B.m k).pc).x⟩) := (by show _ = _; rw [x1, HX.out]); clear x1; replace H := H.add_all K; clear K; replace H := (H.take (e := .bare d) (by repeat (first | exact Take.head | apply Take.tail))).bparts))
  replace H : Hp W0 _ [.gst y, .many En.gst d.gs.xs, .gsl ⟨d.gs.A, d.gs.c, d.gs.xs.set k y⟩, .rows d.mem, .many En.int d.mem.xs, .int d.outs, .box bR 30 (barr d).toList] := H.pick (.cons (by repeat (first | exact Take.head | apply Take.tail)) (.cons (by repeat (first | exact Take.head | apply Take.tail)) (.cons (by repeat (first | exact Take.head | apply Take.tail)) (.cons (by repeat (first | exact Take.head | apply Take.tail)) (.cons (by repeat (first | exact Take.head | apply Take.tail)) (.cons (by repeat (first | exact Take.head | apply Take.tail)) (.cons (by repeat (first | exact Take.head | apply Take.tail)) .nil)))))))
  replace H := H.many_set (by rw [m_glen HD]; exact hk)
  refine bodyPost_ret (results_H2 rfl H rfl (by repeat (first | (apply LoadsAt.here; repeat (first | exact GetsAt.nil | apply GetsAt.here | apply GetsAt.there)) | apply LoadsAt.there))) rfl ⟨⟨d.mem, ⟨d.gs.A, d.gs.c, d.gs.xs.set k y⟩, d.outs, d.pend⟩, by simp [BV.val], wgPut HD (by rw [m_glen HD]; exact hk) HY.out, H.bare5 (.cons (by repeat (first | exact Take.head | apply Take.tail)) (.cons (by repeat (first | exact Take.head | apply Take.tail)) (.cons (by repeat (first | exact Take.head | apply Take.tail)) (.cons (by repeat (first | exact Take.head | apply Take.tail)) (.cons (by repeat (first | exact Take.head | apply Take.tail)) .nil))))) rfl rfl⟩
set_option linter.unusedSimpArgs false in
set_option linter.unusedVariables false in
set_option maxRecDepth 100000 in
set_option maxHeartbeats 4000000 in
theorem specBareStep_7t (B : BV) (g : Int) (e1 : bareOkM B.m = true) (e2 : hasM B.m g = true) (hw : wantM (gAtM B.m g) = 7) (ht : hasTrapM (gAtM B.m g).ctl.traps 2 = true) (W0 : World) (R : BRd W0 B) (Z : BBig B) : Calls Tryz.prog 6 #[B.val, .int .i64 g] W0 fun e w' => ∃ d : BV, e = .returned (.tuple #[d.val, .bool true]) ∧ d.m = withGuestM B.m g (stoppedM (gAtM B.m g) ⟨4, 0, false, 0⟩) ∧ Hp W0 w' [.bare d] := by
  have hg : 0 ≤ g ∧ g < B.gs.xs.length := by simpa [hasM, hasB, BV.m, gsOf] using e2
  obtain ⟨k, rfl⟩ := Int.eq_ofNat_of_zero_le hg.1
  have hk : k < B.gs.xs.length := by omega
  clear hg
  obtain ⟨a, ha⟩ : ∃ a, a = addrM (gAtM B.m k) := ⟨_, rfl⟩
  have HA : Hid (addrM (gAtM B.m k) = a) := ha.symm
  clear ha
  obtain ⟨i, hi⟩ : ∃ i, i = insAtM (gAtM B.m k).prog (gAtM B.m k).pc := ⟨_, rfl⟩
  have HI : Hid (insAtM (gAtM B.m k).prog (gAtM B.m k).pc = i) := hi.symm
  clear hi
  have ZM : B.m.size ≤ 4194304 := Z
  have ew := Lib.hid hw; clear hw
  have H := Hp.start W0
  go_enter Tryz.func6, Tryz.ntmps6
  go_wp2_with (first
    | go_skip
    | ((with_reducible refine at_box ?_); first | (refine wpList_box_H (cs := (barr B).toList) rfl rfl H rfl CellsOf.agg ?_; clear H; intro bB w H) | (refine wpList_box_H rfl rfl H rfl (by first | exact CellsOf.agg | exact CellsOf.int | exact CellsOf.bool | exact CellsOf.slice | exact CellsOf.string | exact CellsOf.pointer | exact CellsOf.func) ?_; clear H; intro b w H))
    | ((with_reducible refine at_alloc ?_); first | ((with_reducible refine at_dst 4 ?_); refine wpList_alloc_H rfl rfl H ?_; clear H; intro bR w H) | ((with_reducible refine at_dst 6 ?_); refine wpList_alloc_H rfl rfl H ?_; clear H; intro bX w H) | ((with_reducible refine at_dst 13 ?_); refine wpList_alloc_H rfl rfl H ?_; clear H; intro bY w H) | (refine wpList_alloc_H rfl rfl H ?_; clear H; intro b w H))
    | ((with_reducible refine at_load ?_); first | (refine wpList_load_H rfl rfl H rfl (by repeat (first | exact LoadAt.here rfl | apply LoadAt.there)) ?_) | (refine wpList_loads_H rfl rfl H rfl (by repeat (first | (apply LoadsAt.here; repeat (first | exact GetsAt.nil | apply GetsAt.here | apply GetsAt.there)) | apply LoadsAt.there)) ?_))
    | ((with_reducible refine at_store ?_); first | (refine wpList_store_el (enc := GV.cells) (sz := 15) rfl rfl H d.gs (by repeat (first | exact Take.head | apply Take.tail)) g_len rfl rfl (d.gs.xs[k]'(by rw [m_glen HD]; exact hk)) y (List.getElem?_eq_getElem _) (by first | exact CellsOf.agg | exact CellsOf.int | exact CellsOf.bool | exact CellsOf.slice | exact CellsOf.string | exact CellsOf.pointer | exact CellsOf.func) (by repeat (first | exact SetsAt.nil | apply SetsAt.here | apply SetsAt.there)) (by exact rfl) (by exact rfl) (by exact rfl) ?_; clear H; intro w H) | (refine wpList_store_H rfl rfl H rfl rfl (by repeat (first | (apply StoreAt.here; (first | exact CellsOf.agg | exact CellsOf.int | exact CellsOf.bool | exact CellsOf.slice | exact CellsOf.string | exact CellsOf.pointer | exact CellsOf.func); (repeat (first | exact SetsAt.nil | apply SetsAt.here | apply SetsAt.there)); exact rfl; exact rfl) | apply StoreAt.there)) ?_; clear H; intro w H))
    | ((with_reducible refine at_index ?_); first | (refine wpList_index_n rfl rfl d.gs (H.rdgsl (by repeat (first | exact Take.head | apply Take.tail))) rfl rfl rfl (by rw [m_glen HD]; exact hk) ?_))
    | (go_at_call 23; refine (l17Copy_c B _ (R.at_ H) Z).mono ?_; rintro e w ⟨d, rfl, x1, K⟩; have HD := Lib.hid x1; clear x1; have Zd := m_big HD Z; replace H := H.add_all K; clear K)
    | (go_at_call 24; refine (specGuestAt_c d k _ (H.brd (b := d) (by repeat (first | exact Take.head | apply Take.tail))) Zd).mono ?_; rintro e w ⟨x, he, x1, K⟩; rw [HD.out, e2] at he; subst he; have HX : Hid (x.m = gAtM B.m k) := (by show _ = _; rw [x1, HD.out]); clear x1; have ZX : GBig x := size_big HX.out (Nat.le_trans (gAtM_size _ _) ZM); replace H := H.add_all K; clear K)
    | (go_at_call 25; refine (specWantOf_any x _ (H.grd1 (g := x) (by repeat (first | exact Take.head | apply Take.tail))).prog ZX.1).mono ?_; rintro e w ⟨he, hb⟩; rw [HX.out, ew.out] at he; subst he; replace H := H.still hb; clear hb)
    | (go_at_call 26; refine (specBareOk_c d _ (H.brd (b := d) (by repeat (first | exact Take.head | apply Take.tail))) Zd).mono ?_; rintro e w ⟨he, K⟩; rw [HD.out, e1] at he; subst he; replace H := H.add_all K; clear K)
    | (go_at_call 29; refine (specAddress_any x _ (H.grd1 (g := x) (by repeat (first | exact Take.head | apply Take.tail))).prog ZX.1).mono ?_; rintro e w ⟨he, hb⟩; rw [HX.out, HA.out] at he; subst he; replace H := H.still hb; clear hb)
    | (go_at_call 40; have HTT : x.ctl.traps = (gAtM B.m k).ctl.traps := ctl_traps HX; rw [← HTT] at ht; refine (l18Trap_7t x x.ctl.traps ht _ (H.grd1 (g := x) (by repeat (first | exact Take.head | apply Take.tail))) ZX).mono ?_; rintro e w ⟨y, rfl, x1, K⟩; have HY : Hid (y.m = stoppedM (gAtM B.m k) ⟨4, 0, false, 0⟩) := (by show _ = _; rw [x1, HX.out]); clear x1; replace H := H.add_all K; clear K; replace H := (H.take (e := .bare d) (by repeat (first | exact Take.head | apply Take.tail))).bparts))
  replace H : Hp W0 _ [.gst y, .many En.gst d.gs.xs, .gsl ⟨d.gs.A, d.gs.c, d.gs.xs.set k y⟩, .rows d.mem, .many En.int d.mem.xs, .int d.outs, .box bR 30 (barr d).toList] := H.pick (.cons (by repeat (first | exact Take.head | apply Take.tail)) (.cons (by repeat (first | exact Take.head | apply Take.tail)) (.cons (by repeat (first | exact Take.head | apply Take.tail)) (.cons (by repeat (first | exact Take.head | apply Take.tail)) (.cons (by repeat (first | exact Take.head | apply Take.tail)) (.cons (by repeat (first | exact Take.head | apply Take.tail)) (.cons (by repeat (first | exact Take.head | apply Take.tail)) .nil)))))))
  replace H := H.many_set (by rw [m_glen HD]; exact hk)
  refine bodyPost_ret (results_H2 rfl H rfl (by repeat (first | (apply LoadsAt.here; repeat (first | exact GetsAt.nil | apply GetsAt.here | apply GetsAt.there)) | apply LoadsAt.there))) rfl ⟨⟨d.mem, ⟨d.gs.A, d.gs.c, d.gs.xs.set k y⟩, d.outs, d.pend⟩, by simp [BV.val], wgPut HD (by rw [m_glen HD]; exact hk) HY.out, H.bare5 (.cons (by repeat (first | exact Take.head | apply Take.tail)) (.cons (by repeat (first | exact Take.head | apply Take.tail)) (.cons (by repeat (first | exact Take.head | apply Take.tail)) (.cons (by repeat (first | exact Take.head | apply Take.tail)) (.cons (by repeat (first | exact Take.head | apply Take.tail)) .nil))))) rfl rfl⟩
set_option linter.unusedSimpArgs false in
set_option linter.unusedVariables false in
set_option maxRecDepth 100000 in
set_option maxHeartbeats 4000000 in
theorem specBareStep_7f (B : BV) (g : Int) (e1 : bareOkM B.m = true) (e2 : hasM B.m g = true) (hw : wantM (gAtM B.m g) = 7) (ht : hasTrapM (gAtM B.m g).ctl.traps 2 = false) (W0 : World) (R : BRd W0 B) (Z : BBig B) : Calls Tryz.prog 6 #[B.val, .int .i64 g] W0 fun e w' => ∃ d : BV, e = .returned (.tuple #[d.val, .bool true]) ∧ d.m = withGuestM B.m g (heldM (gAtM B.m g)) ∧ Hp W0 w' [.bare d] := by
  have hg : 0 ≤ g ∧ g < B.gs.xs.length := by simpa [hasM, hasB, BV.m, gsOf] using e2
  obtain ⟨k, rfl⟩ := Int.eq_ofNat_of_zero_le hg.1
  have hk : k < B.gs.xs.length := by omega
  clear hg
  obtain ⟨a, ha⟩ : ∃ a, a = addrM (gAtM B.m k) := ⟨_, rfl⟩
  have HA : Hid (addrM (gAtM B.m k) = a) := ha.symm
  clear ha
  obtain ⟨i, hi⟩ : ∃ i, i = insAtM (gAtM B.m k).prog (gAtM B.m k).pc := ⟨_, rfl⟩
  have HI : Hid (insAtM (gAtM B.m k).prog (gAtM B.m k).pc = i) := hi.symm
  clear hi
  have ZM : B.m.size ≤ 4194304 := Z
  have ew := Lib.hid hw; clear hw
  have H := Hp.start W0
  go_enter Tryz.func6, Tryz.ntmps6
  go_wp2_with (first
    | go_skip
    | ((with_reducible refine at_box ?_); first | (refine wpList_box_H (cs := (barr B).toList) rfl rfl H rfl CellsOf.agg ?_; clear H; intro bB w H) | (refine wpList_box_H rfl rfl H rfl (by first | exact CellsOf.agg | exact CellsOf.int | exact CellsOf.bool | exact CellsOf.slice | exact CellsOf.string | exact CellsOf.pointer | exact CellsOf.func) ?_; clear H; intro b w H))
    | ((with_reducible refine at_alloc ?_); first | ((with_reducible refine at_dst 4 ?_); refine wpList_alloc_H rfl rfl H ?_; clear H; intro bR w H) | ((with_reducible refine at_dst 6 ?_); refine wpList_alloc_H rfl rfl H ?_; clear H; intro bX w H) | ((with_reducible refine at_dst 13 ?_); refine wpList_alloc_H rfl rfl H ?_; clear H; intro bY w H) | (refine wpList_alloc_H rfl rfl H ?_; clear H; intro b w H))
    | ((with_reducible refine at_load ?_); first | (refine wpList_load_H rfl rfl H rfl (by repeat (first | exact LoadAt.here rfl | apply LoadAt.there)) ?_) | (refine wpList_loads_H rfl rfl H rfl (by repeat (first | (apply LoadsAt.here; repeat (first | exact GetsAt.nil | apply GetsAt.here | apply GetsAt.there)) | apply LoadsAt.there)) ?_))
    | ((with_reducible refine at_store ?_); first | (refine wpList_store_el (enc := GV.cells) (sz := 15) rfl rfl H d.gs (by repeat (first | exact Take.head | apply Take.tail)) g_len rfl rfl (d.gs.xs[k]'(by rw [m_glen HD]; exact hk)) y (List.getElem?_eq_getElem _) (by first | exact CellsOf.agg | exact CellsOf.int | exact CellsOf.bool | exact CellsOf.slice | exact CellsOf.string | exact CellsOf.pointer | exact CellsOf.func) (by repeat (first | exact SetsAt.nil | apply SetsAt.here | apply SetsAt.there)) (by exact rfl) (by exact rfl) (by exact rfl) ?_; clear H; intro w H) | (refine wpList_store_H rfl rfl H rfl rfl (by repeat (first | (apply StoreAt.here; (first | exact CellsOf.agg | exact CellsOf.int | exact CellsOf.bool | exact CellsOf.slice | exact CellsOf.string | exact CellsOf.pointer | exact CellsOf.func); (repeat (first | exact SetsAt.nil | apply SetsAt.here | apply SetsAt.there)); exact rfl; exact rfl) | apply StoreAt.there)) ?_; clear H; intro w H))
    | ((with_reducible refine at_index ?_); first | (refine wpList_index_n rfl rfl d.gs (H.rdgsl (by repeat (first | exact Take.head | apply Take.tail))) rfl rfl rfl (by rw [m_glen HD]; exact hk) ?_))
    | (go_at_call 23; refine (l17Copy_c B _ (R.at_ H) Z).mono ?_; rintro e w ⟨d, rfl, x1, K⟩; have HD := Lib.hid x1; clear x1; have Zd := m_big HD Z; replace H := H.add_all K; clear K)
    | (go_at_call 24; refine (specGuestAt_c d k _ (H.brd (b := d) (by repeat (first | exact Take.head | apply Take.tail))) Zd).mono ?_; rintro e w ⟨x, he, x1, K⟩; rw [HD.out, e2] at he; subst he; have HX : Hid (x.m = gAtM B.m k) := (by show _ = _; rw [x1, HD.out]); clear x1; have ZX : GBig x := size_big HX.out (Nat.le_trans (gAtM_size _ _) ZM); replace H := H.add_all K; clear K)
    | (go_at_call 25; refine (specWantOf_any x _ (H.grd1 (g := x) (by repeat (first | exact Take.head | apply Take.tail))).prog ZX.1).mono ?_; rintro e w ⟨he, hb⟩; rw [HX.out, ew.out] at he; subst he; replace H := H.still hb; clear hb)
    | (go_at_call 26; refine (specBareOk_c d _ (H.brd (b := d) (by repeat (first | exact Take.head | apply Take.tail))) Zd).mono ?_; rintro e w ⟨he, K⟩; rw [HD.out, e1] at he; subst he; replace H := H.add_all K; clear K)
    | (go_at_call 29; refine (specAddress_any x _ (H.grd1 (g := x) (by repeat (first | exact Take.head | apply Take.tail))).prog ZX.1).mono ?_; rintro e w ⟨he, hb⟩; rw [HX.out, HA.out] at he; subst he; replace H := H.still hb; clear hb)
    | (go_at_call 40; have HTT : x.ctl.traps = (gAtM B.m k).ctl.traps := ctl_traps HX; rw [← HTT] at ht; refine (l18Trap_7f x x.ctl.traps ht _ (H.grd1 (g := x) (by repeat (first | exact Take.head | apply Take.tail))) ZX).mono ?_; rintro e w ⟨y, rfl, x1, K⟩; have HY : Hid (y.m = heldM (gAtM B.m k)) := (by show _ = _; rw [x1, HX.out]); clear x1; replace H := H.add_all K; clear K; replace H := (H.take (e := .bare d) (by repeat (first | exact Take.head | apply Take.tail))).bparts))
  replace H : Hp W0 _ [.gst y, .many En.gst d.gs.xs, .gsl ⟨d.gs.A, d.gs.c, d.gs.xs.set k y⟩, .rows d.mem, .many En.int d.mem.xs, .int d.outs, .box bR 30 (barr d).toList] := H.pick (.cons (by repeat (first | exact Take.head | apply Take.tail)) (.cons (by repeat (first | exact Take.head | apply Take.tail)) (.cons (by repeat (first | exact Take.head | apply Take.tail)) (.cons (by repeat (first | exact Take.head | apply Take.tail)) (.cons (by repeat (first | exact Take.head | apply Take.tail)) (.cons (by repeat (first | exact Take.head | apply Take.tail)) (.cons (by repeat (first | exact Take.head | apply Take.tail)) .nil)))))))
  replace H := H.many_set (by rw [m_glen HD]; exact hk)
  refine bodyPost_ret (results_H2 rfl H rfl (by repeat (first | (apply LoadsAt.here; repeat (first | exact GetsAt.nil | apply GetsAt.here | apply GetsAt.there)) | apply LoadsAt.there))) rfl ⟨⟨d.mem, ⟨d.gs.A, d.gs.c, d.gs.xs.set k y⟩, d.outs, d.pend⟩, by simp [BV.val], wgPut HD (by rw [m_glen HD]; exact hk) HY.out, H.bare5 (.cons (by repeat (first | exact Take.head | apply Take.tail)) (.cons (by repeat (first | exact Take.head | apply Take.tail)) (.cons (by repeat (first | exact Take.head | apply Take.tail)) (.cons (by repeat (first | exact Take.head | apply Take.tail)) (.cons (by repeat (first | exact Take.head | apply Take.tail)) .nil))))) rfl rfl⟩
set_option linter.unusedSimpArgs false in
set_option linter.unusedVariables false in
set_option maxRecDepth 100000 in
set_option maxHeartbeats 4000000 in
theorem specBareStep_5f (B : BV) (g : Int) (e1 : bareOkM B.m = true) (e2 : hasM B.m g = true) (hw : wantM (gAtM B.m g) = 5) (ht : hasTrapM (gAtM B.m g).ctl.traps 1 = false) (W0 : World) (R : BRd W0 B) (Z : BBig B) : Calls Tryz.prog 6 #[B.val, .int .i64 g] W0 fun e w' => ∃ d : BV, e = .returned (.tuple #[d.val, .bool true]) ∧ d.m = withGuestM (putOutM B.m (insAtM (gAtM B.m g).prog (gAtM B.m g).pc).x) g (movedM (gAtM B.m g)) ∧ Hp W0 w' [.bare d] := by
  have hg : 0 ≤ g ∧ g < B.gs.xs.length := by simpa [hasM, hasB, BV.m, gsOf] using e2
  obtain ⟨k, rfl⟩ := Int.eq_ofNat_of_zero_le hg.1
  have hk : k < B.gs.xs.length := by omega
  clear hg
  obtain ⟨a, ha⟩ : ∃ a, a = addrM (gAtM B.m k) := ⟨_, rfl⟩
  have HA : Hid (addrM (gAtM B.m k) = a) := ha.symm
  clear ha
  obtain ⟨i, hi⟩ : ∃ i, i = insAtM (gAtM B.m k).prog (gAtM B.m k).pc := ⟨_, rfl⟩
  have HI : Hid (insAtM (gAtM B.m k).prog (gAtM B.m k).pc = i) := hi.symm
  clear hi
  have ZM : B.m.size ≤ 4194304 := Z
  have ew := Lib.hid hw; clear hw
  have H := Hp.start W0
  go_enter Tryz.func6, Tryz.ntmps6
  go_wp2_with (first
    | go_skip
    | ((with_reducible refine at_box ?_); first | (refine wpList_box_H (cs := (barr B).toList) rfl rfl H rfl CellsOf.agg ?_; clear H; intro bB w H) | (refine wpList_box_H rfl rfl H rfl (by first | exact CellsOf.agg | exact CellsOf.int | exact CellsOf.bool | exact CellsOf.slice | exact CellsOf.string | exact CellsOf.pointer | exact CellsOf.func) ?_; clear H; intro b w H))
    | ((with_reducible refine at_alloc ?_); first | ((with_reducible refine at_dst 4 ?_); refine wpList_alloc_H rfl rfl H ?_; clear H; intro bR w H) | ((with_reducible refine at_dst 6 ?_); refine wpList_alloc_H rfl rfl H ?_; clear H; intro bX w H) | ((with_reducible refine at_dst 13 ?_); refine wpList_alloc_H rfl rfl H ?_; clear H; intro bY w H) | (refine wpList_alloc_H rfl rfl H ?_; clear H; intro b w H))
    | ((with_reducible refine at_load ?_); first | (refine wpList_load_H rfl rfl H rfl (by repeat (first | exact LoadAt.here rfl | apply LoadAt.there)) ?_) | (refine wpList_loads_H rfl rfl H rfl (by repeat (first | (apply LoadsAt.here; repeat (first | exact GetsAt.nil | apply GetsAt.here | apply GetsAt.there)) | apply LoadsAt.there)) ?_))
    | ((with_reducible refine at_store ?_); first | (refine wpList_store_el (enc := GV.cells) (sz := 15) rfl rfl H d.gs (by repeat (first | exact Take.head | apply Take.tail)) g_len rfl rfl (d.gs.xs[k]'(by rw [m_glen HD]; exact hk)) y (List.getElem?_eq_getElem _) (by first | exact CellsOf.agg | exact CellsOf.int | exact CellsOf.bool | exact CellsOf.slice | exact CellsOf.string | exact CellsOf.pointer | exact CellsOf.func) (by repeat (first | exact SetsAt.nil | apply SetsAt.here | apply SetsAt.there)) (by exact rfl) (by exact rfl) (by exact rfl) ?_; clear H; intro w H) | (refine wpList_store_H rfl rfl H rfl rfl (by repeat (first | (apply StoreAt.here; (first | exact CellsOf.agg | exact CellsOf.int | exact CellsOf.bool | exact CellsOf.slice | exact CellsOf.string | exact CellsOf.pointer | exact CellsOf.func); (repeat (first | exact SetsAt.nil | apply SetsAt.here | apply SetsAt.there)); exact rfl; exact rfl) | apply StoreAt.there)) ?_; clear H; intro w H))
    | ((with_reducible refine at_index ?_); first | (refine wpList_index_n rfl rfl d.gs (H.rdgsl (by repeat (first | exact Take.head | apply Take.tail))) rfl rfl rfl (by rw [m_glen HD]; exact hk) ?_))
    | (go_at_call 23; refine (l17Copy_c B _ (R.at_ H) Z).mono ?_; rintro e w ⟨d, rfl, x1, K⟩; have HD := Lib.hid x1; clear x1; have Zd := m_big HD Z; replace H := H.add_all K; clear K)
    | (go_at_call 24; refine (specGuestAt_c d k _ (H.brd (b := d) (by repeat (first | exact Take.head | apply Take.tail))) Zd).mono ?_; rintro e w ⟨x, he, x1, K⟩; rw [HD.out, e2] at he; subst he; have HX : Hid (x.m = gAtM B.m k) := (by show _ = _; rw [x1, HD.out]); clear x1; have ZX : GBig x := size_big HX.out (Nat.le_trans (gAtM_size _ _) ZM); replace H := H.add_all K; clear K)
    | (go_at_call 25; refine (specWantOf_any x _ (H.grd1 (g := x) (by repeat (first | exact Take.head | apply Take.tail))).prog ZX.1).mono ?_; rintro e w ⟨he, hb⟩; rw [HX.out, ew.out] at he; subst he; replace H := H.still hb; clear hb)
    | (go_at_call 26; refine (specBareOk_c d _ (H.brd (b := d) (by repeat (first | exact Take.head | apply Take.tail))) Zd).mono ?_; rintro e w ⟨he, K⟩; rw [HD.out, e1] at he; subst he; replace H := H.add_all K; clear K)
    | (go_at_call 29; refine (specAddress_any x _ (H.grd1 (g := x) (by repeat (first | exact Take.head | apply Take.tail))).prog ZX.1).mono ?_; rintro e w ⟨he, hb⟩; rw [HX.out, HA.out] at he; subst he; replace H := H.still hb; clear hb)
    | (go_at_call 40; have HTT : x.ctl.traps = (gAtM B.m k).ctl.traps := ctl_traps HX; rw [← HTT] at ht; refine (l18Trap_5f x x.ctl.traps ht _ (H.grd1 (g := x) (by repeat (first | exact Take.head | apply Take.tail))) ZX).mono ?_; rintro e w ⟨y, rfl, x1, K⟩; have HY : Hid (y.m = movedM (gAtM B.m k)) := (by show _ = _; rw [x1, HX.out]); clear x1; replace H := H.add_all K; clear K))
  have HIX : Hid (i = insAtM x.prog.xs x.pc) := by show _ = _; rw [← HI.out, ← HX.out]; rfl
  refine wp_cut (fun u a' w' => ∃ (q : BV), Hid (q.m = putOutM B.m (insAtM (gAtM B.m k).prog (gAtM B.m k).pc).x) ∧ Hp W0 w' [.bare q, .gst y, .gst x, .box bY 56 (garr y).toList, .box bB 30 (barr q).toList, .box bR 30 [.slice none 0 0, .slice none 0 0, .slice none 0 0, .int .i64 0]] ∧ a' = puts u [(52, d.val), (53, .pointer (some ⟨bX, 0, none⟩)), (54, .slice x.prog.A x.prog.xs.length x.prog.c), (55, .pointer (some ⟨bX, 2, none⟩)), (56, (.int .i64 x.pc)), (57, (.agg #[.int .i64 i.op, .int .i64 i.x])), (58, (.int .i64 i.x)), (59, q.val)]) ?_ ?_
  · refine wp_region_last 8 (S := (fun w' => Rw w' bB 30 (barr d) ∧ Rw w' bX 56 (garr x))) (by kernel_rfl) ?_
    replace H := H.drew
    refine takeL (i := 0) rfl .here (by kernel_rfl) (by kernel_rfl) (by kernel_rfl) (fun _ _ _ h => absurd h.1 (by simp)) (by kernel_rfl) (yields_loads_R rfl rfl rfl (fun _ hS => hS.1) (by repeat (first | exact GetsAt.nil | apply GetsAt.here | apply GetsAt.there))) ⟨H.rw_ (by repeat (first | exact Take.head | apply Take.tail)), H.rw_ (by repeat (first | exact Take.head | apply Take.tail))⟩ ?_
    (try simp only [Act.put, List.setIfInBounds_toArray, List.set_cons_succ, List.set_cons_zero])
    refine takeL (i := 1) rfl (.there .here) (by kernel_rfl) (by kernel_rfl) (by kernel_rfl) (fun _ _ _ h => absurd h.1 (by simp)) (by kernel_rfl) (yields_val (v := .pointer (some ⟨bX, 0, none⟩)) rfl (fun _ => by go_simp)) ⟨H.rw_ (by repeat (first | exact Take.head | apply Take.tail)), H.rw_ (by repeat (first | exact Take.head | apply Take.tail))⟩ ?_
    (try simp only [Act.put, List.setIfInBounds_toArray, List.set_cons_succ, List.set_cons_zero])
    refine takeL (i := 2) rfl (.there (.there .here)) (by kernel_rfl) (by kernel_rfl) (by kernel_rfl) (fun _ _ _ h => absurd h.1 (by simp)) (by kernel_rfl) (yields_load1_R rfl rfl rfl (fun _ hS => hS.2) rfl) ⟨H.rw_ (by repeat (first | exact Take.head | apply Take.tail)), H.rw_ (by repeat (first | exact Take.head | apply Take.tail))⟩ ?_
    (try simp only [Act.put, List.setIfInBounds_toArray, List.set_cons_succ, List.set_cons_zero])
    refine takeL (i := 3) rfl (.there (.there (.there .here))) (by kernel_rfl) (by kernel_rfl) (by kernel_rfl) (fun _ _ _ h => absurd h.1 (by simp)) (by kernel_rfl) (yields_val (v := .pointer (some ⟨bX, 2, none⟩)) rfl (fun _ => by go_simp)) ⟨H.rw_ (by repeat (first | exact Take.head | apply Take.tail)), H.rw_ (by repeat (first | exact Take.head | apply Take.tail))⟩ ?_
    (try simp only [Act.put, List.setIfInBounds_toArray, List.set_cons_succ, List.set_cons_zero])
    refine takeL (i := 4) rfl (.there (.there (.there (.there .here)))) (by kernel_rfl) (by kernel_rfl) (by kernel_rfl) (fun _ _ _ h => absurd h.1 (by simp)) (by kernel_rfl) (yields_load1_R rfl rfl rfl (fun _ hS => hS.2) rfl) ⟨H.rw_ (by repeat (first | exact Take.head | apply Take.tail)), H.rw_ (by repeat (first | exact Take.head | apply Take.tail))⟩ ?_
    (try simp only [Act.put, List.setIfInBounds_toArray, List.set_cons_succ, List.set_cons_zero])
    refine anyL_1 (i := 5) (by kernel_rfl) ?_
    refine wpOp_at rfl (.there (.there (.there (.there (.there .here))))) rfl ?_
    refine wp_call_H Tryz.f42 rfl rfl Tryz.func42 (by kernel_rfl) rfl rfl (belowS H (specInsAt_c x.prog x.pc _ (H.grd1 (g := x) (by repeat (first | exact Take.head | apply Take.tail))).prog ZX.1 i HIX.out)) ?_
    clear H
    rintro _ w ⟨rfl, H⟩
    refine ⟨fun _ => ⟨H.rw_ (by repeat (first | exact Take.head | apply Take.tail)), H.rw_ (by repeat (first | exact Take.head | apply Take.tail))⟩, ?_⟩
    (try simp only [Act.put, List.setIfInBounds_toArray, List.set_cons_succ, List.set_cons_zero])
    refine takeL (i := 6) rfl (.there (.there (.there (.there (.there (.there .here)))))) (by kernel_rfl) (by kernel_rfl) (by kernel_rfl) (fun _ _ _ h => absurd h.1 (by simp)) (by kernel_rfl) (yields_val (v := (.int .i64 i.x)) rfl (fun _ => by go_simp)) ⟨H.rw_ (by repeat (first | exact Take.head | apply Take.tail)), H.rw_ (by repeat (first | exact Take.head | apply Take.tail))⟩ ?_
    (try simp only [Act.put, List.setIfInBounds_toArray, List.set_cons_succ, List.set_cons_zero])
    refine anyL_1 (i := 7) (by kernel_rfl) ?_
    refine wpOp_at rfl (.there (.there (.there (.there (.there (.there (.there .here))))))) rfl ?_
    refine wp_call_H Tryz.f41 rfl rfl Tryz.func41 (by kernel_rfl) rfl rfl (made_H H (specPutOut_c d i.x _ (H.brd (b := d) (by repeat (first | exact Take.head | apply Take.tail))) Zd)) ?_
    clear H
    rintro _ w ⟨q, rfl, HQ, H⟩
    refine ⟨fun _ => ⟨H.rw_ (by repeat (first | exact Take.head | apply Take.tail)), H.rw_ (by repeat (first | exact Take.head | apply Take.tail))⟩, ?_⟩
    (try simp only [Act.put, List.setIfInBounds_toArray, List.set_cons_succ, List.set_cons_zero])
    refine anyL_1 (i := 8) (by kernel_rfl) ?_
    refine wpOp_at rfl (.there (.there (.there (.there (.there (.there (.there (.there .here)))))))) rfl ?_
    refine wp_store_H rfl H rfl rfl (by repeat (first | (apply StoreAt.here; (first | exact CellsOf.agg | exact CellsOf.int | exact CellsOf.bool | exact CellsOf.slice | exact CellsOf.string | exact CellsOf.pointer | exact CellsOf.func); (repeat (first | exact SetsAt.nil | apply SetsAt.here | apply SetsAt.there)); exact rfl; exact rfl) | apply StoreAt.there)) ?_
    clear H
    intro w H
    refine ⟨fun hw => absurd rfl hw, ?_⟩
    (try simp only [Act.put, List.setIfInBounds_toArray, List.set_cons_succ, List.set_cons_zero])
    refine anyL_done (by kernel_rfl) ?_ _
    exact ⟨rfl, q, (by show _ = _; rw [HQ.out, HD.out, HI.out]), H.pick (.cons (by repeat (first | exact Take.head | apply Take.tail)) (.cons (by repeat (first | exact Take.head | apply Take.tail)) (.cons (by repeat (first | exact Take.head | apply Take.tail)) (.cons (by repeat (first | exact Take.head | apply Take.tail)) (.cons (by repeat (first | exact Take.head | apply Take.tail)) (.cons (by repeat (first | exact Take.head | apply Take.tail)) .nil)))))), by first | (simp only [puts_cons, puts_nil, Act.put, List.setIfInBounds_toArray, List.set_cons_succ, List.set_cons_zero]; done) | (simp only [puts_cons, puts_nil, Act.put, List.setIfInBounds_toArray, List.set_cons_succ, List.set_cons_zero]; rfl)⟩
  clear H
  rintro u w ⟨q, HQ, H, rfl⟩
  simp only [puts_cons, puts_nil, Act.put, List.setIfInBounds_toArray, List.set_cons_succ, List.set_cons_zero]
  replace H := (H.take (e := .bare q) (by repeat (first | exact Take.head | apply Take.tail))).bparts
  go_wp2_with (first
    | go_skip
    | ((with_reducible refine at_box ?_); first | (refine wpList_box_H rfl rfl H rfl (by first | exact CellsOf.agg | exact CellsOf.int | exact CellsOf.bool | exact CellsOf.slice | exact CellsOf.string | exact CellsOf.pointer | exact CellsOf.func) ?_; clear H; intro b w H))
    | ((with_reducible refine at_alloc ?_); first | (refine wpList_alloc_H rfl rfl H ?_; clear H; intro b w H))
    | ((with_reducible refine at_load ?_); first | (refine wpList_load_H rfl rfl H rfl (by repeat (first | exact LoadAt.here rfl | apply LoadAt.there)) ?_) | (refine wpList_loads_H rfl rfl H rfl (by repeat (first | (apply LoadsAt.here; repeat (first | exact GetsAt.nil | apply GetsAt.here | apply GetsAt.there)) | apply LoadsAt.there)) ?_))
    | ((with_reducible refine at_store ?_); first | (refine wpList_store_el (enc := GV.cells) (sz := 15) rfl rfl H q.gs (by repeat (first | exact Take.head | apply Take.tail)) g_len rfl rfl (q.gs.xs[k]'(by rw [glenS HQ, putOut_glen]; simpa [BV.m, gsOf] using hk)) y (List.getElem?_eq_getElem _) (by first | exact CellsOf.agg | exact CellsOf.int | exact CellsOf.bool | exact CellsOf.slice | exact CellsOf.string | exact CellsOf.pointer | exact CellsOf.func) (by repeat (first | exact SetsAt.nil | apply SetsAt.here | apply SetsAt.there)) (by exact rfl) (by exact rfl) (by exact rfl) ?_; clear H; intro w H) | (refine wpList_store_H rfl rfl H rfl rfl (by repeat (first | (apply StoreAt.here; (first | exact CellsOf.agg | exact CellsOf.int | exact CellsOf.bool | exact CellsOf.slice | exact CellsOf.string | exact CellsOf.pointer | exact CellsOf.func); (repeat (first | exact SetsAt.nil | apply SetsAt.here | apply SetsAt.there)); exact rfl; exact rfl) | apply StoreAt.there)) ?_; clear H; intro w H))
    | ((with_reducible refine at_index ?_); first | (refine wpList_index_n rfl rfl q.gs (H.rdgsl (by repeat (first | exact Take.head | apply Take.tail))) rfl rfl rfl (by rw [glenS HQ, putOut_glen]; simpa [BV.m, gsOf] using hk) ?_)))
  replace H : Hp W0 _ [.gst y, .many En.gst q.gs.xs, .gsl ⟨q.gs.A, q.gs.c, q.gs.xs.set k y⟩, .rows q.mem, .many En.int q.mem.xs, .int q.outs, .box bR 30 (barr q).toList] := H.pick (.cons (by repeat (first | exact Take.head | apply Take.tail)) (.cons (by repeat (first | exact Take.head | apply Take.tail)) (.cons (by repeat (first | exact Take.head | apply Take.tail)) (.cons (by repeat (first | exact Take.head | apply Take.tail)) (.cons (by repeat (first | exact Take.head | apply Take.tail)) (.cons (by repeat (first | exact Take.head | apply Take.tail)) (.cons (by repeat (first | exact Take.head | apply Take.tail)) .nil)))))))
  replace H := H.many_set (by rw [glenS HQ, putOut_glen]; simpa [BV.m, gsOf] using hk)
  refine bodyPost_ret (results_H2 rfl H rfl (by repeat (first | (apply LoadsAt.here; repeat (first | exact GetsAt.nil | apply GetsAt.here | apply GetsAt.there)) | apply LoadsAt.there))) rfl ⟨⟨q.mem, ⟨q.gs.A, q.gs.c, q.gs.xs.set k y⟩, q.outs, q.pend⟩, by simp [BV.val], wgPut HQ (by rw [glenS HQ, putOut_glen]; simpa [BV.m, gsOf] using hk) HY.out, H.bare5 (.cons (by repeat (first | exact Take.head | apply Take.tail)) (.cons (by repeat (first | exact Take.head | apply Take.tail)) (.cons (by repeat (first | exact Take.head | apply Take.tail)) (.cons (by repeat (first | exact Take.head | apply Take.tail)) (.cons (by repeat (first | exact Take.head | apply Take.tail)) .nil))))) rfl rfl⟩
end Go.Proofs.YthpoieoaaikpmaaGreat
