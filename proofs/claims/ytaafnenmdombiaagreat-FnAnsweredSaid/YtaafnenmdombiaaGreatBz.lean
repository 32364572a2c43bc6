/- Contracts of BareCtl and BareInject, of the program and of the reference. No condition but that the arguments lie in memory. -/
import Derived.Maps.RangeWalk
import Derived.Test.YtaafnenmdombiaaGreatBy
namespace Go.Proofs.YtaafnenmdombiaaGreat
set_option linter.unusedSimpArgs false
set_option linter.unusedVariables false
set_option linter.unusedSimpArgs false
set_option linter.unusedVariables false
open Go.RowKit
section
variable {w0 w : World} {L : List En} {l l1 l2 : List GV} {k : Nat} {y : GV}
theorem Hp.gst_open (hr : l[k]? = some y) (H : Hp w0 w (.many En.gst l :: L)) : ∃ l1 l2, l = l1 ++ y :: l2 ∧ l1.length = k ∧ Hp w0 w (.ins y.prog :: .slot y.written :: .slot y.live :: .int y.seen :: .many En.gst l1 :: .many En.gst l2 :: L) := by
  obtain ⟨l1, l2, h1, h2, H1⟩ := Hp.many_at hr H
  exact ⟨l1, l2, h1, h2, H1.slices⟩
theorem Hp.gst_close {p : Sl Ins} {wr lv : Sl Slot} {sn : Sl Int} (a pc : Int) (ctl : Ctl) (pn : Int) (x : Exit) (hd : Bool) (H : Hp w0 w (.ins p :: .slot wr :: .slot lv :: .int sn :: .many En.gst l1 :: .many En.gst l2 :: L)) : Hp w0 w (.many En.gst (l1 ++ ⟨p, a, pc, wr, lv, ctl, pn, x, hd, sn⟩ :: l2) :: L) :=
  Hp.many_join (f := En.gst) (H.guest a pc ctl pn x hd)
theorem set_app {α : Type} {l l1 l2 : List α} {k : Nat} {y : α} (h : l = l1 ++ y :: l2) (h1 : l1.length = k) (x : α) : l.set k x = l1 ++ x :: l2 := by subst h; subst h1; simp
theorem Hp.gst_scal (hr : l[k]? = some y) (a pc : Int) (ctl : Ctl) (pn : Int) (x : Exit) (hd : Bool) (H : Hp w0 w (.many En.gst l :: L)) : Hp w0 w (.many En.gst (l.set k ⟨y.prog, a, pc, y.written, y.live, ctl, pn, x, hd, y.seen⟩) :: L) := by
  obtain ⟨l1, l2, h1, h2, H1⟩ := Hp.gst_open hr H
  rw [set_app h1 h2]
  exact Hp.gst_close a pc ctl pn x hd H1
end
theorem ch_hit {m : MB} {g : Int} {c : Bool} {F : MG → MG} (h : chOkM m g c = true) : changedM m g c F = withGuestM m g (F (gAtM m g)) := by unfold changedM; rw [if_pos h]
theorem wg_hit {B : BV} {k : Nat} {y : GV} (hy : B.gs.xs[k]? = some y) (F : MG → MG) : withGuestM B.m k (F (gAtM B.m k)) = { B.m with guests := B.m.guests.set k (F y.m) } := by
  unfold withGuestM; rw [if_pos (gAtM_hit hy).2, (gAtM_hit hy).1]; rfl
set_option maxRecDepth 100000 in
set_option maxHeartbeats 4000000 in
theorem bareCtl1_c (x : GV) (c : Ctl) (b : Nat) (W0 : World) (R : GRd W0 x) (Z : GBig x) (h5 : Rw W0 b 37 ([.int .i64 c.traps, .int .i64 c.post, .bool c.opn] : List Value).toArray) : Calls Tryz.prog 90 #[x.val, .pointer (some ⟨b, 0, none⟩)] W0 fun e w' => ∃ y : GV, e = .returned y.val ∧ (y.m = ctlG c x.m ∧ GRd w' y) ∧ Below W0.heap.size W0 w' := by
  have H := Hp.start W0
  go_enter Tryz.func90, Tryz.ntmps90
  go_wp2_with (first
    | go_skip
    | ((with_reducible refine at_box ?_); first | (refine wpList_box_H rfl rfl H rfl (by constructor) ?_; clear H; intro bX w H))
    | ((with_reducible refine at_alloc ?_); first | (refine wpList_alloc_H rfl rfl H ?_; clear H; intro bR w H))
    | ((with_reducible refine at_load ?_); first | (refine wpList_loadsc rfl rfl H rfl h5 (by repeat constructor) ?_) | (refine wpList_load_H rfl rfl H rfl (by repeat constructor) ?_) | (refine wpList_loads_H rfl rfl H rfl (by repeat constructor) ?_))
    | ((with_reducible refine at_store ?_); first | (refine wpList_store_H rfl rfl H rfl rfl (by repeat constructor) ?_; clear H; intro w H)))
  refine bodyPost_ret (results_H rfl H rfl (by repeat constructor)) rfl ⟨⟨x.prog, x.a, x.pc, x.written, x.live, c, x.pending, x.exit, x.halted, x.seen⟩, rfl, ⟨rfl, ⟨R.prog.at_ H, R.written.at_ H, R.live.at_ H, R.seen.at_ H⟩⟩, H.below⟩
set_option maxRecDepth 100000 in
set_option maxHeartbeats 4000000 in
theorem bareInject1_c (x : GV) (p : Int) (b : Nat) (W0 : World) (R : GRd W0 x) (Z : GBig x) (h5 : Rw W0 b 3 ([.int .i64 p] : List Value).toArray) : Calls Tryz.prog 86 #[x.val, .pointer (some ⟨b, 0, none⟩)] W0 fun e w' => ∃ y : GV, e = .returned y.val ∧ (y.m = injectG p x.m ∧ GRd w' y) ∧ Below W0.heap.size W0 w' := by
  have H := Hp.start W0
  go_enter Tryz.func86, Tryz.ntmps86
  go_wp2_with (first
    | go_skip
    | ((with_reducible refine at_box ?_); first | (refine wpList_box_H rfl rfl H rfl (by constructor) ?_; clear H; intro bX w H))
    | ((with_reducible refine at_alloc ?_); first | (refine wpList_alloc_H rfl rfl H ?_; clear H; intro bR w H))
    | ((with_reducible refine at_load ?_); first | (refine wpList_loadc rfl rfl H rfl h5 rfl ?_) | (refine wpList_load_H rfl rfl H rfl (by repeat constructor) ?_) | (refine wpList_loads_H rfl rfl H rfl (by repeat constructor) ?_))
    | ((with_reducible refine at_store ?_); first | (refine wpList_store_H rfl rfl H rfl rfl (by repeat constructor) ?_; clear H; intro w H)))
  refine bodyPost_ret (results_H rfl H rfl (by repeat constructor)) rfl ⟨⟨x.prog, x.a, x.pc, x.written, x.live, x.ctl, p, x.exit, x.halted, x.seen⟩, rfl, ⟨rfl, ⟨R.prog.at_ H, R.written.at_ H, R.live.at_ H, R.seen.at_ H⟩⟩, H.below⟩
theorem below_v {P : Program} {f : FuncId} {args : Array Value} {w0 w : World} {L : List En} {v : Value} (H : Hp w0 w L) (h : Calls P f args w (fun e w' => e = .returned v ∧ Below w.heap.size w w')) : Calls P f args w (fun e w' => ∃ u, e = .returned u ∧ (u = v ∧ Hp w0 w' L)) :=
  h.mono fun _ _ ⟨he, hb⟩ => ⟨_, he, rfl, H.still hb⟩
theorem same_v {P : Program} {f : FuncId} {args : Array Value} {w0 w : World} {L : List En} {v : Value} (H : Hp w0 w L) (h : Calls P f args w (fun e w' => e = .returned v ∧ w = w')) : Calls P f args w (fun e w' => ∃ u, e = .returned u ∧ (u = v ∧ Hp w0 w' L)) :=
  h.mono fun _ _ ⟨he, hw⟩ => ⟨_, he, rfl, hw ▸ H⟩
set_option maxRecDepth 100000 in
set_option maxHeartbeats 4000000 in
theorem bareCtl_c (B : BV) (g : Int) (c : Ctl) (W0 : World) (R : BRd W0 B) (Z : BBig B) : Calls Tryz.prog 18 #[B.val, .int .i64 g, c.val] W0 fun e w' => ∃ d : BV, e = .returned (.tuple #[d.val, .bool (chOkM B.m g (ctlOkM c))]) ∧ d.m = changedM B.m g (ctlOkM c) (ctlG c) ∧ Hp W0 w' [.bare d] := by
  have H := Hp.start W0
  go_enter Tryz.func18, Tryz.ntmps18
  go_wp2_with (first
    | go_skip
    | ((with_reducible refine at_box ?_); first | (refine wpList_box_H (cs := (barr B).toList) rfl rfl H rfl CellsOf.agg ?_; clear H; intro bB w H) | (refine wpList_box_H rfl rfl H rfl (by constructor) ?_; clear H; intro bC w H))
    | ((with_reducible refine at_alloc ?_); first | (refine wpList_alloc_H rfl rfl H ?_; clear H; intro bR w H))
    | ((with_reducible refine at_load ?_); first | (refine wpList_load_H rfl rfl H rfl (by repeat constructor) ?_) | (refine wpList_loads_H rfl rfl H rfl (by repeat constructor) ?_))
    | ((with_reducible refine at_store ?_); first | (refine wpList_store_H rfl rfl H rfl rfl (by repeat constructor) ?_; clear H; intro w H)))
  refine wp_cut (fun u a' w' => ∃ (d : BV), Hid (d.m = changedM B.m g (ctlOkM c) (ctlG c)) ∧ Hp W0 w' [.bare d, .box bR 28 (barr d).toList] ∧ a' = puts u [(8, B.val), (9, (.int .i64 g)), (10, c.val), (11, (.bool (ctlOkM c))), (12, (.func (.func 90) #[] #[.pointer (some ⟨bC, 0, none⟩)])), (13, (.tuple #[d.val, .bool (chOkM B.m g (ctlOkM c))])), (14, d.val), (15, (.bool (chOkM B.m g (ctlOkM c)))), (7, (.bool (chOkM B.m g (ctlOkM c))))]) ?_ ?_
  · refine wp_region_held (S := (fun w' => Rw w' bB 28 (barr B) ∧ Rw w' bC 37 ([.int .i64 c.traps, .int .i64 c.post, .bool c.opn] : List Value).toArray)) (by kernel_rfl) ?_
    replace H := H.drew
    refine tkH (i := 0) rfl .here (yields_loads_R rfl rfl rfl (fun _ hS => hS.1) (by repeat constructor)) ⟨H.rw_ (by repeat constructor), H.rw_ (by repeat constructor)⟩ ?_
    (try go_frame)
    refine tkH (i := 1) rfl (.of rfl) (yields_val (v := (.int .i64 g)) rfl (fun _ => by go_simp)) ⟨H.rw_ (by repeat constructor), H.rw_ (by repeat constructor)⟩ ?_
    (try go_frame)
    refine tkH (i := 2) rfl (.of rfl) (yields_loads_R rfl rfl rfl (fun _ hS => hS.2) (by repeat constructor)) ⟨H.rw_ (by repeat constructor), H.rw_ (by repeat constructor)⟩ ?_
    (try go_frame)
    refine tkH (i := 4) rfl (.of rfl) (yields_val (v := (.func (.func 90) #[] #[.pointer (some ⟨bC, 0, none⟩)])) rfl (fun _ => by go_simp)) ⟨H.rw_ (by repeat constructor), H.rw_ (by repeat constructor)⟩ ?_
    (try go_frame)
    refine anyH_1 (i := 3) (by kernel_rfl) ?_
    refine wpOp_at rfl (.of rfl) rfl ?_
    refine wp_call_H Tryz.f89 rfl rfl Tryz.func89 (by kernel_rfl) rfl rfl (below_v H (ctlOk_c c _)) ?_
    clear H
    rintro _ w ⟨rfl, H⟩
    refine ⟨⟨H.rw_ (by repeat constructor), H.rw_ (by repeat constructor)⟩, ?_⟩
    (try go_frame)
    refine anyH_1 (i := 5) (by kernel_rfl) ?_
    refine wpOp_at rfl (.of rfl) rfl ?_
    refine wp_call_H Tryz.f71 rfl rfl Tryz.func71 (by kernel_rfl) rfl rfl (made_H (val := fun d : BV => .tuple #[d.val, .bool (chOkM B.m g (ctlOkM c))]) H (changed_c B g (ctlOkM c) 90 Tryz.f90 Tryz.func90 (by kernel_rfl) #[.pointer (some ⟨bC, 0, none⟩)] (ctlG c) _ (R.at_ H) Z (by unfold ctlG; exact Nat.le_trans (gAtM_size B.m g) Z) (fun x _ hb Rx Zx => bareCtl1_c x c bC _ Rx Zx ((H.rw_ (cs := [.int .i64 c.traps, .int .i64 c.post, .bool c.opn]) (by repeat constructor)).below_ hb)))) ?_
    clear H
    rintro _ w ⟨d, rfl, HD, H⟩
    refine ⟨⟨H.rw_ (by repeat constructor), H.rw_ (by repeat constructor)⟩, ?_⟩
    (try go_frame)
    refine anyH_2 (i := 6) (j := 7) (by kernel_rfl) ?_ ?_
    · refine wpOp_at rfl (.of rfl) rfl ?_
      refine wp_of_val (v := d.val) (by go_simp) ?_
      refine ⟨⟨H.rw_ (by repeat constructor), H.rw_ (by repeat constructor)⟩, ?_⟩
      (try go_frame)
      refine anyH_1 (i := 7) (by kernel_rfl) ?_
      refine wpOp_at rfl (.of rfl) rfl ?_
      refine wp_of_val (v := (.bool (chOkM B.m g (ctlOkM c)))) (by go_simp) ?_
      refine ⟨⟨H.rw_ (by repeat constructor), H.rw_ (by repeat constructor)⟩, ?_⟩
      (try go_frame)
      refine anyH_1 (i := 8) (by kernel_rfl) ?_
      refine wpOp_at rfl (.of rfl) rfl ?_
      refine wp_store_H rfl H rfl rfl (by repeat constructor) ?_
      clear H
      intro w H
      refine ⟨⟨H.rw_ (by repeat constructor), H.rw_ (by repeat constructor)⟩, ?_⟩
      (try go_frame)
      refine anyH_1 (i := 9) (by kernel_rfl) ?_
      refine wpOp_at rfl (.of rfl) rfl ?_
      refine wp_assign_H rfl ?_
      refine ⟨⟨H.rw_ (by repeat constructor), H.rw_ (by repeat constructor)⟩, ?_⟩
      (try go_frame)
      refine wpAnyH_done (by kernel_rfl) ?_ _
      exact ⟨rfl, d, HD, H.pick (.cons (by repeat constructor) (.cons (by repeat constructor) .nil)), by first | (simp only [puts_cons, puts_nil, Act.put, List.setIfInBounds_toArray, List.set_cons_succ, List.set_cons_zero]; done) | (simp only [puts_cons, puts_nil, Act.put, List.setIfInBounds_toArray, List.set_cons_succ, List.set_cons_zero]; rfl)⟩
    · refine wpOp_at rfl (.of rfl) rfl ?_
      refine wp_of_val (v := (.bool (chOkM B.m g (ctlOkM c)))) (by go_simp) ?_
      refine ⟨⟨H.rw_ (by repeat constructor), H.rw_ (by repeat constructor)⟩, ?_⟩
      (try go_frame)
      refine anyH_1 (i := 6) (by kernel_rfl) ?_
      refine wpOp_at rfl (.of rfl) rfl ?_
      refine wp_of_val (v := d.val) (by go_simp) ?_
      refine ⟨⟨H.rw_ (by repeat constructor), H.rw_ (by repeat constructor)⟩, ?_⟩
      (try go_frame)
      refine anyH_1 (i := 8) (by kernel_rfl) ?_
      refine wpOp_at rfl (.of rfl) rfl ?_
      refine wp_store_H rfl H rfl rfl (by repeat constructor) ?_
      clear H
      intro w H
      refine ⟨⟨H.rw_ (by repeat constructor), H.rw_ (by repeat constructor)⟩, ?_⟩
      (try go_frame)
      refine anyH_1 (i := 9) (by kernel_rfl) ?_
      refine wpOp_at rfl (.of rfl) rfl ?_
      refine wp_assign_H rfl ?_
      refine ⟨⟨H.rw_ (by repeat constructor), H.rw_ (by repeat constructor)⟩, ?_⟩
      (try go_frame)
      refine wpAnyH_done (by kernel_rfl) ?_ _
      exact ⟨rfl, d, HD, H.pick (.cons (by repeat constructor) (.cons (by repeat constructor) .nil)), by first | (simp only [puts_cons, puts_nil, Act.put, List.setIfInBounds_toArray, List.set_cons_succ, List.set_cons_zero]; done) | (simp only [puts_cons, puts_nil, Act.put, List.setIfInBounds_toArray, List.set_cons_succ, List.set_cons_zero]; rfl)⟩
  clear H
  rintro u w ⟨d, HD, H, rfl⟩
  simp only [puts_cons, puts_nil, Act.put, List.setIfInBounds_toArray, List.set_cons_succ, List.set_cons_zero]
  go_wp2_with (first
    | go_skip
    | ((with_reducible refine at_box ?_); first | (refine wpList_box_H rfl rfl H rfl (by constructor) ?_; clear H; intro b w H))
    | ((with_reducible refine at_alloc ?_); first | (refine wpList_alloc_H rfl rfl H ?_; clear H; intro b w H))
    | ((with_reducible refine at_load ?_); first | (refine wpList_load_H rfl rfl H rfl (by repeat constructor) ?_) | (refine wpList_loads_H rfl rfl H rfl (by repeat constructor) ?_))
    | ((with_reducible refine at_store ?_); first | (refine wpList_store_H rfl rfl H rfl rfl (by repeat constructor) ?_; clear H; intro w H)))
  refine bodyPost_ret (results_H2 rfl H rfl (by repeat constructor)) rfl ⟨d, rfl, HD.out, H.pick (.cons (by repeat constructor) .nil)⟩
set_option maxRecDepth 100000 in
set_option maxHeartbeats 4000000 in
theorem specBareCtl_c (B : BV) (g : Int) (c : Ctl) (W0 : World) (R : BRd W0 B) (Z : BBig B) : Calls Tryz.prog 19 #[B.val, .int .i64 g, c.val] W0 fun e w' => ∃ d : BV, e = .returned (.tuple #[d.val, .bool (chOkM B.m g (ctlOkM c))]) ∧ d.m = changedM B.m g (ctlOkM c) (ctlG c) ∧ Hp W0 w' [.bare d] := by
  have ho : chOkM B.m g (ctlOkM c) = ((bareOkM B.m && hasM B.m g) && ctlOkM c) := rfl
  cases e1 : (bareOkM B.m && hasM B.m g) <;> cases e2 : ctlOkM c
  case true.true =>
    rw [e1, e2] at ho
    have hg : 0 ≤ g ∧ g < B.gs.xs.length := by simp only [Bool.and_eq_true] at e1; simpa [hasM, hasB, BV.m, gsOf] using e1.2
    obtain ⟨k, rfl⟩ := Int.eq_ofNat_of_zero_le hg.1
    have hk : k < B.gs.xs.length := by omega
    clear hg
    have HO := Lib.hid ho
    clear ho
    have H := Hp.start W0
    go_enter Tryz.func19, Tryz.ntmps19
    go_wp2_with (first
      | go_skip
      | ((with_reducible refine at_box ?_); first | (refine wpList_box_H (cs := (barr B).toList) rfl rfl H rfl CellsOf.agg ?_; clear H; intro bB w H) | (refine wpList_box_H rfl rfl H rfl (by constructor) ?_; clear H; intro bC w H))
      | ((with_reducible refine at_alloc ?_); first | ((with_reducible refine at_dst 6 ?_); refine wpList_alloc_H rfl rfl H ?_; clear H; intro bR w H) | (refine wpList_alloc_H rfl rfl H ?_; clear H; intro bO w H))
      | ((with_reducible refine at_load ?_); first | (refine wpList_load_H rfl rfl H rfl (by repeat constructor) ?_) | (refine wpList_loads_H rfl rfl H rfl (by repeat constructor) ?_))
      | ((with_reducible refine at_store ?_); first | (refine wpList_store_el (enc := GV.cells) (sz := 15) rfl rfl H d.gs (by repeat constructor) g_len rfl rfl y ⟨y.prog, y.a, y.pc, y.written, y.live, c, y.pending, y.exit, y.halted, y.seen⟩ HK.out (by constructor) (by repeat constructor) (by exact rfl) (by exact rfl) (by exact rfl) ?_; clear H; intro w H) | (refine wpList_store_H rfl rfl H rfl rfl (by repeat constructor) ?_; clear H; intro w H))
      | ((with_reducible refine at_index ?_); first | (refine wpList_index_n rfl rfl d.gs (H.rdgsl (by repeat constructor)) rfl rfl rfl (by rw [m_glen HD]; exact hk) ?_))
      | (go_at_call 76; refine (l17Copy_c B _ (R.at_ H) Z).mono ?_; rintro e w ⟨d, rfl, x1, K⟩; have HD := Lib.hid x1; clear x1; have Zd := m_big HD Z; replace H := (H.add_all K); clear K; obtain ⟨y, hy⟩ : ∃ y, d.gs.xs[k]? = some y := ⟨_, List.getElem?_eq_getElem (by rw [m_glen HD]; exact hk)⟩; have HK := Lib.hid hy; clear hy; skip)
      | (go_at_call 77; refine (l19Is_c d k _ (H.brd (by repeat constructor)) Zd).mono ?_; rintro e w ⟨he, K⟩; rw [HD.out, e1] at he; subst he; replace H := H.add_all K; clear K; replace H := (H.take (e := .bare d) (by repeat constructor)).bparts)
      | (go_at_call 91; refine (specCtlOk_c c _).mono ?_; rintro e w ⟨he, K⟩; rw [e2] at he; subst he; replace H := H.still K; clear K))
    replace H := (H.take (e := .many En.gst d.gs.xs) (by repeat constructor)).gst_scal HK.out y.a y.pc c y.pending y.exit y.halted
    refine bodyPost_ret (results_H2 rfl H rfl (by repeat constructor)) rfl ⟨⟨d.mem, ⟨d.gs.A, d.gs.c, d.gs.xs.set k ⟨y.prog, y.a, y.pc, y.written, y.live, c, y.pending, y.exit, y.halted, y.seen⟩⟩, d.outs, d.pend⟩, by rw [HO.out]; simp [BV.val], ?_, H.bare5 (.cons (by repeat constructor) (.cons (by repeat constructor) (.cons (by repeat constructor) (.cons (by repeat constructor) (.cons (by repeat constructor) .nil))))) rfl rfl⟩
    rw [ch_hit (by rw [HO.out]; rfl), ← HD.out, wg_hit HK.out]
    simp only [BV.m, gsOf, List.map_set]; rfl
  all_goals
    rw [e1, e2] at ho
    have HO := Lib.hid ho
    clear ho
    have H := Hp.start W0
    go_enter Tryz.func19, Tryz.ntmps19
    go_wp2_with (first
      | go_skip
      | ((with_reducible refine at_box ?_); first | (refine wpList_box_H (cs := (barr B).toList) rfl rfl H rfl CellsOf.agg ?_; clear H; intro bB w H) | (refine wpList_box_H rfl rfl H rfl (by constructor) ?_; clear H; intro bC w H))
      | ((with_reducible refine at_alloc ?_); first | ((with_reducible refine at_dst 6 ?_); refine wpList_alloc_H rfl rfl H ?_; clear H; intro bR w H) | (refine wpList_alloc_H rfl rfl H ?_; clear H; intro bO w H))
      | ((with_reducible refine at_load ?_); first | (refine wpList_load_H rfl rfl H rfl (by repeat constructor) ?_) | (refine wpList_loads_H rfl rfl H rfl (by repeat constructor) ?_))
      | ((with_reducible refine at_store ?_); first | (refine wpList_store_H rfl rfl H rfl rfl (by repeat constructor) ?_; clear H; intro w H))
      | (go_at_call 76; refine (l17Copy_c B _ (R.at_ H) Z).mono ?_; rintro e w ⟨d, rfl, x1, K⟩; have HD := Lib.hid x1; clear x1; have Zd := m_big HD Z; replace H := (H.add_all K); clear K)
      | (go_at_call 77; refine (l19Is_c d g _ (H.brd (by repeat constructor)) Zd).mono ?_; rintro e w ⟨he, K⟩; rw [HD.out, e1] at he; subst he; replace H := H.add_all K; clear K)
      | (go_at_call 91; refine (specCtlOk_c c _).mono ?_; rintro e w ⟨he, K⟩; rw [e2] at he; subst he; replace H := H.still K; clear K))
    refine bodyPost_ret (results_H2 rfl H rfl (by repeat constructor)) rfl ⟨d, by rw [HO.out]; rfl, by unfold changedM; rw [HO.out]; exact HD.out, H.pick (.cons (by repeat constructor) .nil)⟩
end Go.Proofs.YtaafnenmdombiaaGreat
