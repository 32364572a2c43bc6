/- Contracts of BareCtl and BareInject, of the program and of the reference. No condition but that the arguments lie in memory. -/
import Derived.Test.YtjiiobliadeldaaBy
namespace Go.Proofs.Ytjiiobliadeldaa
set_option linter.unusedSimpArgs false
set_option linter.unusedVariables false
open Go.RowKit
section
variable {w0 w : World} {L : List En} {l l1 l2 : List GV} {k : Nat} {y : GV}
theorem Hp.gst_open (hr : l[k]? = some y) (H : Hp w0 w (.many En.gst l :: L)) : ∃ l1 l2, l = l1 ++ y :: l2 ∧ l1.length = k ∧ Hp w0 w (.ins y.prog :: .slot y.written :: .slot y.live :: .int y.seen :: .many En.gst l1 :: .many En.gst l2 :: L) := by
  obtain ⟨l1, l2, h1, h2, H1⟩ := Hp.many_at hr H
  exact ⟨l1, l2, h1, h2, H1.slices⟩
theorem Hp.gst_close {p : Sl Ins} {wr lv : Sl Slot} {sn : Sl Int} (a pc : Int) (ctl : Ctl) (pn : Int) (x : Exit) (hd : Bool) (H : Hp w0 w (.ins p :: .slot wr :: .slot lv :: .int sn :: .many En.gst l1 :: .many En.gst l2 :: L)) : Hp w0 w (.many En.gst (l1 ++ ⟨p, a, pc, wr, lv, ctl, pn, x, hd, sn⟩ :: l2) :: L) :=
  Hp.many_join (f := En.gst) (H.guest a pc ctl pn x hd)
theorem set_app {α : Type} {l l1 l2 : List α} {k : Nat} {y : α} (h : l = l1 ++ y :: l2) (h1 : l1.length = k) (x : α) : l.set k x = l1 ++ x :: l2 := by subst h; subst h1; simp
theorem Hp.gst_scal (hr : l[k]? = some y) (a pc : Int) (ctl : Ctl) (pn : Int) (x : Exit) (hd : Bool) (H : Hp w0 w (.many En.gst l :: L)) : Hp w0 w (.many En.gst (l.set k ⟨y.prog, a, pc, y.written, y.live, ctl, pn, x, hd, y.seen⟩) :: L) := by
  obtain ⟨l1, l2, h1, h2, H1⟩ := Hp.gst_open hr H
  rw [set_app h1 h2]
  exact Hp.gst_close a pc ctl pn x hd H1
end
theorem ch_hit {m : MB} {g : Int} {c : Bool} {F : MG → MG} (h : chOkM m g c = true) : changedM m g c F = withGuestM m g (F (gAtM m g)) := by unfold changedM; rw [if_pos h]
theorem wg_hit {B : BV} {k : Nat} {y : GV} (hy : B.gs.xs[k]? = some y) (F : MG → MG) : withGuestM B.m k (F (gAtM B.m k)) = { B.m with guests := B.m.guests.set k (F y.m) } := by
  unfold withGuestM; rw [if_pos (gAtM_hit hy).2, (gAtM_hit hy).1]; rfl
theorem bare_set {d : BV} {gs : Sl GV} {m : MB} (h : d.m = m) : (⟨d.mem, gs, d.outs, d.pend⟩ : BV).m = { m with guests := gsOf gs } := by rw [← h]; rfl
set_option linter.unusedSimpArgs false in
set_option linter.unusedVariables false in
set_option maxRecDepth 100000 in
set_option maxHeartbeats 4000000 in
theorem bareCtl1_c (x : GV) (c : Ctl) (b : Nat) (W0 : World) (R : GRd W0 x) (Z : GBig x) (h5 : Rw W0 b 44 ([.int .i64 c.traps, .int .i64 c.post, .bool c.opn] : List Value).toArray) : Calls Try.prog 81 #[x.val, .pointer (some ⟨b, 0, none⟩)] W0 fun e w' => ∃ y : GV, e = .returned y.val ∧ (y.m = ctlG c x.m ∧ GRd w' y) ∧ Below W0.heap.size W0 w' := by
  have H := Hp.start W0
  go_enter Try.func81, Try.ntmps81
  go_wp2_with (first
    | go_skip
    | ((with_reducible refine at_box ?_); first | (refine wpList_box_H rfl rfl H rfl (by first | exact CellsOf.agg | exact CellsOf.int | exact CellsOf.bool | exact CellsOf.slice | exact CellsOf.string | exact CellsOf.pointer | exact CellsOf.func) ?_; clear H; intro bX w H))
    | ((with_reducible refine at_alloc ?_); first | (refine wpList_alloc_H rfl rfl H ?_; clear H; intro bR w H))
    | ((with_reducible refine at_load ?_); first | (refine wpList_loadsc rfl rfl H rfl h5 (by repeat (first | exact GetsAt.nil | apply GetsAt.here | apply GetsAt.there)) ?_) | (refine wpList_load_H rfl rfl H rfl (by repeat (first | exact LoadAt.here rfl | apply LoadAt.there)) ?_) | (refine wpList_loads_H rfl rfl H rfl (by repeat (first | (apply LoadsAt.here; repeat (first | exact GetsAt.nil | apply GetsAt.here | apply GetsAt.there)) | apply LoadsAt.there)) ?_))
    | ((with_reducible refine at_store ?_); first | (refine wpList_store_H rfl rfl H rfl rfl (by repeat (first | (apply StoreAt.here; (first | exact CellsOf.agg | exact CellsOf.int | exact CellsOf.bool | exact CellsOf.slice | exact CellsOf.string | exact CellsOf.pointer | exact CellsOf.func); (repeat (first | exact SetsAt.nil | apply SetsAt.here | apply SetsAt.there)); exact rfl; exact rfl) | apply StoreAt.there)) ?_; clear H; intro w H)))
  refine bodyPost_ret (results_H rfl H rfl (by repeat (first | (apply LoadsAt.here; repeat (first | exact GetsAt.nil | apply GetsAt.here | apply GetsAt.there)) | apply LoadsAt.there))) rfl ⟨⟨x.prog, x.a, x.pc, x.written, x.live, c, x.pending, x.exit, x.halted, x.seen⟩, rfl, ⟨rfl, ⟨R.prog.at_ H, R.written.at_ H, R.live.at_ H, R.seen.at_ H⟩⟩, H.below⟩
set_option linter.unusedSimpArgs false in
set_option linter.unusedVariables false in
set_option maxRecDepth 100000 in
set_option maxHeartbeats 4000000 in
theorem bareInject1_c (x : GV) (p : Int) (b : Nat) (W0 : World) (R : GRd W0 x) (Z : GBig x) (h5 : Rw W0 b 3 ([.int .i64 p] : List Value).toArray) : Calls Try.prog 79 #[x.val, .pointer (some ⟨b, 0, none⟩)] W0 fun e w' => ∃ y : GV, e = .returned y.val ∧ (y.m = injectG p x.m ∧ GRd w' y) ∧ Below W0.heap.size W0 w' := by
  have H := Hp.start W0
  go_enter Try.func79, Try.ntmps79
  go_wp2_with (first
    | go_skip
    | ((with_reducible refine at_box ?_); first | (refine wpList_box_H rfl rfl H rfl (by first | exact CellsOf.agg | exact CellsOf.int | exact CellsOf.bool | exact CellsOf.slice | exact CellsOf.string | exact CellsOf.pointer | exact CellsOf.func) ?_; clear H; intro bX w H))
    | ((with_reducible refine at_alloc ?_); first | (refine wpList_alloc_H rfl rfl H ?_; clear H; intro bR w H))
    | ((with_reducible refine at_load ?_); first | (refine wpList_loadc rfl rfl H rfl h5 rfl ?_) | (refine wpList_load_H rfl rfl H rfl (by repeat (first | exact LoadAt.here rfl | apply LoadAt.there)) ?_) | (refine wpList_loads_H rfl rfl H rfl (by repeat (first | (apply LoadsAt.here; repeat (first | exact GetsAt.nil | apply GetsAt.here | apply GetsAt.there)) | apply LoadsAt.there)) ?_))
    | ((with_reducible refine at_store ?_); first | (refine wpList_store_H rfl rfl H rfl rfl (by repeat (first | (apply StoreAt.here; (first | exact CellsOf.agg | exact CellsOf.int | exact CellsOf.bool | exact CellsOf.slice | exact CellsOf.string | exact CellsOf.pointer | exact CellsOf.func); (repeat (first | exact SetsAt.nil | apply SetsAt.here | apply SetsAt.there)); exact rfl; exact rfl) | apply StoreAt.there)) ?_; clear H; intro w H)))
  refine bodyPost_ret (results_H rfl H rfl (by repeat (first | (apply LoadsAt.here; repeat (first | exact GetsAt.nil | apply GetsAt.here | apply GetsAt.there)) | apply LoadsAt.there))) rfl ⟨⟨x.prog, x.a, x.pc, x.written, x.live, x.ctl, p, x.exit, x.halted, x.seen⟩, rfl, ⟨rfl, ⟨R.prog.at_ H, R.written.at_ H, R.live.at_ H, R.seen.at_ H⟩⟩, H.below⟩
theorem below_v {P : Program} {f : FuncId} {args : Array Value} {w0 w : World} {L : List En} {v : Value} (H : Hp w0 w L) (h : Calls P f args w (fun e w' => e = .returned v ∧ Below w.heap.size w w')) : Calls P f args w (fun e w' => ∃ u, e = .returned u ∧ (u = v ∧ Hp w0 w' L)) :=
  h.mono fun _ _ ⟨he, hb⟩ => ⟨_, he, rfl, H.still hb⟩
theorem same_v {P : Program} {f : FuncId} {args : Array Value} {w0 w : World} {L : List En} {v : Value} (H : Hp w0 w L) (h : Calls P f args w (fun e w' => e = .returned v ∧ w = w')) : Calls P f args w (fun e w' => ∃ u, e = .returned u ∧ (u = v ∧ Hp w0 w' L)) :=
  h.mono fun _ _ ⟨he, hw⟩ => ⟨_, he, rfl, hw ▸ H⟩
set_option linter.unusedSimpArgs false in
set_option linter.unusedVariables false in
set_option maxRecDepth 100000 in
set_option maxHeartbeats 4000000 in
theorem bareCtl_c (B : BV) (g : Int) (c : Ctl) (W0 : World) (R : BRd W0 B) (Z : BBig B) : Calls Try.prog 29 #[B.val, .int .i64 g, c.val] W0 fun e w' => ∃ d : BV, e = .returned (.tuple #[d.val, .bool (chOkM B.m g (ctlOkM c))]) ∧ d.m = changedM B.m g (ctlOkM c) (ctlG c) ∧ Hp W0 w' [.bare d] := by
  have H := Hp.start W0
  go_enter Try.func29, Try.ntmps29
  go_wp2_with (first
    | go_skip
    | ((with_reducible refine at_box ?_); first | (refine wpList_box_H (cs := (barr B).toList) rfl rfl H rfl CellsOf.agg ?_; clear H; intro bB w H) | (refine wpList_box_H rfl rfl H rfl (by first | exact CellsOf.agg | exact CellsOf.int | exact CellsOf.bool | exact CellsOf.slice | exact CellsOf.string | exact CellsOf.pointer | exact CellsOf.func) ?_; clear H; intro bC w H))
    | ((with_reducible refine at_alloc ?_); first | (refine wpList_alloc_H rfl rfl H ?_; clear H; intro bR w H))
    | ((with_reducible refine at_load ?_); first | (refine wpList_load_H rfl rfl H rfl (by repeat (first | exact LoadAt.here rfl | apply LoadAt.there)) ?_) | (refine wpList_loads_H rfl rfl H rfl (by repeat (first | (apply LoadsAt.here; repeat (first | exact GetsAt.nil | apply GetsAt.here | apply GetsAt.there)) | apply LoadsAt.there)) ?_))
    | ((with_reducible refine at_store ?_); first | (refine wpList_store_H rfl rfl H rfl rfl (by repeat (first | (apply StoreAt.here; (first | exact CellsOf.agg | exact CellsOf.int | exact CellsOf.bool | exact CellsOf.slice | exact CellsOf.string | exact CellsOf.pointer | exact CellsOf.func); (repeat (first | exact SetsAt.nil | apply SetsAt.here | apply SetsAt.there)); exact rfl; exact rfl) | apply StoreAt.there)) ?_; clear H; intro w H)))
  refine wp_cut (fun u a' w' => ∃ (d : BV), Hid (d.m = changedM B.m g (ctlOkM c) (ctlG c)) ∧ Hp W0 w' [.bare d, .box bR 31 (barr d).toList] ∧ a' = puts u [(8, B.val), (9, (.int .i64 g)), (10, c.val), (11, (.bool (ctlOkM c))), (12, (.func (.func 81) #[] #[.pointer (some ⟨bC, 0, none⟩)])), (13, (.tuple #[d.val, .bool (chOkM B.m g (ctlOkM c))])), (14, d.val), (15, (.bool (chOkM B.m g (ctlOkM c)))), (7, (.bool (chOkM B.m g (ctlOkM c))))]) ?_ ?_
  · refine wp_region_held (S := (fun w' => Rw w' bB 31 (barr B) ∧ Rw w' bC 44 ([.int .i64 c.traps, .int .i64 c.post, .bool c.opn] : List Value).toArray)) (by kernel_rfl) ?_
    replace H := H.drew
    refine takeH (i := 0) rfl .here (by kernel_rfl) (by kernel_rfl) (by kernel_rfl) (fun _ _ _ h => absurd h.1 (by simp)) (yields_loads_R rfl rfl rfl (fun _ hS => hS.1) (by repeat (first | exact GetsAt.nil | apply GetsAt.here | apply GetsAt.there))) ⟨H.rw_ (by repeat (first | exact Take.head | apply Take.tail)), H.rw_ (by repeat (first | exact Take.head | apply Take.tail))⟩ ?_
    (try simp only [Act.put, List.setIfInBounds_toArray, List.set_cons_succ, List.set_cons_zero])
    refine takeH (i := 1) rfl (.there .here) (by kernel_rfl) (by kernel_rfl) (by kernel_rfl) (fun _ _ _ h => absurd h.1 (by simp)) (yields_val (v := (.int .i64 g)) rfl (fun _ => by go_simp)) ⟨H.rw_ (by repeat (first | exact Take.head | apply Take.tail)), H.rw_ (by repeat (first | exact Take.head | apply Take.tail))⟩ ?_
    (try simp only [Act.put, List.setIfInBounds_toArray, List.set_cons_succ, List.set_cons_zero])
    refine takeH (i := 2) rfl (.there (.there .here)) (by kernel_rfl) (by kernel_rfl) (by kernel_rfl) (fun _ _ _ h => absurd h.1 (by simp)) (yields_loads_R rfl rfl rfl (fun _ hS => hS.2) (by repeat (first | exact GetsAt.nil | apply GetsAt.here | apply GetsAt.there))) ⟨H.rw_ (by repeat (first | exact Take.head | apply Take.tail)), H.rw_ (by repeat (first | exact Take.head | apply Take.tail))⟩ ?_
    (try simp only [Act.put, List.setIfInBounds_toArray, List.set_cons_succ, List.set_cons_zero])
    refine takeH (i := 4) rfl (.there (.there (.there (.there .here)))) (by kernel_rfl) (by kernel_rfl) (by kernel_rfl) (fun _ _ _ h => absurd h.1 (by simp)) (yields_val (v := (.func (.func 81) #[] #[.pointer (some ⟨bC, 0, none⟩)])) rfl (fun _ => by go_simp)) ⟨H.rw_ (by repeat (first | exact Take.head | apply Take.tail)), H.rw_ (by repeat (first | exact Take.head | apply Take.tail))⟩ ?_
    (try simp only [Act.put, List.setIfInBounds_toArray, List.set_cons_succ, List.set_cons_zero])
    refine anyH_1 (i := 3) (by kernel_rfl) ?_
    refine wpOp_at rfl (.there (.there (.there .here))) rfl ?_
    refine wp_call_H Try.f80 rfl rfl Try.func80 (by kernel_rfl) rfl rfl (below_v H (ctlOk_c c _)) ?_
    clear H
    rintro _ w ⟨rfl, H⟩
    refine ⟨⟨H.rw_ (by repeat (first | exact Take.head | apply Take.tail)), H.rw_ (by repeat (first | exact Take.head | apply Take.tail))⟩, ?_⟩
    (try simp only [Act.put, List.setIfInBounds_toArray, List.set_cons_succ, List.set_cons_zero])
    refine anyH_1 (i := 5) (by kernel_rfl) ?_
    refine wpOp_at rfl (.there (.there (.there (.there (.there .here))))) rfl ?_
    refine wp_call_H Try.f36 rfl rfl Try.func36 (by kernel_rfl) rfl rfl (made_H (val := fun d : BV => .tuple #[d.val, .bool (chOkM B.m g (ctlOkM c))]) H (changed_c B g (ctlOkM c) 81 Try.f81 Try.func81 (by kernel_rfl) #[.pointer (some ⟨bC, 0, none⟩)] (ctlG c) _ (R.at_ H) Z (by unfold ctlG; exact Nat.le_trans (gAtM_size B.m g) Z) (fun x _ hb Rx Zx => bareCtl1_c x c bC _ Rx Zx ((H.rw_ (cs := [.int .i64 c.traps, .int .i64 c.post, .bool c.opn]) (by repeat (first | exact Take.head | apply Take.tail))).below_ hb)))) ?_
    clear H
    rintro _ w ⟨d, rfl, HD, H⟩
    refine ⟨⟨H.rw_ (by repeat (first | exact Take.head | apply Take.tail)), H.rw_ (by repeat (first | exact Take.head | apply Take.tail))⟩, ?_⟩
    (try simp only [Act.put, List.setIfInBounds_toArray, List.set_cons_succ, List.set_cons_zero])
    refine anyH_2 (i := 6) (j := 7) (by kernel_rfl) ?_ ?_
    · refine wpOp_at rfl (.there (.there (.there (.there (.there (.there .here)))))) rfl ?_
      refine wp_of_val (v := d.val) (by go_simp) ?_
      refine ⟨⟨H.rw_ (by repeat (first | exact Take.head | apply Take.tail)), H.rw_ (by repeat (first | exact Take.head | apply Take.tail))⟩, ?_⟩
      (try simp only [Act.put, List.setIfInBounds_toArray, List.set_cons_succ, List.set_cons_zero])
      refine anyH_1 (i := 7) (by kernel_rfl) ?_
      refine wpOp_at rfl (.there (.there (.there (.there (.there (.there (.there .here))))))) rfl ?_
      refine wp_of_val (v := (.bool (chOkM B.m g (ctlOkM c)))) (by go_simp) ?_
      refine ⟨⟨H.rw_ (by repeat (first | exact Take.head | apply Take.tail)), H.rw_ (by repeat (first | exact Take.head | apply Take.tail))⟩, ?_⟩
      (try simp only [Act.put, List.setIfInBounds_toArray, List.set_cons_succ, List.set_cons_zero])
      refine anyH_1 (i := 8) (by kernel_rfl) ?_
      refine wpOp_at rfl (.there (.there (.there (.there (.there (.there (.there (.there .here)))))))) rfl ?_
      refine wp_store_H rfl H rfl rfl (by repeat (first | (apply StoreAt.here; (first | exact CellsOf.agg | exact CellsOf.int | exact CellsOf.bool | exact CellsOf.slice | exact CellsOf.string | exact CellsOf.pointer | exact CellsOf.func); (repeat (first | exact SetsAt.nil | apply SetsAt.here | apply SetsAt.there)); exact rfl; exact rfl) | apply StoreAt.there)) ?_
      clear H
      intro w H
      refine ⟨⟨H.rw_ (by repeat (first | exact Take.head | apply Take.tail)), H.rw_ (by repeat (first | exact Take.head | apply Take.tail))⟩, ?_⟩
      (try simp only [Act.put, List.setIfInBounds_toArray, List.set_cons_succ, List.set_cons_zero])
      refine anyH_1 (i := 9) (by kernel_rfl) ?_
      refine wpOp_at rfl (.there (.there (.there (.there (.there (.there (.there (.there (.there .here))))))))) rfl ?_
      refine wp_assign_H rfl ?_
      refine ⟨⟨H.rw_ (by repeat (first | exact Take.head | apply Take.tail)), H.rw_ (by repeat (first | exact Take.head | apply Take.tail))⟩, ?_⟩
      (try simp only [Act.put, List.setIfInBounds_toArray, List.set_cons_succ, List.set_cons_zero])
      refine wpAnyH_done (by kernel_rfl) ?_ _
      exact ⟨rfl, d, HD, H.pick (.cons (by repeat (first | exact Take.head | apply Take.tail)) (.cons (by repeat (first | exact Take.head | apply Take.tail)) .nil)), by first | (simp only [puts_cons, puts_nil, Act.put, List.setIfInBounds_toArray, List.set_cons_succ, List.set_cons_zero]; done) | (simp only [puts_cons, puts_nil, Act.put, List.setIfInBounds_toArray, List.set_cons_succ, List.set_cons_zero]; rfl)⟩
    · refine wpOp_at rfl (.there (.there (.there (.there (.there (.there (.there .here))))))) rfl ?_
      refine wp_of_val (v := (.bool (chOkM B.m g (ctlOkM c)))) (by go_simp) ?_
      refine ⟨⟨H.rw_ (by repeat (first | exact Take.head | apply Take.tail)), H.rw_ (by repeat (first | exact Take.head | apply Take.tail))⟩, ?_⟩
      (try simp only [Act.put, List.setIfInBounds_toArray, List.set_cons_succ, List.set_cons_zero])
      refine anyH_1 (i := 6) (by kernel_rfl) ?_
      refine wpOp_at rfl (.there (.there (.there (.there (.there (.there .here)))))) rfl ?_
      refine wp_of_val (v := d.val) (by go_simp) ?_
      refine ⟨⟨H.rw_ (by repeat (first | exact Take.head | apply Take.tail)), H.rw_ (by repeat (first | exact Take.head | apply Take.tail))⟩, ?_⟩
      (try simp only [Act.put, List.setIfInBounds_toArray, List.set_cons_succ, List.set_cons_zero])
      refine anyH_1 (i := 8) (by kernel_rfl) ?_
      refine wpOp_at rfl (.there (.there (.there (.there (.there (.there (.there (.there .here)))))))) rfl ?_
      refine wp_store_H rfl H rfl rfl (by repeat (first | (apply StoreAt.here; (first | exact CellsOf.agg | exact CellsOf.int | exact CellsOf.bool | exact CellsOf.slice | exact CellsOf.string | exact CellsOf.pointer | exact CellsOf.func); (repeat (first | exact SetsAt.nil | apply SetsAt.here | apply SetsAt.there)); exact rfl; exact rfl) | apply StoreAt.there)) ?_
      clear H
      intro w H
      refine ⟨⟨H.rw_ (by repeat (first | exact Take.head | apply Take.tail)), H.rw_ (by repeat (first | exact Take.head | apply Take.tail))⟩, ?_⟩
      (try simp only [Act.put, List.setIfInBounds_toArray, List.set_cons_succ, List.set_cons_zero])
      refine anyH_1 (i := 9) (by kernel_rfl) ?_
      refine wpOp_at rfl (.there (.there (.there (.there (.there (.there (.there (.there (.there .here))))))))) rfl ?_
      refine wp_assign_H rfl ?_
      refine ⟨⟨H.rw_ (by repeat (first | exact Take.head | apply Take.tail)), H.rw_ (by repeat (first | exact Take.head | apply Take.tail))⟩, ?_⟩
      (try simp only [Act.put, List.setIfInBounds_toArray, List.set_cons_succ, List.set_cons_zero])
      refine wpAnyH_done (by kernel_rfl) ?_ _
      exact ⟨rfl, d, HD, H.pick (.cons (by repeat (first | exact Take.head | apply Take.tail)) (.cons (by repeat (first | exact Take.head | apply Take.tail)) .nil)), by first | (simp only [puts_cons, puts_nil, Act.put, List.setIfInBounds_toArray, List.set_cons_succ, List.set_cons_zero]; done) | (simp only [puts_cons, puts_nil, Act.put, List.setIfInBounds_toArray, List.set_cons_succ, List.set_cons_zero]; rfl)⟩
  clear H
  rintro u w ⟨d, HD, H, rfl⟩
  simp only [puts_cons, puts_nil, Act.put, List.setIfInBounds_toArray, List.set_cons_succ, List.set_cons_zero]
  go_wp2_with (first
    | go_skip
    | ((with_reducible refine at_box ?_); first | (refine wpList_box_H rfl rfl H rfl (by first | exact CellsOf.agg | exact CellsOf.int | exact CellsOf.bool | exact CellsOf.slice | exact CellsOf.string | exact CellsOf.pointer | exact CellsOf.func) ?_; clear H; intro b w H))
    | ((with_reducible refine at_alloc ?_); first | (refine wpList_alloc_H rfl rfl H ?_; clear H; intro b w H))
    | ((with_reducible refine at_load ?_); first | (refine wpList_load_H rfl rfl H rfl (by repeat (first | exact LoadAt.here rfl | apply LoadAt.there)) ?_) | (refine wpList_loads_H rfl rfl H rfl (by repeat (first | (apply LoadsAt.here; repeat (first | exact GetsAt.nil | apply GetsAt.here | apply GetsAt.there)) | apply LoadsAt.there)) ?_))
    | ((with_reducible refine at_store ?_); first | (refine wpList_store_H rfl rfl H rfl rfl (by repeat (first | (apply StoreAt.here; (first | exact CellsOf.agg | exact CellsOf.int | exact CellsOf.bool | exact CellsOf.slice | exact CellsOf.string | exact CellsOf.pointer | exact CellsOf.func); (repeat (first | exact SetsAt.nil | apply SetsAt.here | apply SetsAt.there)); exact rfl; exact rfl) | apply StoreAt.there)) ?_; clear H; intro w H)))
  refine bodyPost_ret (results_H2 rfl H rfl (by repeat (first | (apply LoadsAt.here; repeat (first | exact GetsAt.nil | apply GetsAt.here | apply GetsAt.there)) | apply LoadsAt.there))) rfl ⟨d, rfl, HD.out, H.pick (.cons (by repeat (first | exact Take.head | apply Take.tail)) .nil)⟩
end Go.Proofs.Ytjiiobliadeldaa
