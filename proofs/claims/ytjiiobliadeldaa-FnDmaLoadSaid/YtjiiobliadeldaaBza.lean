/- Contracts of BareInject, BareFlush and BareSet, of the program and of the reference. No condition but that the arguments lie in memory. -/
import Derived.Test.YtjiiobliadeldaaBz
import Derived.Test.YtjiiobliadeldaaDl
namespace Go.Proofs.Ytjiiobliadeldaa
set_option linter.unusedSimpArgs false
set_option linter.unusedVariables false
open Go.RowKit
theorem list_set_same {α : Type} {l : List α} {k : Nat} {y : α} (h : l[k]? = some y) : l.set k y = l := by
  apply List.ext_getElem?
  intro i
  by_cases hi : k = i
  · subst hi; rw [List.getElem?_set_self (List.getElem?_eq_some_iff.1 h).1, h]
  · rw [List.getElem?_set_ne hi]
theorem ch_miss {m : MB} {g : Int} {c : Bool} {F : MG → MG} (h : chOkM m g c = false) : changedM m g c F = m := by unfold changedM; rw [h]; rfl
def injC (m : MB) (g n : Int) : Bool := postOkM (gAtM m g).pending n
def injF (m : MB) (g n : Int) : MG → MG := injectG (postM (gAtM m g).pending n)
set_option linter.unusedSimpArgs false in
set_option linter.unusedVariables false in
set_option maxRecDepth 100000 in
set_option maxHeartbeats 4000000 in
theorem bareInject_c (B : BV) (g n : Int) (W0 : World) (R : BRd W0 B) (Z : BBig B) : Calls Try.prog 28 #[B.val, .int .i64 g, .int .i64 n] W0 fun e w' => ∃ d : BV, e = .returned (.tuple #[d.val, .bool (chOkM B.m g (injC B.m g n))]) ∧ d.m = changedM B.m g (injC B.m g n) (injF B.m g n) ∧ Hp W0 w' [.bare d] := by
  obtain ⟨pn, hpn⟩ : ∃ pn, pn = postM (gAtM B.m g).pending n := ⟨_, rfl⟩
  obtain ⟨ok, hok⟩ : ∃ ok, ok = injC B.m g n := ⟨_, rfl⟩
  have HPN : Hid (postM (gAtM B.m g).pending n = pn) := hpn.symm
  have HOK : Hid (postOkM (gAtM B.m g).pending n = ok) := hok.symm
  have HF : injF B.m g n = injectG pn := by unfold injF; rw [← hpn]
  rw [HF, ← hok]
  clear hpn hok HF
  have H := Hp.start W0
  go_enter Try.func28, Try.ntmps28
  go_wp2_with (first
    | go_skip
    | ((with_reducible refine at_box ?_); first | (refine wpList_box_H rfl rfl H rfl (by first | exact CellsOf.agg | exact CellsOf.int | exact CellsOf.bool | exact CellsOf.slice | exact CellsOf.string | exact CellsOf.pointer | exact CellsOf.func) ?_; clear H; intro bB w H))
    | ((with_reducible refine at_alloc ?_); first | ((with_reducible refine at_dst 6 ?_); refine wpList_alloc_H rfl rfl H ?_; clear H; intro bR w H) | ((with_reducible refine at_dst 8 ?_); refine wpList_alloc_H rfl rfl H ?_; clear H; intro bX w H) | ((with_reducible refine at_dst 10 ?_); refine wpList_alloc_H rfl rfl H ?_; clear H; intro bP w H) | (refine wpList_alloc_H rfl rfl H ?_; clear H; intro b w H))
    | ((with_reducible refine at_load ?_); first | (refine wpList_load_H rfl rfl H rfl (by repeat (first | exact LoadAt.here rfl | apply LoadAt.there)) ?_) | (refine wpList_loads_H rfl rfl H rfl (by repeat (first | (apply LoadsAt.here; repeat (first | exact GetsAt.nil | apply GetsAt.here | apply GetsAt.there)) | apply LoadsAt.there)) ?_))
    | ((with_reducible refine at_store ?_); first | (refine wpList_store_H rfl rfl H rfl rfl (by repeat (first | (apply StoreAt.here; (first | exact CellsOf.agg | exact CellsOf.int | exact CellsOf.bool | exact CellsOf.slice | exact CellsOf.string | exact CellsOf.pointer | exact CellsOf.func); (repeat (first | exact SetsAt.nil | apply SetsAt.here | apply SetsAt.there)); exact rfl; exact rfl) | apply StoreAt.there)) ?_; clear H; intro w H))
    | (go_at_call 48; refine (guestAt_c B g _ (R.at_ H) Z).mono ?_; rintro e w ⟨x, rfl, x1, K⟩; have HX := Lib.hid (congrArg MG.pending x1); clear x1; replace H := H.add_all K; clear K)
    | (go_at_call 78; refine (postIrq_c x.pending n _).mono ?_; rintro e w ⟨he, K⟩; rw [show x.pending = (gAtM B.m g).pending from HX.out, HPN.out, HOK.out] at he; subst he; replace H := H.add_all K; clear K)
    | (go_at_call 36; refine (changed_c B g ok 79 Try.f79 Try.func79 (by kernel_rfl) #[.pointer (some ⟨bP, 0, none⟩)] (injectG pn) _ (R.at_ H) Z (by unfold injectG; exact Nat.le_trans (gAtM_size B.m g) Z) (fun x _ hb Rx Zx => bareInject1_c x pn bP _ Rx Zx ((H.rw_ (cs := [.int .i64 pn]) (by repeat (first | exact Take.head | apply Take.tail))).below_ hb))).mono ?_; rintro e w ⟨d, rfl, x1, K⟩; have HD := Lib.hid x1; clear x1; replace H := H.add_all K; clear K))
  refine bodyPost_ret (results_H2 rfl H rfl (by repeat (first | (apply LoadsAt.here; repeat (first | exact GetsAt.nil | apply GetsAt.here | apply GetsAt.there)) | apply LoadsAt.there))) rfl ⟨d, rfl, HD.out, H.pick (.cons (by repeat (first | exact Take.head | apply Take.tail)) .nil)⟩
set_option linter.unusedSimpArgs false in
set_option linter.unusedVariables false in
set_option maxRecDepth 100000 in
set_option maxHeartbeats 4000000 in
theorem bareFlush1_c (x : GV) (p : Int) (b : Nat) (W0 : World) (R : GRd W0 x) (Z : GBig x) (h5 : Rw W0 b 3 ([.int .i64 p] : List Value).toArray) : Calls Try.prog 41 #[x.val, .pointer (some ⟨b, 0, none⟩)] W0 fun e w' => ∃ y : GV, e = .returned y.val ∧ (y.m = flushG p x.m ∧ GRd w' y) ∧ Below W0.heap.size W0 w' := by
  have zw := Z.2.1
  have zl := Z.2.2.1
  unfold big at zw zl
  have H := Hp.start W0
  go_enter Try.func41, Try.ntmps41
  go_wp2_with (first
    | go_skip
    | ((with_reducible refine at_box ?_); first | (refine wpList_box_H rfl rfl H rfl (by first | exact CellsOf.agg | exact CellsOf.int | exact CellsOf.bool | exact CellsOf.slice | exact CellsOf.string | exact CellsOf.pointer | exact CellsOf.func) ?_; clear H; intro bX w H))
    | ((with_reducible refine at_alloc ?_); first | (refine wpList_alloc_H rfl rfl H ?_; clear H; intro bR w H))
    | ((with_reducible refine at_load ?_); first | (refine wpList_load_H rfl rfl H rfl (by repeat (first | exact LoadAt.here rfl | apply LoadAt.there)) ?_) | (refine wpList_loads_H rfl rfl H rfl (by repeat (first | (apply LoadsAt.here; repeat (first | exact GetsAt.nil | apply GetsAt.here | apply GetsAt.there)) | apply LoadsAt.there)) ?_))
    | ((with_reducible refine at_store ?_); first | (refine wpList_store_H rfl rfl H rfl rfl (by repeat (first | (apply StoreAt.here; (first | exact CellsOf.agg | exact CellsOf.int | exact CellsOf.bool | exact CellsOf.slice | exact CellsOf.string | exact CellsOf.pointer | exact CellsOf.func); (repeat (first | exact SetsAt.nil | apply SetsAt.here | apply SetsAt.there)); exact rfl; exact rfl) | apply StoreAt.there)) ?_; clear H; intro w H)))
  refine wp_cut (fun u a' w' => ∃ (t : Sl Slot), Hid (t.xs = withSlotM x.live.xs p (slotAtM x.written.xs p)) ∧ Hp W0 w' [.slot t, .box bX 48 [.slice x.prog.A x.prog.xs.length x.prog.c, .int .i64 x.a, .int .i64 x.pc, .slice x.written.A x.written.xs.length x.written.c, .slice t.A t.xs.length t.c, .int .i64 x.ctl.traps, .int .i64 x.ctl.post, .bool x.ctl.opn, .int .i64 x.pending, .int .i64 x.exit.kind, .int .i64 x.exit.page, .bool x.exit.write, .int .i64 x.exit.n, .bool x.halted, .slice x.seen.A x.seen.xs.length x.seen.c], .box bR 48 [.slice none 0 0, .int .i64 0, .int .i64 0, .slice none 0 0, .slice none 0 0, .int .i64 0, .int .i64 0, .bool false, .int .i64 0, .int .i64 0, .int .i64 0, .bool false, .int .i64 0, .bool false, .slice none 0 0]] ∧ a' = puts u [(4, .pointer (some ⟨bX, 4, none⟩)), (5, .slice x.live.A x.live.xs.length x.live.c), (6, (.int .i64 p)), (7, .pointer (some ⟨bX, 3, none⟩)), (8, .slice x.written.A x.written.xs.length x.written.c), (9, (.int .i64 p)), (10, ((slotAtM x.written.xs p).val)), (11, .slice t.A t.xs.length t.c), (12, .pointer (some ⟨bX, 4, none⟩))]) ?_ ?_
  · refine wp_region_last 9 (S := (fun w' => Rw w' bX 48 (garr x) ∧ Rw w' b 3 ([.int .i64 p] : List Value).toArray)) (by kernel_rfl) ?_
    replace H := H.drew
    refine takeL (i := 0) rfl .here (by kernel_rfl) (by kernel_rfl) (by kernel_rfl) (fun _ _ _ h => absurd h.1 (by simp)) (by kernel_rfl) (yields_val (v := .pointer (some ⟨bX, 4, none⟩)) rfl (fun _ => by go_simp)) ⟨H.rw_ (by repeat (first | exact Take.head | apply Take.tail)), h5.at_ H⟩ ?_
    (try simp only [Act.put, List.setIfInBounds_toArray, List.set_cons_succ, List.set_cons_zero])
    refine takeL (i := 1) rfl (.there .here) (by kernel_rfl) (by kernel_rfl) (by kernel_rfl) (fun _ _ _ h => absurd h.1 (by simp)) (by kernel_rfl) (yields_load1_R rfl rfl rfl (fun _ hS => hS.1) rfl) ⟨H.rw_ (by repeat (first | exact Take.head | apply Take.tail)), h5.at_ H⟩ ?_
    (try simp only [Act.put, List.setIfInBounds_toArray, List.set_cons_succ, List.set_cons_zero])
    refine takeL (i := 2) rfl (.there (.there .here)) (by kernel_rfl) (by kernel_rfl) (by kernel_rfl) (fun _ _ _ h => absurd h.1 (by simp)) (by kernel_rfl) (yields_load1_R rfl rfl rfl (fun _ hS => hS.2) rfl) ⟨H.rw_ (by repeat (first | exact Take.head | apply Take.tail)), h5.at_ H⟩ ?_
    (try simp only [Act.put, List.setIfInBounds_toArray, List.set_cons_succ, List.set_cons_zero])
    refine takeL (i := 3) rfl (.there (.there (.there .here))) (by kernel_rfl) (by kernel_rfl) (by kernel_rfl) (fun _ _ _ h => absurd h.1 (by simp)) (by kernel_rfl) (yields_val (v := .pointer (some ⟨bX, 3, none⟩)) rfl (fun _ => by go_simp)) ⟨H.rw_ (by repeat (first | exact Take.head | apply Take.tail)), h5.at_ H⟩ ?_
    (try simp only [Act.put, List.setIfInBounds_toArray, List.set_cons_succ, List.set_cons_zero])
    refine takeL (i := 4) rfl (.there (.there (.there (.there .here)))) (by kernel_rfl) (by kernel_rfl) (by kernel_rfl) (fun _ _ _ h => absurd h.1 (by simp)) (by kernel_rfl) (yields_load1_R rfl rfl rfl (fun _ hS => hS.1) rfl) ⟨H.rw_ (by repeat (first | exact Take.head | apply Take.tail)), h5.at_ H⟩ ?_
    (try simp only [Act.put, List.setIfInBounds_toArray, List.set_cons_succ, List.set_cons_zero])
    refine takeL (i := 5) rfl (.there (.there (.there (.there (.there .here))))) (by kernel_rfl) (by kernel_rfl) (by kernel_rfl) (fun _ _ _ h => absurd h.1 (by simp)) (by kernel_rfl) (yields_load1_R rfl rfl rfl (fun _ hS => hS.2) rfl) ⟨H.rw_ (by repeat (first | exact Take.head | apply Take.tail)), h5.at_ H⟩ ?_
    (try simp only [Act.put, List.setIfInBounds_toArray, List.set_cons_succ, List.set_cons_zero])
    refine anyL_1 (i := 6) (by kernel_rfl) ?_
    refine wpOp_at rfl (.there (.there (.there (.there (.there (.there .here)))))) rfl ?_
    refine wp_call_H Try.f42 rfl rfl Try.func42 (by kernel_rfl) rfl rfl (val_H H (slotAt_c x.written p _ (R.written.at_ H) zw)) ?_
    clear H
    rintro _ w ⟨rfl, H⟩
    refine ⟨fun _ => ⟨H.rw_ (by repeat (first | exact Take.head | apply Take.tail)), h5.at_ H⟩, ?_⟩
    (try simp only [Act.put, List.setIfInBounds_toArray, List.set_cons_succ, List.set_cons_zero])
    refine anyL_1 (i := 7) (by kernel_rfl) ?_
    refine wpOp_at rfl (.there (.there (.there (.there (.there (.there (.there .here))))))) rfl ?_
    refine wp_call_H Try.f40 rfl rfl Try.func40 (by kernel_rfl) rfl rfl (made_H H (withSlot_c x.live p (slotAtM x.written.xs p) _ (R.live.at_ H) zl)) ?_
    clear H
    rintro _ w ⟨t, rfl, HT, H⟩
    refine ⟨fun _ => ⟨H.rw_ (by repeat (first | exact Take.head | apply Take.tail)), h5.at_ H⟩, ?_⟩
    (try simp only [Act.put, List.setIfInBounds_toArray, List.set_cons_succ, List.set_cons_zero])
    refine takeL (i := 8) rfl (.there (.there (.there (.there (.there (.there (.there (.there .here)))))))) (by kernel_rfl) (by kernel_rfl) (by kernel_rfl) (fun _ _ _ h => absurd h.1 (by simp)) (by kernel_rfl) (yields_val (v := .pointer (some ⟨bX, 4, none⟩)) rfl (fun _ => by go_simp)) ⟨H.rw_ (by repeat (first | exact Take.head | apply Take.tail)), h5.at_ H⟩ ?_
    (try simp only [Act.put, List.setIfInBounds_toArray, List.set_cons_succ, List.set_cons_zero])
    refine anyL_1 (i := 9) (by kernel_rfl) ?_
    refine wpOp_at rfl (.there (.there (.there (.there (.there (.there (.there (.there (.there .here))))))))) rfl ?_
    refine wp_store_H rfl H rfl rfl (by repeat (first | (apply StoreAt.here; (first | exact CellsOf.agg | exact CellsOf.int | exact CellsOf.bool | exact CellsOf.slice | exact CellsOf.string | exact CellsOf.pointer | exact CellsOf.func); (repeat (first | exact SetsAt.nil | apply SetsAt.here | apply SetsAt.there)); exact rfl; exact rfl) | apply StoreAt.there)) ?_
    clear H
    intro w H
    refine ⟨fun hw => absurd rfl hw, ?_⟩
    (try simp only [Act.put, List.setIfInBounds_toArray, List.set_cons_succ, List.set_cons_zero])
    refine anyL_done (by kernel_rfl) ?_ _
    exact ⟨rfl, t, HT, H.pick (.cons (by repeat (first | exact Take.head | apply Take.tail)) (.cons (by repeat (first | exact Take.head | apply Take.tail)) (.cons (by repeat (first | exact Take.head | apply Take.tail)) .nil))), by first | (simp only [puts_cons, puts_nil, Act.put, List.setIfInBounds_toArray, List.set_cons_succ, List.set_cons_zero]; done) | (simp only [puts_cons, puts_nil, Act.put, List.setIfInBounds_toArray, List.set_cons_succ, List.set_cons_zero]; rfl)⟩
  clear H
  rintro u w ⟨t, HT, H, rfl⟩
  simp only [puts_cons, puts_nil, Act.put, List.setIfInBounds_toArray, List.set_cons_succ, List.set_cons_zero]
  go_wp2_with (first
    | go_skip
    | ((with_reducible refine at_box ?_); first | (refine wpList_box_H rfl rfl H rfl (by first | exact CellsOf.agg | exact CellsOf.int | exact CellsOf.bool | exact CellsOf.slice | exact CellsOf.string | exact CellsOf.pointer | exact CellsOf.func) ?_; clear H; intro b w H))
    | ((with_reducible refine at_alloc ?_); first | (refine wpList_alloc_H rfl rfl H ?_; clear H; intro b w H))
    | ((with_reducible refine at_load ?_); first | (refine wpList_load_H rfl rfl H rfl (by repeat (first | exact LoadAt.here rfl | apply LoadAt.there)) ?_) | (refine wpList_loads_H rfl rfl H rfl (by repeat (first | (apply LoadsAt.here; repeat (first | exact GetsAt.nil | apply GetsAt.here | apply GetsAt.there)) | apply LoadsAt.there)) ?_))
    | ((with_reducible refine at_store ?_); first | (refine wpList_store_H rfl rfl H rfl rfl (by repeat (first | (apply StoreAt.here; (first | exact CellsOf.agg | exact CellsOf.int | exact CellsOf.bool | exact CellsOf.slice | exact CellsOf.string | exact CellsOf.pointer | exact CellsOf.func); (repeat (first | exact SetsAt.nil | apply SetsAt.here | apply SetsAt.there)); exact rfl; exact rfl) | apply StoreAt.there)) ?_; clear H; intro w H)))
  refine bodyPost_ret (results_H rfl H rfl (by repeat (first | (apply LoadsAt.here; repeat (first | exact GetsAt.nil | apply GetsAt.here | apply GetsAt.there)) | apply LoadsAt.there))) rfl ⟨⟨x.prog, x.a, x.pc, x.written, t, x.ctl, x.pending, x.exit, x.halted, x.seen⟩, rfl, ⟨by unfold flushG; simp only [GV.m, HT.out], ⟨R.prog.at_ H, R.written.at_ H, H.rd (by repeat (first | exact Take.head | apply Take.tail)) slot_len, R.seen.at_ H⟩⟩, H.below⟩
set_option linter.unusedSimpArgs false in
set_option linter.unusedVariables false in
set_option maxRecDepth 100000 in
set_option maxHeartbeats 4000000 in
theorem bareFlush_c (B : BV) (g p : Int) (W0 : World) (R : BRd W0 B) (Z : BBig B) : Calls Try.prog 14 #[B.val, .int .i64 g, .int .i64 p] W0 fun e w' => ∃ d : BV, e = .returned (.tuple #[d.val, .bool (chOkM B.m g (hasB p 4))]) ∧ d.m = changedM B.m g (hasB p 4) (flushG p) ∧ Hp W0 w' [.bare d] := by
  have H := Hp.start W0
  go_enter Try.func14, Try.ntmps14
  go_wp2_with (first
    | go_skip
    | ((with_reducible refine at_box ?_); first | (refine wpList_box_H (cs := (barr B).toList) rfl rfl H rfl CellsOf.agg ?_; clear H; intro bB w H) | (refine wpList_box_H rfl rfl H rfl (by first | exact CellsOf.agg | exact CellsOf.int | exact CellsOf.bool | exact CellsOf.slice | exact CellsOf.string | exact CellsOf.pointer | exact CellsOf.func) ?_; clear H; intro bC w H))
    | ((with_reducible refine at_alloc ?_); first | (refine wpList_alloc_H rfl rfl H ?_; clear H; intro bR w H))
    | ((with_reducible refine at_load ?_); first | (refine wpList_load_H rfl rfl H rfl (by repeat (first | exact LoadAt.here rfl | apply LoadAt.there)) ?_) | (refine wpList_loads_H rfl rfl H rfl (by repeat (first | (apply LoadsAt.here; repeat (first | exact GetsAt.nil | apply GetsAt.here | apply GetsAt.there)) | apply LoadsAt.there)) ?_))
    | ((with_reducible refine at_store ?_); first | (refine wpList_store_H rfl rfl H rfl rfl (by repeat (first | (apply StoreAt.here; (first | exact CellsOf.agg | exact CellsOf.int | exact CellsOf.bool | exact CellsOf.slice | exact CellsOf.string | exact CellsOf.pointer | exact CellsOf.func); (repeat (first | exact SetsAt.nil | apply SetsAt.here | apply SetsAt.there)); exact rfl; exact rfl) | apply StoreAt.there)) ?_; clear H; intro w H)))
  refine wp_cut (fun u a' w' => ∃ (d : BV), Hid (d.m = changedM B.m g (hasB p 4) (flushG p)) ∧ Hp W0 w' [.bare d, .box bR 31 (barr d).toList] ∧ a' = puts u [(8, B.val), (9, (.int .i64 g)), (10, (.int .i64 p)), (11, (.bool (hasB p 4))), (12, (.func (.func 41) #[] #[.pointer (some ⟨bC, 0, none⟩)])), (13, (.tuple #[d.val, .bool (chOkM B.m g (hasB p 4))])), (14, d.val), (15, (.bool (chOkM B.m g (hasB p 4)))), (7, (.bool (chOkM B.m g (hasB p 4))))]) ?_ ?_
  · refine wp_region_held (S := (fun w' => Rw w' bB 31 (barr B) ∧ Rw w' bC 3 ([.int .i64 p] : List Value).toArray)) (by kernel_rfl) ?_
    replace H := H.drew
    refine takeH (i := 0) rfl .here (by kernel_rfl) (by kernel_rfl) (by kernel_rfl) (fun _ _ _ h => absurd h.1 (by simp)) (yields_loads_R rfl rfl rfl (fun _ hS => hS.1) (by repeat (first | exact GetsAt.nil | apply GetsAt.here | apply GetsAt.there))) ⟨H.rw_ (by repeat (first | exact Take.head | apply Take.tail)), H.rw_ (by repeat (first | exact Take.head | apply Take.tail))⟩ ?_
    (try simp only [Act.put, List.setIfInBounds_toArray, List.set_cons_succ, List.set_cons_zero])
    refine takeH (i := 1) rfl (.there .here) (by kernel_rfl) (by kernel_rfl) (by kernel_rfl) (fun _ _ _ h => absurd h.1 (by simp)) (yields_val (v := (.int .i64 g)) rfl (fun _ => by go_simp)) ⟨H.rw_ (by repeat (first | exact Take.head | apply Take.tail)), H.rw_ (by repeat (first | exact Take.head | apply Take.tail))⟩ ?_
    (try simp only [Act.put, List.setIfInBounds_toArray, List.set_cons_succ, List.set_cons_zero])
    refine takeH (i := 2) rfl (.there (.there .here)) (by kernel_rfl) (by kernel_rfl) (by kernel_rfl) (fun _ _ _ h => absurd h.1 (by simp)) (yields_load1_R rfl rfl rfl (fun _ hS => hS.2) rfl) ⟨H.rw_ (by repeat (first | exact Take.head | apply Take.tail)), H.rw_ (by repeat (first | exact Take.head | apply Take.tail))⟩ ?_
    (try simp only [Act.put, List.setIfInBounds_toArray, List.set_cons_succ, List.set_cons_zero])
    refine takeH (i := 4) rfl (.there (.there (.there (.there .here)))) (by kernel_rfl) (by kernel_rfl) (by kernel_rfl) (fun _ _ _ h => absurd h.1 (by simp)) (yields_val (v := (.func (.func 41) #[] #[.pointer (some ⟨bC, 0, none⟩)])) rfl (fun _ => by go_simp)) ⟨H.rw_ (by repeat (first | exact Take.head | apply Take.tail)), H.rw_ (by repeat (first | exact Take.head | apply Take.tail))⟩ ?_
    (try simp only [Act.put, List.setIfInBounds_toArray, List.set_cons_succ, List.set_cons_zero])
    refine anyH_1 (i := 3) (by kernel_rfl) ?_
    refine wpOp_at rfl (.there (.there (.there .here))) rfl ?_
    refine wp_call_H Try.f37 rfl rfl Try.func37 (by kernel_rfl) rfl rfl (same_v H (has_any p 4 _)) ?_
    clear H
    rintro _ w ⟨rfl, H⟩
    refine ⟨⟨H.rw_ (by repeat (first | exact Take.head | apply Take.tail)), H.rw_ (by repeat (first | exact Take.head | apply Take.tail))⟩, ?_⟩
    (try simp only [Act.put, List.setIfInBounds_toArray, List.set_cons_succ, List.set_cons_zero])
    refine anyH_1 (i := 5) (by kernel_rfl) ?_
    refine wpOp_at rfl (.there (.there (.there (.there (.there .here))))) rfl ?_
    refine wp_call_H Try.f36 rfl rfl Try.func36 (by kernel_rfl) rfl rfl (made_H (val := fun d : BV => .tuple #[d.val, .bool (chOkM B.m g (hasB p 4))]) H (changed_c B g (hasB p 4) 41 Try.f41 Try.func41 (by kernel_rfl) #[.pointer (some ⟨bC, 0, none⟩)] (flushG p) _ (R.at_ H) Z (by unfold flushG MG.size; rw [withSlot_len]; exact Nat.le_trans (gAtM_size B.m g) Z) (fun x _ hb Rx Zx => bareFlush1_c x p bC _ Rx Zx ((H.rw_ (cs := [.int .i64 p]) (by repeat (first | exact Take.head | apply Take.tail))).below_ hb)))) ?_
    clear H
    rintro _ w ⟨d, rfl, HD, H⟩
    refine ⟨⟨H.rw_ (by repeat (first | exact Take.head | apply Take.tail)), H.rw_ (by repeat (first | exact Take.head | apply Take.tail))⟩, ?_⟩
    (try simp only [Act.put, List.setIfInBounds_toArray, List.set_cons_succ, List.set_cons_zero])
    refine takeH (i := 6) rfl (.there (.there (.there (.there (.there (.there .here)))))) (by kernel_rfl) (by kernel_rfl) (by kernel_rfl) (fun _ _ _ h => absurd h.1 (by simp)) (yields_val (v := d.val) rfl (fun _ => by go_simp)) ⟨H.rw_ (by repeat (first | exact Take.head | apply Take.tail)), H.rw_ (by repeat (first | exact Take.head | apply Take.tail))⟩ ?_
    (try simp only [Act.put, List.setIfInBounds_toArray, List.set_cons_succ, List.set_cons_zero])
    refine takeH (i := 7) rfl (.there (.there (.there (.there (.there (.there (.there .here))))))) (by kernel_rfl) (by kernel_rfl) (by kernel_rfl) (fun _ _ _ h => absurd h.1 (by simp)) (yields_val (v := (.bool (chOkM B.m g (hasB p 4)))) rfl (fun _ => by go_simp)) ⟨H.rw_ (by repeat (first | exact Take.head | apply Take.tail)), H.rw_ (by repeat (first | exact Take.head | apply Take.tail))⟩ ?_
    (try simp only [Act.put, List.setIfInBounds_toArray, List.set_cons_succ, List.set_cons_zero])
    refine anyH_1 (i := 8) (by kernel_rfl) ?_
    refine wpOp_at rfl (.there (.there (.there (.there (.there (.there (.there (.there .here)))))))) rfl ?_
    refine wp_store_H rfl H rfl rfl (by repeat (first | (apply StoreAt.here; (first | exact CellsOf.agg | exact CellsOf.int | exact CellsOf.bool | exact CellsOf.slice | exact CellsOf.string | exact CellsOf.pointer | exact CellsOf.func); (repeat (first | exact SetsAt.nil | apply SetsAt.here | apply SetsAt.there)); exact rfl; exact rfl) | apply StoreAt.there)) ?_
    clear H
    intro w H
    refine ⟨⟨H.rw_ (by repeat (first | exact Take.head | apply Take.tail)), H.rw_ (by repeat (first | exact Take.head | apply Take.tail))⟩, ?_⟩
    (try simp only [Act.put, List.setIfInBounds_toArray, List.set_cons_succ, List.set_cons_zero])
    refine takeH (i := 9) rfl (.there (.there (.there (.there (.there (.there (.there (.there (.there .here))))))))) (by kernel_rfl) (by kernel_rfl) (by kernel_rfl) (fun _ _ _ h => absurd h.1 (by simp)) (yields_val (v := (.bool (chOkM B.m g (hasB p 4)))) rfl (fun _ => by go_simp)) ⟨H.rw_ (by repeat (first | exact Take.head | apply Take.tail)), H.rw_ (by repeat (first | exact Take.head | apply Take.tail))⟩ ?_
    (try simp only [Act.put, List.setIfInBounds_toArray, List.set_cons_succ, List.set_cons_zero])
    refine wpAnyH_done (by kernel_rfl) ?_ _
    exact ⟨rfl, d, HD, H.pick (.cons (by repeat (first | exact Take.head | apply Take.tail)) (.cons (by repeat (first | exact Take.head | apply Take.tail)) .nil)), by first | (simp only [puts_cons, puts_nil, Act.put, List.setIfInBounds_toArray, List.set_cons_succ, List.set_cons_zero]; done) | (simp only [puts_cons, puts_nil, Act.put, List.setIfInBounds_toArray, List.set_cons_succ, List.set_cons_zero]; rfl)⟩
  clear H
  rintro u w ⟨d, HD, H, rfl⟩
  simp only [puts_cons, puts_nil, Act.put, List.setIfInBounds_toArray, List.set_cons_succ, List.set_cons_zero]
  go_wp2_with (first
    | go_skip
    | ((with_reducible refine at_box ?_); first | (refine wpList_box_H rfl rfl H rfl (by first | exact CellsOf.agg | exact CellsOf.int | exact CellsOf.bool | exact CellsOf.slice | exact CellsOf.string | exact CellsOf.pointer | exact CellsOf.func) ?_; clear H; intro b w H))
    | ((with_reducible refine at_alloc ?_); first | (refine wpList_alloc_H rfl rfl H ?_; clear H; intro b w H))
    | ((with_reducible refine at_load ?_); first | (refine wpList_load_H rfl rfl H rfl (by repeat (first | exact LoadAt.here rfl | apply LoadAt.there)) ?_) | (refine wpList_loads_H rfl rfl H rfl (by repeat (first | (apply LoadsAt.here; repeat (first | exact GetsAt.nil | apply GetsAt.here | apply GetsAt.there)) | apply LoadsAt.there)) ?_))
    | ((with_reducible refine at_store ?_); first | (refine wpList_store_H rfl rfl H rfl rfl (by repeat (first | (apply StoreAt.here; (first | exact CellsOf.agg | exact CellsOf.int | exact CellsOf.bool | exact CellsOf.slice | exact CellsOf.string | exact CellsOf.pointer | exact CellsOf.func); (repeat (first | exact SetsAt.nil | apply SetsAt.here | apply SetsAt.there)); exact rfl; exact rfl) | apply StoreAt.there)) ?_; clear H; intro w H)))
  refine bodyPost_ret (results_H2 rfl H rfl (by repeat (first | (apply LoadsAt.here; repeat (first | exact GetsAt.nil | apply GetsAt.here | apply GetsAt.there)) | apply LoadsAt.there))) rfl ⟨d, rfl, HD.out, H.pick (.cons (by repeat (first | exact Take.head | apply Take.tail)) .nil)⟩
end Go.Proofs.Ytjiiobliadeldaa
