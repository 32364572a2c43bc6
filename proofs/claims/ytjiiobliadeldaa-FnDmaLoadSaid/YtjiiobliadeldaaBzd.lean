/- Contracts of BareSet, BareAnswer and BareResume, of the program and of the reference. No condition but that the arguments lie in memory. -/
import Derived.Test.YtjiiobliadeldaaBza
namespace Go.Proofs.Ytjiiobliadeldaa
set_option linter.unusedSimpArgs false
set_option linter.unusedVariables false
open Go.RowKit
theorem wpOp_loads {P : Program} {ops : Array Oper} {o : Oper} {a : Act} {w0 w : World} {L : List En} {Q : Go.Exit → Act → World → Prop} {K : Act → World → Prop} {ty : TypeId} {x : Operand} (ho : o.op = .load ty x) (H : Hp w0 w L) {b i : Nat} (hx : a.eval x = .pointer (some ⟨b, i, none⟩)) {n : Nat} [hS : TyA P ty n] {vs : List Value} (hv : LoadsAt L b i n vs)
    (h : K (a.put o.dst (.agg vs.toArray)) w) : o.wp P a w K Q := wp_loads_H ho H hx hv h
set_option linter.unusedSimpArgs false in
set_option linter.unusedVariables false in
set_option maxRecDepth 100000 in
set_option maxHeartbeats 4000000 in
theorem bareSet1_c (x : GV) (p : Int) (s : Slot) (b c : Nat) (W0 : World) (R : GRd W0 x) (Z : GBig x) (h5 : Rw W0 b 3 ([.int .i64 p] : List Value).toArray) (h6 : Rw W0 c 27 ([.int .i64 s.page, .int .i64 s.rights] : List Value).toArray) : Calls Try.prog 39 #[x.val, .pointer (some ⟨b, 0, none⟩), .pointer (some ⟨c, 0, none⟩)] W0 fun e w' => ∃ y : GV, e = .returned y.val ∧ (y.m = setG p s x.m ∧ GRd w' y) ∧ Below W0.heap.size W0 w' := by
  have zw := Z.2.1
  unfold big at zw
  have H := Hp.start W0
  go_enter Try.func39, Try.ntmps39
  go_wp2_with (first
    | go_skip
    | ((with_reducible refine at_box ?_); first | (refine wpList_box_H rfl rfl H rfl (by first | exact CellsOf.agg | exact CellsOf.int | exact CellsOf.bool | exact CellsOf.slice | exact CellsOf.string | exact CellsOf.pointer | exact CellsOf.func) ?_; clear H; intro bX w H))
    | ((with_reducible refine at_alloc ?_); first | (refine wpList_alloc_H rfl rfl H ?_; clear H; intro bR w H))
    | ((with_reducible refine at_load ?_); first | (refine wpList_loadc rfl rfl H rfl h5 rfl ?_) | (refine wpList_loadsc rfl rfl H rfl h6 (by repeat (first | exact GetsAt.nil | apply GetsAt.here | apply GetsAt.there)) ?_) | (refine wpList_load_H rfl rfl H rfl (by repeat (first | exact LoadAt.here rfl | apply LoadAt.there)) ?_) | (refine wpList_loads_H rfl rfl H rfl (by repeat (first | (apply LoadsAt.here; repeat (first | exact GetsAt.nil | apply GetsAt.here | apply GetsAt.there)) | apply LoadsAt.there)) ?_))
    | ((with_reducible refine at_store ?_); first | (refine wpList_store_H rfl rfl H rfl rfl (by repeat (first | (apply StoreAt.here; (first | exact CellsOf.agg | exact CellsOf.int | exact CellsOf.bool | exact CellsOf.slice | exact CellsOf.string | exact CellsOf.pointer | exact CellsOf.func); (repeat (first | exact SetsAt.nil | apply SetsAt.here | apply SetsAt.there)); exact rfl; exact rfl) | apply StoreAt.there)) ?_; clear H; intro w H))
    | (go_at_call 40; refine (withSlot_c x.written p s _ (R.written.at_ H) zw).mono ?_; rintro e w ⟨t, rfl, x1, K⟩; have HT := Lib.hid x1; clear x1; replace H := H.add_all K; clear K))
  refine bodyPost_ret (results_H rfl H rfl (by repeat (first | (apply LoadsAt.here; repeat (first | exact GetsAt.nil | apply GetsAt.here | apply GetsAt.there)) | apply LoadsAt.there))) rfl ⟨⟨x.prog, x.a, x.pc, t, x.live, x.ctl, x.pending, x.exit, x.halted, x.seen⟩, rfl, ⟨by unfold setG; simp only [GV.m, HT.out], ⟨R.prog.at_ H, H.rd (by repeat (first | exact Take.head | apply Take.tail)) slot_len, R.live.at_ H, R.seen.at_ H⟩⟩, H.below⟩
theorem val_eq {P : Program} {f : FuncId} {args : Array Value} {w0 w : World} {L : List En} {v v' : Value} (h : Calls P f args w (fun e w' => ∃ u, e = .returned u ∧ (u = v ∧ Hp w0 w' L))) (e : v = v') : Calls P f args w (fun e w' => ∃ u, e = .returned u ∧ (u = v' ∧ Hp w0 w' L)) := e ▸ h
set_option linter.unusedSimpArgs false in
set_option linter.unusedVariables false in
set_option maxRecDepth 100000 in
set_option maxHeartbeats 4000000 in
theorem bareSet_c (B : BV) (g p : Int) (s : Slot) (W0 : World) (R : BRd W0 B) (Z : BBig B) : Calls Try.prog 13 #[B.val, .int .i64 g, .int .i64 p, s.val] W0 fun e w' => ∃ d : BV, e = .returned (.tuple #[d.val, .bool (chOkM B.m g (hasB p 4 && slotOkM 8 s))]) ∧ d.m = changedM B.m g (hasB p 4 && slotOkM 8 s) (setG p s) ∧ Hp W0 w' [.bare d] := by
  cases e1 : hasB p 4
  · rw [Bool.false_and]
    have H := Hp.start W0
    go_enter Try.func13, Try.ntmps13
    go_wp2_with (first
      | go_skip
      | ((with_reducible refine at_box ?_); first | (refine wpList_box_H (cs := (barr B).toList) rfl rfl H rfl CellsOf.agg ?_; clear H; intro bB w H) | (refine wpList_box_H (cs := [.int .i64 p]) rfl rfl H rfl CellsOf.int ?_; clear H; intro bP w H) | (refine wpList_box_H rfl rfl H rfl (by first | exact CellsOf.agg | exact CellsOf.int | exact CellsOf.bool | exact CellsOf.slice | exact CellsOf.string | exact CellsOf.pointer | exact CellsOf.func) ?_; clear H; intro bS w H))
      | ((with_reducible refine at_alloc ?_); first | (refine wpList_alloc_H rfl rfl H ?_; clear H; intro bR w H))
      | ((with_reducible refine at_load ?_); first | (refine wpList_load_H rfl rfl H rfl (by repeat (first | exact LoadAt.here rfl | apply LoadAt.there)) ?_) | (refine wpList_loads_H rfl rfl H rfl (by repeat (first | (apply LoadsAt.here; repeat (first | exact GetsAt.nil | apply GetsAt.here | apply GetsAt.there)) | apply LoadsAt.there)) ?_))
      | ((with_reducible refine at_store ?_); first | (refine wpList_store_H rfl rfl H rfl rfl (by repeat (first | (apply StoreAt.here; (first | exact CellsOf.agg | exact CellsOf.int | exact CellsOf.bool | exact CellsOf.slice | exact CellsOf.string | exact CellsOf.pointer | exact CellsOf.func); (repeat (first | exact SetsAt.nil | apply SetsAt.here | apply SetsAt.there)); exact rfl; exact rfl) | apply StoreAt.there)) ?_; clear H; intro w H)))
    refine wp_cut (fun u a' w' => ∃ (d : BV), Hid (d.m = changedM B.m g false (setG p s)) ∧ Hp W0 w' [.bare d, .box bR 31 (barr d).toList] ∧ a' = puts u [(10, B.val), (11, (.int .i64 g)), (12, (.int .i64 p)), (13, (.bool false)), (14, (.bool false)), (15, undef), (16, undef), (17, (.bool false)), (18, (.func (.func 39) #[] #[.pointer (some ⟨bP, 0, none⟩), .pointer (some ⟨bS, 0, none⟩)])), (19, (.tuple #[d.val, .bool (chOkM B.m g false)])), (20, d.val), (21, (.bool (chOkM B.m g false))), (9, (.bool (chOkM B.m g false)))]) ?_ ?_
    · refine wp_region_held (S := (fun w' => Rw w' bB 31 (barr B) ∧ (Rw w' bP 3 ([.int .i64 p] : List Value).toArray ∧ Rw w' bS 27 ([.int .i64 s.page, .int .i64 s.rights] : List Value).toArray))) (by kernel_rfl) ?_
      replace H := H.drew
      refine takeH (i := 0) rfl .here (by kernel_rfl) (by kernel_rfl) (by kernel_rfl) (fun _ _ _ h => absurd h.1 (by simp)) (yields_loads_R rfl rfl rfl (fun _ hS => hS.1) (by repeat (first | exact GetsAt.nil | apply GetsAt.here | apply GetsAt.there))) ⟨H.rw_ (by repeat (first | exact Take.head | apply Take.tail)), H.rw_ (by repeat (first | exact Take.head | apply Take.tail)), H.rw_ (by repeat (first | exact Take.head | apply Take.tail))⟩ ?_
      (try simp only [Act.put, List.setIfInBounds_toArray, List.set_cons_succ, List.set_cons_zero])
      refine takeH (i := 1) rfl (.there .here) (by kernel_rfl) (by kernel_rfl) (by kernel_rfl) (fun _ _ _ h => absurd h.1 (by simp)) (yields_val (v := (.int .i64 g)) rfl (fun _ => by go_simp)) ⟨H.rw_ (by repeat (first | exact Take.head | apply Take.tail)), H.rw_ (by repeat (first | exact Take.head | apply Take.tail)), H.rw_ (by repeat (first | exact Take.head | apply Take.tail))⟩ ?_
      (try simp only [Act.put, List.setIfInBounds_toArray, List.set_cons_succ, List.set_cons_zero])
      refine takeH (i := 2) rfl (.there (.there .here)) (by kernel_rfl) (by kernel_rfl) (by kernel_rfl) (fun _ _ _ h => absurd h.1 (by simp)) (yields_load1_R rfl rfl rfl (fun _ hS => hS.2.1) rfl) ⟨H.rw_ (by repeat (first | exact Take.head | apply Take.tail)), H.rw_ (by repeat (first | exact Take.head | apply Take.tail)), H.rw_ (by repeat (first | exact Take.head | apply Take.tail))⟩ ?_
      (try simp only [Act.put, List.setIfInBounds_toArray, List.set_cons_succ, List.set_cons_zero])
      refine takeH (i := 8) rfl (.there (.there (.there (.there (.there (.there (.there (.there .here)))))))) (by kernel_rfl) (by kernel_rfl) (by kernel_rfl) (fun _ _ _ h => absurd h.1 (by simp)) (yields_val (v := (.func (.func 39) #[] #[.pointer (some ⟨bP, 0, none⟩), .pointer (some ⟨bS, 0, none⟩)])) rfl (fun _ => by go_simp)) ⟨H.rw_ (by repeat (first | exact Take.head | apply Take.tail)), H.rw_ (by repeat (first | exact Take.head | apply Take.tail)), H.rw_ (by repeat (first | exact Take.head | apply Take.tail))⟩ ?_
      (try simp only [Act.put, List.setIfInBounds_toArray, List.set_cons_succ, List.set_cons_zero])
      refine anyH_1 (i := 3) (by kernel_rfl) ?_
      refine wpOp_at rfl (.there (.there (.there .here))) rfl ?_
      refine wp_call_H Try.f37 rfl rfl Try.func37 (by kernel_rfl) rfl rfl (val_eq (same_v H (has_any p 4 _)) (by rw [e1])) ?_
      clear H
      rintro _ w ⟨rfl, H⟩
      refine ⟨⟨H.rw_ (by repeat (first | exact Take.head | apply Take.tail)), H.rw_ (by repeat (first | exact Take.head | apply Take.tail)), H.rw_ (by repeat (first | exact Take.head | apply Take.tail))⟩, ?_⟩
      (try simp only [Act.put, List.setIfInBounds_toArray, List.set_cons_succ, List.set_cons_zero])
      refine takeH (i := 4) rfl (.there (.there (.there (.there .here)))) (by kernel_rfl) (by kernel_rfl) (by kernel_rfl) (fun _ _ _ h => absurd h.1 (by simp)) (yields_val (v := (.bool false)) rfl (fun _ => by go_simp)) ⟨H.rw_ (by repeat (first | exact Take.head | apply Take.tail)), H.rw_ (by repeat (first | exact Take.head | apply Take.tail)), H.rw_ (by repeat (first | exact Take.head | apply Take.tail))⟩ ?_
      (try simp only [Act.put, List.setIfInBounds_toArray, List.set_cons_succ, List.set_cons_zero])
      refine takeH (i := 5) rfl (.there (.there (.there (.there (.there .here))))) (by kernel_rfl) (by kernel_rfl) (by kernel_rfl) (fun _ _ _ h => absurd h.1 (by simp)) (.inr ⟨rfl, rfl⟩) ⟨H.rw_ (by repeat (first | exact Take.head | apply Take.tail)), H.rw_ (by repeat (first | exact Take.head | apply Take.tail)), H.rw_ (by repeat (first | exact Take.head | apply Take.tail))⟩ ?_
      (try simp only [Act.put, List.setIfInBounds_toArray, List.set_cons_succ, List.set_cons_zero])
      refine takeH (i := 6) rfl (.there (.there (.there (.there (.there (.there .here)))))) (by kernel_rfl) (by kernel_rfl) (by kernel_rfl) (fun _ _ _ h => absurd h.1 (by simp)) (.inr ⟨rfl, rfl⟩) ⟨H.rw_ (by repeat (first | exact Take.head | apply Take.tail)), H.rw_ (by repeat (first | exact Take.head | apply Take.tail)), H.rw_ (by repeat (first | exact Take.head | apply Take.tail))⟩ ?_
      (try simp only [Act.put, List.setIfInBounds_toArray, List.set_cons_succ, List.set_cons_zero])
      refine takeH (i := 7) rfl (.there (.there (.there (.there (.there (.there (.there .here))))))) (by kernel_rfl) (by kernel_rfl) (by kernel_rfl) (fun _ _ _ h => absurd h.1 (by simp)) (yields_val (v := (.bool false)) rfl (fun _ => by go_simp)) ⟨H.rw_ (by repeat (first | exact Take.head | apply Take.tail)), H.rw_ (by repeat (first | exact Take.head | apply Take.tail)), H.rw_ (by repeat (first | exact Take.head | apply Take.tail))⟩ ?_
      (try simp only [Act.put, List.setIfInBounds_toArray, List.set_cons_succ, List.set_cons_zero])
      refine anyH_1 (i := 9) (by kernel_rfl) ?_
      refine wpOp_at rfl (.there (.there (.there (.there (.there (.there (.there (.there (.there .here))))))))) rfl ?_
      refine wp_call_H Try.f36 rfl rfl Try.func36 (by kernel_rfl) rfl rfl (made_H (val := fun d : BV => .tuple #[d.val, .bool (chOkM B.m g false)]) H (changed_c B g false 39 Try.f39 Try.func39 (by kernel_rfl) #[.pointer (some ⟨bP, 0, none⟩), .pointer (some ⟨bS, 0, none⟩)] (setG p s) _ (R.at_ H) Z (by unfold setG MG.size; rw [withSlot_len]; exact Nat.le_trans (gAtM_size B.m g) Z) (fun x _ hb Rx Zx => bareSet1_c x p s bP bS _ Rx Zx ((H.rw_ (cs := [.int .i64 p]) (by repeat (first | exact Take.head | apply Take.tail))).below_ hb) ((H.rw_ (cs := [.int .i64 s.page, .int .i64 s.rights]) (by repeat (first | exact Take.head | apply Take.tail))).below_ hb)))) ?_
      clear H
      rintro _ w ⟨d, rfl, HD, H⟩
      refine ⟨⟨H.rw_ (by repeat (first | exact Take.head | apply Take.tail)), H.rw_ (by repeat (first | exact Take.head | apply Take.tail)), H.rw_ (by repeat (first | exact Take.head | apply Take.tail))⟩, ?_⟩
      (try simp only [Act.put, List.setIfInBounds_toArray, List.set_cons_succ, List.set_cons_zero])
      refine takeH (i := 10) rfl (.there (.there (.there (.there (.there (.there (.there (.there (.there (.there .here)))))))))) (by kernel_rfl) (by kernel_rfl) (by kernel_rfl) (fun _ _ _ h => absurd h.1 (by simp)) (yields_val (v := d.val) rfl (fun _ => by go_simp)) ⟨H.rw_ (by repeat (first | exact Take.head | apply Take.tail)), H.rw_ (by repeat (first | exact Take.head | apply Take.tail)), H.rw_ (by repeat (first | exact Take.head | apply Take.tail))⟩ ?_
      (try simp only [Act.put, List.setIfInBounds_toArray, List.set_cons_succ, List.set_cons_zero])
      refine takeH (i := 11) rfl (.there (.there (.there (.there (.there (.there (.there (.there (.there (.there (.there .here))))))))))) (by kernel_rfl) (by kernel_rfl) (by kernel_rfl) (fun _ _ _ h => absurd h.1 (by simp)) (yields_val (v := (.bool (chOkM B.m g false))) rfl (fun _ => by go_simp)) ⟨H.rw_ (by repeat (first | exact Take.head | apply Take.tail)), H.rw_ (by repeat (first | exact Take.head | apply Take.tail)), H.rw_ (by repeat (first | exact Take.head | apply Take.tail))⟩ ?_
      (try simp only [Act.put, List.setIfInBounds_toArray, List.set_cons_succ, List.set_cons_zero])
      refine anyH_1 (i := 12) (by kernel_rfl) ?_
      refine wpOp_at rfl (.there (.there (.there (.there (.there (.there (.there (.there (.there (.there (.there (.there .here)))))))))))) rfl ?_
      refine wp_store_H rfl H rfl rfl (by repeat (first | (apply StoreAt.here; (first | exact CellsOf.agg | exact CellsOf.int | exact CellsOf.bool | exact CellsOf.slice | exact CellsOf.string | exact CellsOf.pointer | exact CellsOf.func); (repeat (first | exact SetsAt.nil | apply SetsAt.here | apply SetsAt.there)); exact rfl; exact rfl) | apply StoreAt.there)) ?_
      clear H
      intro w H
      refine ⟨⟨H.rw_ (by repeat (first | exact Take.head | apply Take.tail)), H.rw_ (by repeat (first | exact Take.head | apply Take.tail)), H.rw_ (by repeat (first | exact Take.head | apply Take.tail))⟩, ?_⟩
      (try simp only [Act.put, List.setIfInBounds_toArray, List.set_cons_succ, List.set_cons_zero])
      refine takeH (i := 13) rfl (.there (.there (.there (.there (.there (.there (.there (.there (.there (.there (.there (.there (.there .here))))))))))))) (by kernel_rfl) (by kernel_rfl) (by kernel_rfl) (fun _ _ _ h => absurd h.1 (by simp)) (yields_val (v := (.bool (chOkM B.m g false))) rfl (fun _ => by go_simp)) ⟨H.rw_ (by repeat (first | exact Take.head | apply Take.tail)), H.rw_ (by repeat (first | exact Take.head | apply Take.tail)), H.rw_ (by repeat (first | exact Take.head | apply Take.tail))⟩ ?_
      (try simp only [Act.put, List.setIfInBounds_toArray, List.set_cons_succ, List.set_cons_zero])
      refine wpAnyH_done (by kernel_rfl) ?_ _
      exact ⟨rfl, d, HD, H.pick (.cons (by repeat (first | exact Take.head | apply Take.tail)) (.cons (by repeat (first | exact Take.head | apply Take.tail)) .nil)), by first | (simp only [puts_cons, puts_nil, Act.put, List.setIfInBounds_toArray, List.set_cons_succ, List.set_cons_zero]; done) | (simp only [puts_cons, puts_nil, Act.put, List.setIfInBounds_toArray, List.set_cons_succ, List.set_cons_zero]; rfl)⟩
    clear H
    rintro u w ⟨d, HD, H, rfl⟩
    simp only [puts_cons, puts_nil, Act.put, List.setIfInBounds_toArray, List.set_cons_succ, List.set_cons_zero]
    go_wp2_with (first
      | go_skip
      | ((with_reducible refine at_box ?_); first | (refine wpList_box_H rfl rfl H rfl (by first | exact CellsOf.agg | exact CellsOf.int | exact CellsOf.bool | exact CellsOf.slice | exact CellsOf.string | exact CellsOf.pointer | exact CellsOf.func) ?_; clear H; intro b w H))
      | ((with_reducible refine at_alloc ?_); first | (refine wpList_alloc_H rfl rfl H ?_; clear H; intro b w H))
      | ((with_reducible refine at_load ?_); first | (refine wpList_load_H rfl rfl H rfl (by repeat (first | exact LoadAt.here rfl | apply LoadAt.there)) ?_) | (refine wpList_loads_H rfl rfl H rfl (by repeat (first | (apply LoadsAt.here; repeat (first | exact GetsAt.nil | apply GetsAt.here | apply GetsAt.there)) | apply LoadsAt.there)) ?_))
      | ((with_reducible refine at_store ?_); first | (refine wpList_store_H rfl rfl H rfl rfl (by repeat (first | (apply StoreAt.here; (first | exact CellsOf.agg | exact CellsOf.int | exact CellsOf.bool | exact CellsOf.slice | exact CellsOf.string | exact CellsOf.pointer | exact CellsOf.func); (repeat (first | exact SetsAt.nil | apply SetsAt.here | apply SetsAt.there)); exact rfl; exact rfl) | apply StoreAt.there)) ?_; clear H; intro w H)))
    refine bodyPost_ret (results_H2 rfl H rfl (by repeat (first | (apply LoadsAt.here; repeat (first | exact GetsAt.nil | apply GetsAt.here | apply GetsAt.there)) | apply LoadsAt.there))) rfl ⟨d, rfl, HD.out, H.pick (.cons (by repeat (first | exact Take.head | apply Take.tail)) .nil)⟩
  · rw [Bool.true_and]
    cases e2 : slotOkM 8 s
    · have H := Hp.start W0
      go_enter Try.func13, Try.ntmps13
      go_wp2_with (first
        | go_skip
        | ((with_reducible refine at_box ?_); first | (refine wpList_box_H (cs := (barr B).toList) rfl rfl H rfl CellsOf.agg ?_; clear H; intro bB w H) | (refine wpList_box_H (cs := [.int .i64 p]) rfl rfl H rfl CellsOf.int ?_; clear H; intro bP w H) | (refine wpList_box_H rfl rfl H rfl (by first | exact CellsOf.agg | exact CellsOf.int | exact CellsOf.bool | exact CellsOf.slice | exact CellsOf.string | exact CellsOf.pointer | exact CellsOf.func) ?_; clear H; intro bS w H))
        | ((with_reducible refine at_alloc ?_); first | (refine wpList_alloc_H rfl rfl H ?_; clear H; intro bR w H))
        | ((with_reducible refine at_load ?_); first | (refine wpList_load_H rfl rfl H rfl (by repeat (first | exact LoadAt.here rfl | apply LoadAt.there)) ?_) | (refine wpList_loads_H rfl rfl H rfl (by repeat (first | (apply LoadsAt.here; repeat (first | exact GetsAt.nil | apply GetsAt.here | apply GetsAt.there)) | apply LoadsAt.there)) ?_))
        | ((with_reducible refine at_store ?_); first | (refine wpList_store_H rfl rfl H rfl rfl (by repeat (first | (apply StoreAt.here; (first | exact CellsOf.agg | exact CellsOf.int | exact CellsOf.bool | exact CellsOf.slice | exact CellsOf.string | exact CellsOf.pointer | exact CellsOf.func); (repeat (first | exact SetsAt.nil | apply SetsAt.here | apply SetsAt.there)); exact rfl; exact rfl) | apply StoreAt.there)) ?_; clear H; intro w H)))
      refine wp_cut (fun u a' w' => ∃ (d : BV), Hid (d.m = changedM B.m g false (setG p s)) ∧ Hp W0 w' [.bare d, .box bR 31 (barr d).toList] ∧ a' = puts u [(10, B.val), (11, (.int .i64 g)), (12, (.int .i64 p)), (13, (.bool true)), (14, (.bool true)), (15, s.val), (16, (.bool false)), (17, (.bool false)), (18, (.func (.func 39) #[] #[.pointer (some ⟨bP, 0, none⟩), .pointer (some ⟨bS, 0, none⟩)])), (19, (.tuple #[d.val, .bool (chOkM B.m g false)])), (20, d.val), (21, (.bool (chOkM B.m g false))), (9, (.bool (chOkM B.m g false)))]) ?_ ?_
      · refine wp_region_held (S := (fun w' => Rw w' bB 31 (barr B) ∧ (Rw w' bP 3 ([.int .i64 p] : List Value).toArray ∧ Rw w' bS 27 ([.int .i64 s.page, .int .i64 s.rights] : List Value).toArray))) (by kernel_rfl) ?_
        replace H := H.drew
        refine takeH (i := 0) rfl .here (by kernel_rfl) (by kernel_rfl) (by kernel_rfl) (fun _ _ _ h => absurd h.1 (by simp)) (yields_loads_R rfl rfl rfl (fun _ hS => hS.1) (by repeat (first | exact GetsAt.nil | apply GetsAt.here | apply GetsAt.there))) ⟨H.rw_ (by repeat (first | exact Take.head | apply Take.tail)), H.rw_ (by repeat (first | exact Take.head | apply Take.tail)), H.rw_ (by repeat (first | exact Take.head | apply Take.tail))⟩ ?_
        (try simp only [Act.put, List.setIfInBounds_toArray, List.set_cons_succ, List.set_cons_zero])
        refine takeH (i := 1) rfl (.there .here) (by kernel_rfl) (by kernel_rfl) (by kernel_rfl) (fun _ _ _ h => absurd h.1 (by simp)) (yields_val (v := (.int .i64 g)) rfl (fun _ => by go_simp)) ⟨H.rw_ (by repeat (first | exact Take.head | apply Take.tail)), H.rw_ (by repeat (first | exact Take.head | apply Take.tail)), H.rw_ (by repeat (first | exact Take.head | apply Take.tail))⟩ ?_
        (try simp only [Act.put, List.setIfInBounds_toArray, List.set_cons_succ, List.set_cons_zero])
        refine takeH (i := 2) rfl (.there (.there .here)) (by kernel_rfl) (by kernel_rfl) (by kernel_rfl) (fun _ _ _ h => absurd h.1 (by simp)) (yields_load1_R rfl rfl rfl (fun _ hS => hS.2.1) rfl) ⟨H.rw_ (by repeat (first | exact Take.head | apply Take.tail)), H.rw_ (by repeat (first | exact Take.head | apply Take.tail)), H.rw_ (by repeat (first | exact Take.head | apply Take.tail))⟩ ?_
        (try simp only [Act.put, List.setIfInBounds_toArray, List.set_cons_succ, List.set_cons_zero])
        refine takeH (i := 8) rfl (.there (.there (.there (.there (.there (.there (.there (.there .here)))))))) (by kernel_rfl) (by kernel_rfl) (by kernel_rfl) (fun _ _ _ h => absurd h.1 (by simp)) (yields_val (v := (.func (.func 39) #[] #[.pointer (some ⟨bP, 0, none⟩), .pointer (some ⟨bS, 0, none⟩)])) rfl (fun _ => by go_simp)) ⟨H.rw_ (by repeat (first | exact Take.head | apply Take.tail)), H.rw_ (by repeat (first | exact Take.head | apply Take.tail)), H.rw_ (by repeat (first | exact Take.head | apply Take.tail))⟩ ?_
        (try simp only [Act.put, List.setIfInBounds_toArray, List.set_cons_succ, List.set_cons_zero])
        refine anyH_1 (i := 3) (by kernel_rfl) ?_
        refine wpOp_at rfl (.there (.there (.there .here))) rfl ?_
        refine wp_call_H Try.f37 rfl rfl Try.func37 (by kernel_rfl) rfl rfl (val_eq (same_v H (has_any p 4 _)) (by rw [e1])) ?_
        clear H
        rintro _ w ⟨rfl, H⟩
        refine ⟨⟨H.rw_ (by repeat (first | exact Take.head | apply Take.tail)), H.rw_ (by repeat (first | exact Take.head | apply Take.tail)), H.rw_ (by repeat (first | exact Take.head | apply Take.tail))⟩, ?_⟩
        (try simp only [Act.put, List.setIfInBounds_toArray, List.set_cons_succ, List.set_cons_zero])
        refine takeH (i := 4) rfl (.there (.there (.there (.there .here)))) (by kernel_rfl) (by kernel_rfl) (by kernel_rfl) (fun _ _ _ h => absurd h.1 (by simp)) (yields_val (v := (.bool true)) rfl (fun _ => by go_simp)) ⟨H.rw_ (by repeat (first | exact Take.head | apply Take.tail)), H.rw_ (by repeat (first | exact Take.head | apply Take.tail)), H.rw_ (by repeat (first | exact Take.head | apply Take.tail))⟩ ?_
        (try simp only [Act.put, List.setIfInBounds_toArray, List.set_cons_succ, List.set_cons_zero])
        refine takeH (i := 5) rfl (.there (.there (.there (.there (.there .here))))) (by kernel_rfl) (by kernel_rfl) (by kernel_rfl) (fun _ _ _ h => absurd h.1 (by simp)) (yields_loads_R rfl rfl rfl (fun _ hS => hS.2.2) (by repeat (first | exact GetsAt.nil | apply GetsAt.here | apply GetsAt.there))) ⟨H.rw_ (by repeat (first | exact Take.head | apply Take.tail)), H.rw_ (by repeat (first | exact Take.head | apply Take.tail)), H.rw_ (by repeat (first | exact Take.head | apply Take.tail))⟩ ?_
        (try simp only [Act.put, List.setIfInBounds_toArray, List.set_cons_succ, List.set_cons_zero])
        refine anyH_1 (i := 6) (by kernel_rfl) ?_
        refine wpOp_at rfl (.there (.there (.there (.there (.there (.there .here)))))) rfl ?_
        refine wp_call_H Try.f38 rfl rfl Try.func38 (by kernel_rfl) rfl rfl (val_eq (below_v H (slotOk_c s 8 _)) (by rw [e2])) ?_
        clear H
        rintro _ w ⟨rfl, H⟩
        refine ⟨⟨H.rw_ (by repeat (first | exact Take.head | apply Take.tail)), H.rw_ (by repeat (first | exact Take.head | apply Take.tail)), H.rw_ (by repeat (first | exact Take.head | apply Take.tail))⟩, ?_⟩
        (try simp only [Act.put, List.setIfInBounds_toArray, List.set_cons_succ, List.set_cons_zero])
        refine takeH (i := 7) rfl (.there (.there (.there (.there (.there (.there (.there .here))))))) (by kernel_rfl) (by kernel_rfl) (by kernel_rfl) (fun _ _ _ h => absurd h.1 (by simp)) (yields_val (v := (.bool false)) rfl (fun _ => by go_simp)) ⟨H.rw_ (by repeat (first | exact Take.head | apply Take.tail)), H.rw_ (by repeat (first | exact Take.head | apply Take.tail)), H.rw_ (by repeat (first | exact Take.head | apply Take.tail))⟩ ?_
        (try simp only [Act.put, List.setIfInBounds_toArray, List.set_cons_succ, List.set_cons_zero])
        refine anyH_1 (i := 9) (by kernel_rfl) ?_
        refine wpOp_at rfl (.there (.there (.there (.there (.there (.there (.there (.there (.there .here))))))))) rfl ?_
        refine wp_call_H Try.f36 rfl rfl Try.func36 (by kernel_rfl) rfl rfl (made_H (val := fun d : BV => .tuple #[d.val, .bool (chOkM B.m g false)]) H (changed_c B g false 39 Try.f39 Try.func39 (by kernel_rfl) #[.pointer (some ⟨bP, 0, none⟩), .pointer (some ⟨bS, 0, none⟩)] (setG p s) _ (R.at_ H) Z (by unfold setG MG.size; rw [withSlot_len]; exact Nat.le_trans (gAtM_size B.m g) Z) (fun x _ hb Rx Zx => bareSet1_c x p s bP bS _ Rx Zx ((H.rw_ (cs := [.int .i64 p]) (by repeat (first | exact Take.head | apply Take.tail))).below_ hb) ((H.rw_ (cs := [.int .i64 s.page, .int .i64 s.rights]) (by repeat (first | exact Take.head | apply Take.tail))).below_ hb)))) ?_
        clear H
        rintro _ w ⟨d, rfl, HD, H⟩
        refine ⟨⟨H.rw_ (by repeat (first | exact Take.head | apply Take.tail)), H.rw_ (by repeat (first | exact Take.head | apply Take.tail)), H.rw_ (by repeat (first | exact Take.head | apply Take.tail))⟩, ?_⟩
        (try simp only [Act.put, List.setIfInBounds_toArray, List.set_cons_succ, List.set_cons_zero])
        refine takeH (i := 10) rfl (.there (.there (.there (.there (.there (.there (.there (.there (.there (.there .here)))))))))) (by kernel_rfl) (by kernel_rfl) (by kernel_rfl) (fun _ _ _ h => absurd h.1 (by simp)) (yields_val (v := d.val) rfl (fun _ => by go_simp)) ⟨H.rw_ (by repeat (first | exact Take.head | apply Take.tail)), H.rw_ (by repeat (first | exact Take.head | apply Take.tail)), H.rw_ (by repeat (first | exact Take.head | apply Take.tail))⟩ ?_
        (try simp only [Act.put, List.setIfInBounds_toArray, List.set_cons_succ, List.set_cons_zero])
        refine takeH (i := 11) rfl (.there (.there (.there (.there (.there (.there (.there (.there (.there (.there (.there .here))))))))))) (by kernel_rfl) (by kernel_rfl) (by kernel_rfl) (fun _ _ _ h => absurd h.1 (by simp)) (yields_val (v := (.bool (chOkM B.m g false))) rfl (fun _ => by go_simp)) ⟨H.rw_ (by repeat (first | exact Take.head | apply Take.tail)), H.rw_ (by repeat (first | exact Take.head | apply Take.tail)), H.rw_ (by repeat (first | exact Take.head | apply Take.tail))⟩ ?_
        (try simp only [Act.put, List.setIfInBounds_toArray, List.set_cons_succ, List.set_cons_zero])
        refine anyH_1 (i := 12) (by kernel_rfl) ?_
        refine wpOp_at rfl (.there (.there (.there (.there (.there (.there (.there (.there (.there (.there (.there (.there .here)))))))))))) rfl ?_
        refine wp_store_H rfl H rfl rfl (by repeat (first | (apply StoreAt.here; (first | exact CellsOf.agg | exact CellsOf.int | exact CellsOf.bool | exact CellsOf.slice | exact CellsOf.string | exact CellsOf.pointer | exact CellsOf.func); (repeat (first | exact SetsAt.nil | apply SetsAt.here | apply SetsAt.there)); exact rfl; exact rfl) | apply StoreAt.there)) ?_
        clear H
        intro w H
        refine ⟨⟨H.rw_ (by repeat (first | exact Take.head | apply Take.tail)), H.rw_ (by repeat (first | exact Take.head | apply Take.tail)), H.rw_ (by repeat (first | exact Take.head | apply Take.tail))⟩, ?_⟩
        (try simp only [Act.put, List.setIfInBounds_toArray, List.set_cons_succ, List.set_cons_zero])
        refine takeH (i := 13) rfl (.there (.there (.there (.there (.there (.there (.there (.there (.there (.there (.there (.there (.there .here))))))))))))) (by kernel_rfl) (by kernel_rfl) (by kernel_rfl) (fun _ _ _ h => absurd h.1 (by simp)) (yields_val (v := (.bool (chOkM B.m g false))) rfl (fun _ => by go_simp)) ⟨H.rw_ (by repeat (first | exact Take.head | apply Take.tail)), H.rw_ (by repeat (first | exact Take.head | apply Take.tail)), H.rw_ (by repeat (first | exact Take.head | apply Take.tail))⟩ ?_
        (try simp only [Act.put, List.setIfInBounds_toArray, List.set_cons_succ, List.set_cons_zero])
        refine wpAnyH_done (by kernel_rfl) ?_ _
        exact ⟨rfl, d, HD, H.pick (.cons (by repeat (first | exact Take.head | apply Take.tail)) (.cons (by repeat (first | exact Take.head | apply Take.tail)) .nil)), by first | (simp only [puts_cons, puts_nil, Act.put, List.setIfInBounds_toArray, List.set_cons_succ, List.set_cons_zero]; done) | (simp only [puts_cons, puts_nil, Act.put, List.setIfInBounds_toArray, List.set_cons_succ, List.set_cons_zero]; rfl)⟩
      clear H
      rintro u w ⟨d, HD, H, rfl⟩
      simp only [puts_cons, puts_nil, Act.put, List.setIfInBounds_toArray, List.set_cons_succ, List.set_cons_zero]
      go_wp2_with (first
        | go_skip
        | ((with_reducible refine at_box ?_); first | (refine wpList_box_H rfl rfl H rfl (by first | exact CellsOf.agg | exact CellsOf.int | exact CellsOf.bool | exact CellsOf.slice | exact CellsOf.string | exact CellsOf.pointer | exact CellsOf.func) ?_; clear H; intro b w H))
        | ((with_reducible refine at_alloc ?_); first | (refine wpList_alloc_H rfl rfl H ?_; clear H; intro b w H))
        | ((with_reducible refine at_load ?_); first | (refine wpList_load_H rfl rfl H rfl (by repeat (first | exact LoadAt.here rfl | apply LoadAt.there)) ?_) | (refine wpList_loads_H rfl rfl H rfl (by repeat (first | (apply LoadsAt.here; repeat (first | exact GetsAt.nil | apply GetsAt.here | apply GetsAt.there)) | apply LoadsAt.there)) ?_))
        | ((with_reducible refine at_store ?_); first | (refine wpList_store_H rfl rfl H rfl rfl (by repeat (first | (apply StoreAt.here; (first | exact CellsOf.agg | exact CellsOf.int | exact CellsOf.bool | exact CellsOf.slice | exact CellsOf.string | exact CellsOf.pointer | exact CellsOf.func); (repeat (first | exact SetsAt.nil | apply SetsAt.here | apply SetsAt.there)); exact rfl; exact rfl) | apply StoreAt.there)) ?_; clear H; intro w H)))
      refine bodyPost_ret (results_H2 rfl H rfl (by repeat (first | (apply LoadsAt.here; repeat (first | exact GetsAt.nil | apply GetsAt.here | apply GetsAt.there)) | apply LoadsAt.there))) rfl ⟨d, rfl, HD.out, H.pick (.cons (by repeat (first | exact Take.head | apply Take.tail)) .nil)⟩
    · have H := Hp.start W0
      go_enter Try.func13, Try.ntmps13
      go_wp2_with (first
        | go_skip
        | ((with_reducible refine at_box ?_); first | (refine wpList_box_H (cs := (barr B).toList) rfl rfl H rfl CellsOf.agg ?_; clear H; intro bB w H) | (refine wpList_box_H (cs := [.int .i64 p]) rfl rfl H rfl CellsOf.int ?_; clear H; intro bP w H) | (refine wpList_box_H rfl rfl H rfl (by first | exact CellsOf.agg | exact CellsOf.int | exact CellsOf.bool | exact CellsOf.slice | exact CellsOf.string | exact CellsOf.pointer | exact CellsOf.func) ?_; clear H; intro bS w H))
        | ((with_reducible refine at_alloc ?_); first | (refine wpList_alloc_H rfl rfl H ?_; clear H; intro bR w H))
        | ((with_reducible refine at_load ?_); first | (refine wpList_load_H rfl rfl H rfl (by repeat (first | exact LoadAt.here rfl | apply LoadAt.there)) ?_) | (refine wpList_loads_H rfl rfl H rfl (by repeat (first | (apply LoadsAt.here; repeat (first | exact GetsAt.nil | apply GetsAt.here | apply GetsAt.there)) | apply LoadsAt.there)) ?_))
        | ((with_reducible refine at_store ?_); first | (refine wpList_store_H rfl rfl H rfl rfl (by repeat (first | (apply StoreAt.here; (first | exact CellsOf.agg | exact CellsOf.int | exact CellsOf.bool | exact CellsOf.slice | exact CellsOf.string | exact CellsOf.pointer | exact CellsOf.func); (repeat (first | exact SetsAt.nil | apply SetsAt.here | apply SetsAt.there)); exact rfl; exact rfl) | apply StoreAt.there)) ?_; clear H; intro w H)))
      refine wp_cut (fun u a' w' => ∃ (d : BV), Hid (d.m = changedM B.m g true (setG p s)) ∧ Hp W0 w' [.bare d, .box bR 31 (barr d).toList] ∧ a' = puts u [(10, B.val), (11, (.int .i64 g)), (12, (.int .i64 p)), (13, (.bool true)), (14, (.bool true)), (15, s.val), (16, (.bool true)), (17, (.bool true)), (18, (.func (.func 39) #[] #[.pointer (some ⟨bP, 0, none⟩), .pointer (some ⟨bS, 0, none⟩)])), (19, (.tuple #[d.val, .bool (chOkM B.m g true)])), (20, d.val), (21, (.bool (chOkM B.m g true))), (9, (.bool (chOkM B.m g true)))]) ?_ ?_
      · refine wp_region_held (S := (fun w' => Rw w' bB 31 (barr B) ∧ (Rw w' bP 3 ([.int .i64 p] : List Value).toArray ∧ Rw w' bS 27 ([.int .i64 s.page, .int .i64 s.rights] : List Value).toArray))) (by kernel_rfl) ?_
        replace H := H.drew
        refine takeH (i := 0) rfl .here (by kernel_rfl) (by kernel_rfl) (by kernel_rfl) (fun _ _ _ h => absurd h.1 (by simp)) (yields_loads_R rfl rfl rfl (fun _ hS => hS.1) (by repeat (first | exact GetsAt.nil | apply GetsAt.here | apply GetsAt.there))) ⟨H.rw_ (by repeat (first | exact Take.head | apply Take.tail)), H.rw_ (by repeat (first | exact Take.head | apply Take.tail)), H.rw_ (by repeat (first | exact Take.head | apply Take.tail))⟩ ?_
        (try simp only [Act.put, List.setIfInBounds_toArray, List.set_cons_succ, List.set_cons_zero])
        refine takeH (i := 1) rfl (.there .here) (by kernel_rfl) (by kernel_rfl) (by kernel_rfl) (fun _ _ _ h => absurd h.1 (by simp)) (yields_val (v := (.int .i64 g)) rfl (fun _ => by go_simp)) ⟨H.rw_ (by repeat (first | exact Take.head | apply Take.tail)), H.rw_ (by repeat (first | exact Take.head | apply Take.tail)), H.rw_ (by repeat (first | exact Take.head | apply Take.tail))⟩ ?_
        (try simp only [Act.put, List.setIfInBounds_toArray, List.set_cons_succ, List.set_cons_zero])
        refine takeH (i := 2) rfl (.there (.there .here)) (by kernel_rfl) (by kernel_rfl) (by kernel_rfl) (fun _ _ _ h => absurd h.1 (by simp)) (yields_load1_R rfl rfl rfl (fun _ hS => hS.2.1) rfl) ⟨H.rw_ (by repeat (first | exact Take.head | apply Take.tail)), H.rw_ (by repeat (first | exact Take.head | apply Take.tail)), H.rw_ (by repeat (first | exact Take.head | apply Take.tail))⟩ ?_
        (try simp only [Act.put, List.setIfInBounds_toArray, List.set_cons_succ, List.set_cons_zero])
        refine takeH (i := 8) rfl (.there (.there (.there (.there (.there (.there (.there (.there .here)))))))) (by kernel_rfl) (by kernel_rfl) (by kernel_rfl) (fun _ _ _ h => absurd h.1 (by simp)) (yields_val (v := (.func (.func 39) #[] #[.pointer (some ⟨bP, 0, none⟩), .pointer (some ⟨bS, 0, none⟩)])) rfl (fun _ => by go_simp)) ⟨H.rw_ (by repeat (first | exact Take.head | apply Take.tail)), H.rw_ (by repeat (first | exact Take.head | apply Take.tail)), H.rw_ (by repeat (first | exact Take.head | apply Take.tail))⟩ ?_
        (try simp only [Act.put, List.setIfInBounds_toArray, List.set_cons_succ, List.set_cons_zero])
        refine anyH_1 (i := 3) (by kernel_rfl) ?_
        refine wpOp_at rfl (.there (.there (.there .here))) rfl ?_
        refine wp_call_H Try.f37 rfl rfl Try.func37 (by kernel_rfl) rfl rfl (val_eq (same_v H (has_any p 4 _)) (by rw [e1])) ?_
        clear H
        rintro _ w ⟨rfl, H⟩
        refine ⟨⟨H.rw_ (by repeat (first | exact Take.head | apply Take.tail)), H.rw_ (by repeat (first | exact Take.head | apply Take.tail)), H.rw_ (by repeat (first | exact Take.head | apply Take.tail))⟩, ?_⟩
        (try simp only [Act.put, List.setIfInBounds_toArray, List.set_cons_succ, List.set_cons_zero])
        refine takeH (i := 4) rfl (.there (.there (.there (.there .here)))) (by kernel_rfl) (by kernel_rfl) (by kernel_rfl) (fun _ _ _ h => absurd h.1 (by simp)) (yields_val (v := (.bool true)) rfl (fun _ => by go_simp)) ⟨H.rw_ (by repeat (first | exact Take.head | apply Take.tail)), H.rw_ (by repeat (first | exact Take.head | apply Take.tail)), H.rw_ (by repeat (first | exact Take.head | apply Take.tail))⟩ ?_
        (try simp only [Act.put, List.setIfInBounds_toArray, List.set_cons_succ, List.set_cons_zero])
        refine takeH (i := 5) rfl (.there (.there (.there (.there (.there .here))))) (by kernel_rfl) (by kernel_rfl) (by kernel_rfl) (fun _ _ _ h => absurd h.1 (by simp)) (yields_loads_R rfl rfl rfl (fun _ hS => hS.2.2) (by repeat (first | exact GetsAt.nil | apply GetsAt.here | apply GetsAt.there))) ⟨H.rw_ (by repeat (first | exact Take.head | apply Take.tail)), H.rw_ (by repeat (first | exact Take.head | apply Take.tail)), H.rw_ (by repeat (first | exact Take.head | apply Take.tail))⟩ ?_
        (try simp only [Act.put, List.setIfInBounds_toArray, List.set_cons_succ, List.set_cons_zero])
        refine anyH_1 (i := 6) (by kernel_rfl) ?_
        refine wpOp_at rfl (.there (.there (.there (.there (.there (.there .here)))))) rfl ?_
        refine wp_call_H Try.f38 rfl rfl Try.func38 (by kernel_rfl) rfl rfl (val_eq (below_v H (slotOk_c s 8 _)) (by rw [e2])) ?_
        clear H
        rintro _ w ⟨rfl, H⟩
        refine ⟨⟨H.rw_ (by repeat (first | exact Take.head | apply Take.tail)), H.rw_ (by repeat (first | exact Take.head | apply Take.tail)), H.rw_ (by repeat (first | exact Take.head | apply Take.tail))⟩, ?_⟩
        (try simp only [Act.put, List.setIfInBounds_toArray, List.set_cons_succ, List.set_cons_zero])
        refine takeH (i := 7) rfl (.there (.there (.there (.there (.there (.there (.there .here))))))) (by kernel_rfl) (by kernel_rfl) (by kernel_rfl) (fun _ _ _ h => absurd h.1 (by simp)) (yields_val (v := (.bool true)) rfl (fun _ => by go_simp)) ⟨H.rw_ (by repeat (first | exact Take.head | apply Take.tail)), H.rw_ (by repeat (first | exact Take.head | apply Take.tail)), H.rw_ (by repeat (first | exact Take.head | apply Take.tail))⟩ ?_
        (try simp only [Act.put, List.setIfInBounds_toArray, List.set_cons_succ, List.set_cons_zero])
        refine anyH_1 (i := 9) (by kernel_rfl) ?_
        refine wpOp_at rfl (.there (.there (.there (.there (.there (.there (.there (.there (.there .here))))))))) rfl ?_
        refine wp_call_H Try.f36 rfl rfl Try.func36 (by kernel_rfl) rfl rfl (made_H (val := fun d : BV => .tuple #[d.val, .bool (chOkM B.m g true)]) H (changed_c B g true 39 Try.f39 Try.func39 (by kernel_rfl) #[.pointer (some ⟨bP, 0, none⟩), .pointer (some ⟨bS, 0, none⟩)] (setG p s) _ (R.at_ H) Z (by unfold setG MG.size; rw [withSlot_len]; exact Nat.le_trans (gAtM_size B.m g) Z) (fun x _ hb Rx Zx => bareSet1_c x p s bP bS _ Rx Zx ((H.rw_ (cs := [.int .i64 p]) (by repeat (first | exact Take.head | apply Take.tail))).below_ hb) ((H.rw_ (cs := [.int .i64 s.page, .int .i64 s.rights]) (by repeat (first | exact Take.head | apply Take.tail))).below_ hb)))) ?_
        clear H
        rintro _ w ⟨d, rfl, HD, H⟩
        refine ⟨⟨H.rw_ (by repeat (first | exact Take.head | apply Take.tail)), H.rw_ (by repeat (first | exact Take.head | apply Take.tail)), H.rw_ (by repeat (first | exact Take.head | apply Take.tail))⟩, ?_⟩
        (try simp only [Act.put, List.setIfInBounds_toArray, List.set_cons_succ, List.set_cons_zero])
        refine takeH (i := 10) rfl (.there (.there (.there (.there (.there (.there (.there (.there (.there (.there .here)))))))))) (by kernel_rfl) (by kernel_rfl) (by kernel_rfl) (fun _ _ _ h => absurd h.1 (by simp)) (yields_val (v := d.val) rfl (fun _ => by go_simp)) ⟨H.rw_ (by repeat (first | exact Take.head | apply Take.tail)), H.rw_ (by repeat (first | exact Take.head | apply Take.tail)), H.rw_ (by repeat (first | exact Take.head | apply Take.tail))⟩ ?_
        (try simp only [Act.put, List.setIfInBounds_toArray, List.set_cons_succ, List.set_cons_zero])
        refine takeH (i := 11) rfl (.there (.there (.there (.there (.there (.there (.there (.there (.there (.there (.there .here))))))))))) (by kernel_rfl) (by kernel_rfl) (by kernel_rfl) (fun _ _ _ h => absurd h.1 (by simp)) (yields_val (v := (.bool (chOkM B.m g true))) rfl (fun _ => by go_simp)) ⟨H.rw_ (by repeat (first | exact Take.head | apply Take.tail)), H.rw_ (by repeat (first | exact Take.head | apply Take.tail)), H.rw_ (by repeat (first | exact Take.head | apply Take.tail))⟩ ?_
        (try simp only [Act.put, List.setIfInBounds_toArray, List.set_cons_succ, List.set_cons_zero])
        refine anyH_1 (i := 12) (by kernel_rfl) ?_
        refine wpOp_at rfl (.there (.there (.there (.there (.there (.there (.there (.there (.there (.there (.there (.there .here)))))))))))) rfl ?_
        refine wp_store_H rfl H rfl rfl (by repeat (first | (apply StoreAt.here; (first | exact CellsOf.agg | exact CellsOf.int | exact CellsOf.bool | exact CellsOf.slice | exact CellsOf.string | exact CellsOf.pointer | exact CellsOf.func); (repeat (first | exact SetsAt.nil | apply SetsAt.here | apply SetsAt.there)); exact rfl; exact rfl) | apply StoreAt.there)) ?_
        clear H
        intro w H
        refine ⟨⟨H.rw_ (by repeat (first | exact Take.head | apply Take.tail)), H.rw_ (by repeat (first | exact Take.head | apply Take.tail)), H.rw_ (by repeat (first | exact Take.head | apply Take.tail))⟩, ?_⟩
        (try simp only [Act.put, List.setIfInBounds_toArray, List.set_cons_succ, List.set_cons_zero])
        refine takeH (i := 13) rfl (.there (.there (.there (.there (.there (.there (.there (.there (.there (.there (.there (.there (.there .here))))))))))))) (by kernel_rfl) (by kernel_rfl) (by kernel_rfl) (fun _ _ _ h => absurd h.1 (by simp)) (yields_val (v := (.bool (chOkM B.m g true))) rfl (fun _ => by go_simp)) ⟨H.rw_ (by repeat (first | exact Take.head | apply Take.tail)), H.rw_ (by repeat (first | exact Take.head | apply Take.tail)), H.rw_ (by repeat (first | exact Take.head | apply Take.tail))⟩ ?_
        (try simp only [Act.put, List.setIfInBounds_toArray, List.set_cons_succ, List.set_cons_zero])
        refine wpAnyH_done (by kernel_rfl) ?_ _
        exact ⟨rfl, d, HD, H.pick (.cons (by repeat (first | exact Take.head | apply Take.tail)) (.cons (by repeat (first | exact Take.head | apply Take.tail)) .nil)), by first | (simp only [puts_cons, puts_nil, Act.put, List.setIfInBounds_toArray, List.set_cons_succ, List.set_cons_zero]; done) | (simp only [puts_cons, puts_nil, Act.put, List.setIfInBounds_toArray, List.set_cons_succ, List.set_cons_zero]; rfl)⟩
      clear H
      rintro u w ⟨d, HD, H, rfl⟩
      simp only [puts_cons, puts_nil, Act.put, List.setIfInBounds_toArray, List.set_cons_succ, List.set_cons_zero]
      go_wp2_with (first
        | go_skip
        | ((with_reducible refine at_box ?_); first | (refine wpList_box_H rfl rfl H rfl (by first | exact CellsOf.agg | exact CellsOf.int | exact CellsOf.bool | exact CellsOf.slice | exact CellsOf.string | exact CellsOf.pointer | exact CellsOf.func) ?_; clear H; intro b w H))
        | ((with_reducible refine at_alloc ?_); first | (refine wpList_alloc_H rfl rfl H ?_; clear H; intro b w H))
        | ((with_reducible refine at_load ?_); first | (refine wpList_load_H rfl rfl H rfl (by repeat (first | exact LoadAt.here rfl | apply LoadAt.there)) ?_) | (refine wpList_loads_H rfl rfl H rfl (by repeat (first | (apply LoadsAt.here; repeat (first | exact GetsAt.nil | apply GetsAt.here | apply GetsAt.there)) | apply LoadsAt.there)) ?_))
        | ((with_reducible refine at_store ?_); first | (refine wpList_store_H rfl rfl H rfl rfl (by repeat (first | (apply StoreAt.here; (first | exact CellsOf.agg | exact CellsOf.int | exact CellsOf.bool | exact CellsOf.slice | exact CellsOf.string | exact CellsOf.pointer | exact CellsOf.func); (repeat (first | exact SetsAt.nil | apply SetsAt.here | apply SetsAt.there)); exact rfl; exact rfl) | apply StoreAt.there)) ?_; clear H; intro w H)))
      refine bodyPost_ret (results_H2 rfl H rfl (by repeat (first | (apply LoadsAt.here; repeat (first | exact GetsAt.nil | apply GetsAt.here | apply GetsAt.there)) | apply LoadsAt.there))) rfl ⟨d, rfl, HD.out, H.pick (.cons (by repeat (first | exact Take.head | apply Take.tail)) .nil)⟩
end Go.Proofs.Ytjiiobliadeldaa

/- Contracts of BareAnswer and BareResume, of the program and of the reference. No condition but that the arguments lie in memory. -/
namespace Go.Proofs.Ytjiiobliadeldaa
set_option linter.unusedSimpArgs false
set_option linter.unusedVariables false
open Go.RowKit
@[go_sem] theorem run_field_exit0 (a b c e : Value) (w : World) : (Instr.field 46 (.agg #[a, b, c, e]) 0).run Try.prog w = .ok a w := by kernel_rfl
abbrev noExit : Exit := ⟨0, 0, false, 0⟩
def ansC (m : MB) (g v : Int) : Bool := ((gAtM m g).exit.kind == 2 || (gAtM m g).exit.kind == 3) && inB v 0 99
def ansF (m : MB) (g v : Int) : MG → MG := answerG (gAtM m g).exit.kind v
def resC (m : MB) (g : Int) : Bool := (gAtM m g).exit.kind == 1 || (gAtM m g).exit.kind == 4
def resF (m : MB) (g : Int) : MG → MG := resumeG (gAtM m g).exit.kind
theorem moved_sz (m : MG) : (movedM m).size = m.size := rfl
theorem answer_sz (kd v : Int) (m : MG) : (answerG kd v m).size = m.size := by unfold answerG stoppedM; split <;> rfl
theorem resume_sz (kd : Int) (m : MG) : (resumeG kd m).size = m.size := by unfold resumeG heldM; split <;> rfl
theorem mkg {w : World} {e : Ending} {w' : World} {m : MG} (h : MkG w m e w') : ∃ d : GV, e = .returned d.val ∧ d.m = m ∧ Hp w w' [.gst d] := by
  obtain ⟨d, he, hm, ho, hb⟩ := MkGc.val h
  exact ⟨d, he, hm, Hp.of_gst ho hb⟩
set_option linter.unusedSimpArgs false in
set_option linter.unusedVariables false in
set_option maxRecDepth 100000 in
set_option maxHeartbeats 4000000 in
theorem bareResume1_t (x : GV) (kd : Int) (hk : (kd == 4) = true) (b : Nat) (W0 : World) (R : GRd W0 x) (Z : GBig x) (h5 : Rw W0 b 3 ([.int .i64 kd] : List Value).toArray) : Calls Try.prog 77 #[x.val, .pointer (some ⟨b, 0, none⟩)] W0 fun e w' => ∃ y : GV, e = .returned y.val ∧ (y.m = resumeG kd x.m ∧ GRd w' y) ∧ Below W0.heap.size W0 w' := by
  have H := Hp.start W0
  go_enter Try.func77, Try.ntmps77
  go_wp2_with (first
    | go_skip
    | ((with_reducible refine at_box ?_); first | (refine wpList_box_H rfl rfl H rfl (by first | exact CellsOf.agg | exact CellsOf.int | exact CellsOf.bool | exact CellsOf.slice | exact CellsOf.string | exact CellsOf.pointer | exact CellsOf.func) ?_; clear H; intro bX w H))
    | ((with_reducible refine at_alloc ?_); first | (refine wpList_alloc_H rfl rfl H ?_; clear H; intro bR w H))
    | ((with_reducible refine at_load ?_); first | (refine wpList_loadc rfl rfl H rfl h5 rfl ?_) | (refine wpList_load_H rfl rfl H rfl (by repeat (first | exact LoadAt.here rfl | apply LoadAt.there)) ?_) | (refine wpList_loads_H rfl rfl H rfl (by repeat (first | (apply LoadsAt.here; repeat (first | exact GetsAt.nil | apply GetsAt.here | apply GetsAt.there)) | apply LoadsAt.there)) ?_))
    | ((with_reducible refine at_store ?_); first | (refine wpList_store_H rfl rfl H rfl rfl (by repeat (first | (apply StoreAt.here; (first | exact CellsOf.agg | exact CellsOf.int | exact CellsOf.bool | exact CellsOf.slice | exact CellsOf.string | exact CellsOf.pointer | exact CellsOf.func); (repeat (first | exact SetsAt.nil | apply SetsAt.here | apply SetsAt.there)); exact rfl; exact rfl) | apply StoreAt.there)) ?_; clear H; intro w H))
    | (go_at_call 73; refine (held_c (⟨x.prog, x.a, x.pc, x.written, x.live, x.ctl, x.pending, noExit, x.halted, x.seen⟩ : GV) _ rfl _ ⟨(R.at_ H).prog, (R.at_ H).written, (R.at_ H).live, (R.at_ H).seen⟩ Z).mono ?_; rintro e w hmk; obtain ⟨y, he, x1, K⟩ := mkg hmk; subst he; have Hy : Hid (y.m = heldM (⟨x.prog, x.a, x.pc, x.written, x.live, x.ctl, x.pending, noExit, x.halted, x.seen⟩ : GV).m) := x1; clear x1 hmk; replace H := H.add_all K; clear K))
  refine bodyPost_ret (results_H rfl H rfl (by repeat (first | (apply LoadsAt.here; repeat (first | exact GetsAt.nil | apply GetsAt.here | apply GetsAt.there)) | apply LoadsAt.there))) rfl ⟨y, rfl, ⟨?_, H.grd1 (by repeat (first | exact Take.head | apply Take.tail))⟩, H.below⟩
  rw [Hy.out]; unfold resumeG
  rw [if_pos (by simpa using hk)]
  all_goals rfl
set_option linter.unusedSimpArgs false in
set_option linter.unusedVariables false in
set_option maxRecDepth 100000 in
set_option maxHeartbeats 4000000 in
theorem bareResume1_f (x : GV) (kd : Int) (hk : (kd == 4) = false) (b : Nat) (W0 : World) (R : GRd W0 x) (Z : GBig x) (h5 : Rw W0 b 3 ([.int .i64 kd] : List Value).toArray) : Calls Try.prog 77 #[x.val, .pointer (some ⟨b, 0, none⟩)] W0 fun e w' => ∃ y : GV, e = .returned y.val ∧ (y.m = resumeG kd x.m ∧ GRd w' y) ∧ Below W0.heap.size W0 w' := by
  have H := Hp.start W0
  go_enter Try.func77, Try.ntmps77
  go_wp2_with (first
    | go_skip
    | ((with_reducible refine at_box ?_); first | (refine wpList_box_H rfl rfl H rfl (by first | exact CellsOf.agg | exact CellsOf.int | exact CellsOf.bool | exact CellsOf.slice | exact CellsOf.string | exact CellsOf.pointer | exact CellsOf.func) ?_; clear H; intro bX w H))
    | ((with_reducible refine at_alloc ?_); first | (refine wpList_alloc_H rfl rfl H ?_; clear H; intro bR w H))
    | ((with_reducible refine at_load ?_); first | (refine wpList_loadc rfl rfl H rfl h5 rfl ?_) | (refine wpList_load_H rfl rfl H rfl (by repeat (first | exact LoadAt.here rfl | apply LoadAt.there)) ?_) | (refine wpList_loads_H rfl rfl H rfl (by repeat (first | (apply LoadsAt.here; repeat (first | exact GetsAt.nil | apply GetsAt.here | apply GetsAt.there)) | apply LoadsAt.there)) ?_))
    | ((with_reducible refine at_store ?_); first | (refine wpList_store_H rfl rfl H rfl rfl (by repeat (first | (apply StoreAt.here; (first | exact CellsOf.agg | exact CellsOf.int | exact CellsOf.bool | exact CellsOf.slice | exact CellsOf.string | exact CellsOf.pointer | exact CellsOf.func); (repeat (first | exact SetsAt.nil | apply SetsAt.here | apply SetsAt.there)); exact rfl; exact rfl) | apply StoreAt.there)) ?_; clear H; intro w H)))
  refine bodyPost_ret (results_H rfl H rfl (by repeat (first | (apply LoadsAt.here; repeat (first | exact GetsAt.nil | apply GetsAt.here | apply GetsAt.there)) | apply LoadsAt.there))) rfl ⟨⟨x.prog, x.a, x.pc, x.written, x.live, x.ctl, x.pending, noExit, x.halted, x.seen⟩, rfl, ⟨?_, ⟨R.prog.at_ H, R.written.at_ H, R.live.at_ H, R.seen.at_ H⟩⟩, H.below⟩
  unfold resumeG
  rw [if_neg (by simpa using hk)]
  all_goals rfl
end Go.Proofs.Ytjiiobliadeldaa

/- Contracts of BareAnswer of the reference and of BareResume of both sides. No condition but that the arguments lie in memory. -/
namespace Go.Proofs.Ytjiiobliadeldaa
set_option linter.unusedSimpArgs false
set_option linter.unusedVariables false
open Go.RowKit
theorem wg_put {d : BV} {m : MB} {k : Nat} {y q : GV} {F : MG → MG} (hd : Hid (d.m = m)) (hy : Hid (d.gs.xs[k]? = some y)) (hq : q.m = F y.m) : (⟨d.mem, ⟨d.gs.A, d.gs.c, d.gs.xs.set k q⟩, d.outs, d.pend⟩ : BV).m = withGuestM m k (F (gAtM m k)) := by
  rw [← hd.out, wg_hit hy.out]
  simp only [BV.m, gsOf, List.map_set]; rw [hq]
set_option linter.unusedSimpArgs false in
set_option linter.unusedVariables false in
set_option maxRecDepth 100000 in
set_option maxHeartbeats 4000000 in
theorem bareResume_c (B : BV) (g : Int) (W0 : World) (R : BRd W0 B) (Z : BBig B) : Calls Try.prog 27 #[B.val, .int .i64 g] W0 fun e w' => ∃ d : BV, e = .returned (.tuple #[d.val, .bool (chOkM B.m g (resC B.m g))]) ∧ d.m = changedM B.m g (resC B.m g) (resF B.m g) ∧ Hp W0 w' [.bare d] := by
  obtain ⟨X, hX⟩ : ∃ X, X = (gAtM B.m g).exit := ⟨_, rfl⟩
  have HX : Hid ((gAtM B.m g).exit = X) := hX.symm
  obtain ⟨kd, pg, wr, n⟩ := X
  have hc : resC B.m g = (kd == 1 || kd == 4) := by unfold resC; rw [← hX]
  have hf : resF B.m g = resumeG kd := by unfold resF; rw [← hX]
  rw [hc, hf]
  clear hc hf hX
  cases e1 : (kd == 1)
  · rw [Bool.false_or]
    cases e4 : (kd == 4)
    · have H := Hp.start W0
      go_enter Try.func27, Try.ntmps27
      go_wp2_with (first
        | go_skip
        | ((with_reducible refine at_box ?_); first | (refine wpList_box_H (cs := (barr B).toList) rfl rfl H rfl CellsOf.agg ?_; clear H; intro bB w H) | (refine wpList_box_H rfl rfl H rfl (by first | exact CellsOf.agg | exact CellsOf.int | exact CellsOf.bool | exact CellsOf.slice | exact CellsOf.string | exact CellsOf.pointer | exact CellsOf.func) ?_; clear H; intro b w H))
        | ((with_reducible refine at_alloc ?_); first | ((with_reducible refine at_dst 4 ?_); refine wpList_alloc_H rfl rfl H ?_; clear H; intro bR w H) | ((with_reducible refine at_dst 6 ?_); refine wpList_alloc_H rfl rfl H ?_; clear H; intro bK w H) | (refine wpList_alloc_H rfl rfl H ?_; clear H; intro b w H))
        | ((with_reducible refine at_load ?_); first | (refine wpList_load_H rfl rfl H rfl (by repeat (first | exact LoadAt.here rfl | apply LoadAt.there)) ?_) | (refine wpList_loads_H rfl rfl H rfl (by repeat (first | (apply LoadsAt.here; repeat (first | exact GetsAt.nil | apply GetsAt.here | apply GetsAt.there)) | apply LoadsAt.there)) ?_))
        | ((with_reducible refine at_store ?_); first | (refine wpList_store_H rfl rfl H rfl rfl (by repeat (first | (apply StoreAt.here; (first | exact CellsOf.agg | exact CellsOf.int | exact CellsOf.bool | exact CellsOf.slice | exact CellsOf.string | exact CellsOf.pointer | exact CellsOf.func); (repeat (first | exact SetsAt.nil | apply SetsAt.here | apply SetsAt.there)); exact rfl; exact rfl) | apply StoreAt.there)) ?_; clear H; intro w H))
        | (go_at_call 20; refine (exitOf_c B g _ (R.at_ H) Z).mono ?_; rintro e w ⟨he, K⟩; rw [HX.out] at he; subst he; replace H := H.add_all K; clear K)
        | (go_at_call 36; refine (changed_c B g false 77 Try.f77 Try.func77 (by kernel_rfl) #[.pointer (some ⟨bK, 0, none⟩)] (resumeG kd) _ (R.at_ H) Z (by rw [resume_sz]; exact Nat.le_trans (gAtM_size B.m g) Z) (fun x _ hb Rx Zx => bareResume1_f x kd e4 bK _ Rx Zx ((H.rw_ (cs := [.int .i64 kd]) (by repeat (first | exact Take.head | apply Take.tail))).below_ hb))).mono ?_; rintro e w ⟨d, rfl, x1, K⟩; have HD := Lib.hid x1; clear x1; replace H := H.add_all K; clear K))
      refine bodyPost_ret (results_H2 rfl H rfl (by repeat (first | (apply LoadsAt.here; repeat (first | exact GetsAt.nil | apply GetsAt.here | apply GetsAt.there)) | apply LoadsAt.there))) rfl ⟨d, rfl, HD.out, H.pick (.cons (by repeat (first | exact Take.head | apply Take.tail)) .nil)⟩
    · have H := Hp.start W0
      go_enter Try.func27, Try.ntmps27
      go_wp2_with (first
        | go_skip
        | ((with_reducible refine at_box ?_); first | (refine wpList_box_H (cs := (barr B).toList) rfl rfl H rfl CellsOf.agg ?_; clear H; intro bB w H) | (refine wpList_box_H rfl rfl H rfl (by first | exact CellsOf.agg | exact CellsOf.int | exact CellsOf.bool | exact CellsOf.slice | exact CellsOf.string | exact CellsOf.pointer | exact CellsOf.func) ?_; clear H; intro b w H))
        | ((with_reducible refine at_alloc ?_); first | ((with_reducible refine at_dst 4 ?_); refine wpList_alloc_H rfl rfl H ?_; clear H; intro bR w H) | ((with_reducible refine at_dst 6 ?_); refine wpList_alloc_H rfl rfl H ?_; clear H; intro bK w H) | (refine wpList_alloc_H rfl rfl H ?_; clear H; intro b w H))
        | ((with_reducible refine at_load ?_); first | (refine wpList_load_H rfl rfl H rfl (by repeat (first | exact LoadAt.here rfl | apply LoadAt.there)) ?_) | (refine wpList_loads_H rfl rfl H rfl (by repeat (first | (apply LoadsAt.here; repeat (first | exact GetsAt.nil | apply GetsAt.here | apply GetsAt.there)) | apply LoadsAt.there)) ?_))
        | ((with_reducible refine at_store ?_); first | (refine wpList_store_H rfl rfl H rfl rfl (by repeat (first | (apply StoreAt.here; (first | exact CellsOf.agg | exact CellsOf.int | exact CellsOf.bool | exact CellsOf.slice | exact CellsOf.string | exact CellsOf.pointer | exact CellsOf.func); (repeat (first | exact SetsAt.nil | apply SetsAt.here | apply SetsAt.there)); exact rfl; exact rfl) | apply StoreAt.there)) ?_; clear H; intro w H))
        | (go_at_call 20; refine (exitOf_c B g _ (R.at_ H) Z).mono ?_; rintro e w ⟨he, K⟩; rw [HX.out] at he; subst he; replace H := H.add_all K; clear K)
        | (go_at_call 36; refine (changed_c B g true 77 Try.f77 Try.func77 (by kernel_rfl) #[.pointer (some ⟨bK, 0, none⟩)] (resumeG kd) _ (R.at_ H) Z (by rw [resume_sz]; exact Nat.le_trans (gAtM_size B.m g) Z) (fun x _ hb Rx Zx => bareResume1_t x kd e4 bK _ Rx Zx ((H.rw_ (cs := [.int .i64 kd]) (by repeat (first | exact Take.head | apply Take.tail))).below_ hb))).mono ?_; rintro e w ⟨d, rfl, x1, K⟩; have HD := Lib.hid x1; clear x1; replace H := H.add_all K; clear K))
      refine bodyPost_ret (results_H2 rfl H rfl (by repeat (first | (apply LoadsAt.here; repeat (first | exact GetsAt.nil | apply GetsAt.here | apply GetsAt.there)) | apply LoadsAt.there))) rfl ⟨d, rfl, HD.out, H.pick (.cons (by repeat (first | exact Take.head | apply Take.tail)) .nil)⟩
  · rw [Bool.true_or]
    have e4 : (kd == 4) = false := by simp at e1 ⊢; omega
    have H := Hp.start W0
    go_enter Try.func27, Try.ntmps27
    go_wp2_with (first
      | go_skip
      | ((with_reducible refine at_box ?_); first | (refine wpList_box_H (cs := (barr B).toList) rfl rfl H rfl CellsOf.agg ?_; clear H; intro bB w H) | (refine wpList_box_H rfl rfl H rfl (by first | exact CellsOf.agg | exact CellsOf.int | exact CellsOf.bool | exact CellsOf.slice | exact CellsOf.string | exact CellsOf.pointer | exact CellsOf.func) ?_; clear H; intro b w H))
      | ((with_reducible refine at_alloc ?_); first | ((with_reducible refine at_dst 4 ?_); refine wpList_alloc_H rfl rfl H ?_; clear H; intro bR w H) | ((with_reducible refine at_dst 6 ?_); refine wpList_alloc_H rfl rfl H ?_; clear H; intro bK w H) | (refine wpList_alloc_H rfl rfl H ?_; clear H; intro b w H))
      | ((with_reducible refine at_load ?_); first | (refine wpList_load_H rfl rfl H rfl (by repeat (first | exact LoadAt.here rfl | apply LoadAt.there)) ?_) | (refine wpList_loads_H rfl rfl H rfl (by repeat (first | (apply LoadsAt.here; repeat (first | exact GetsAt.nil | apply GetsAt.here | apply GetsAt.there)) | apply LoadsAt.there)) ?_))
      | ((with_reducible refine at_store ?_); first | (refine wpList_store_H rfl rfl H rfl rfl (by repeat (first | (apply StoreAt.here; (first | exact CellsOf.agg | exact CellsOf.int | exact CellsOf.bool | exact CellsOf.slice | exact CellsOf.string | exact CellsOf.pointer | exact CellsOf.func); (repeat (first | exact SetsAt.nil | apply SetsAt.here | apply SetsAt.there)); exact rfl; exact rfl) | apply StoreAt.there)) ?_; clear H; intro w H))
      | (go_at_call 20; refine (exitOf_c B g _ (R.at_ H) Z).mono ?_; rintro e w ⟨he, K⟩; rw [HX.out] at he; subst he; replace H := H.add_all K; clear K)
      | (go_at_call 36; refine (changed_c B g true 77 Try.f77 Try.func77 (by kernel_rfl) #[.pointer (some ⟨bK, 0, none⟩)] (resumeG kd) _ (R.at_ H) Z (by rw [resume_sz]; exact Nat.le_trans (gAtM_size B.m g) Z) (fun x _ hb Rx Zx => bareResume1_f x kd e4 bK _ Rx Zx ((H.rw_ (cs := [.int .i64 kd]) (by repeat (first | exact Take.head | apply Take.tail))).below_ hb))).mono ?_; rintro e w ⟨d, rfl, x1, K⟩; have HD := Lib.hid x1; clear x1; replace H := H.add_all K; clear K))
    refine bodyPost_ret (results_H2 rfl H rfl (by repeat (first | (apply LoadsAt.here; repeat (first | exact GetsAt.nil | apply GetsAt.here | apply GetsAt.there)) | apply LoadsAt.there))) rfl ⟨d, rfl, HD.out, H.pick (.cons (by repeat (first | exact Take.head | apply Take.tail)) .nil)⟩
theorem gz_rd {w : World} {y z : GV} (R : GRd w y) (h1 : z.prog = y.prog) (h2 : z.written = y.written) (h3 : z.live = y.live) (h4 : z.seen = y.seen) : GRd w z := ⟨h1 ▸ R.prog, h2 ▸ R.written, h3 ▸ R.live, h4 ▸ R.seen⟩
end Go.Proofs.Ytjiiobliadeldaa
