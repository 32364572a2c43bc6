/- Walk of the law FnStands. No condition but that the argument lies in memory. -/
import Derived.Test.YtjiiobliadeldaaUa
namespace Go.Proofs.Ytjiiobliadeldaa
open Go.RowKit
attribute [local go_sem ↓] Go.wp_at_zero Go.wp_at_succ
set_option linter.unusedSimpArgs false in
set_option linter.unusedVariables false in
set_option maxRecDepth 100000 in
set_option maxHeartbeats 8000000 in
theorem walk_fnStands (s : Sl Int) (W0 : World) (ra : Rd u8cell 1 W0 s ∧ s.xs.length ≤ maxLen) : Calls Try.prog 9 #[.slice s.A s.xs.length s.c] W0 fun e w' => e = .returned (.bool true) ∧ Below W0.heap.size W0 w' := by
  obtain ⟨R, _⟩ := ra
  have H := Hp.start W0
  by_cases hbig : 1048576 < s.xs.length
  · have hb : decide (1048576 < s.xs.length) = true := decide_eq_true hbig
    have HB := Lib.hid hb; clear hb
    go_enter Try.func9, Try.ntmps9
    go_wp2_with (first
      | go_skip
      | ((with_reducible refine at_box ?_); first | (refine wpList_box_H rfl rfl H rfl (by first | exact CellsOf.agg | exact CellsOf.int | exact CellsOf.bool | exact CellsOf.slice | exact CellsOf.string | exact CellsOf.pointer | exact CellsOf.func) ?_; clear H; intro bQ w H))
      | ((with_reducible refine at_alloc ?_); first | (refine wpList_alloc_H rfl rfl H ?_; clear H; intro b w H))
      | ((with_reducible refine at_load ?_); first | (refine wpList_load_H rfl rfl H rfl (by repeat (first | exact LoadAt.here rfl | apply LoadAt.there)) ?_) | (refine wpList_loads_H rfl rfl H rfl (by repeat (first | (apply LoadsAt.here; repeat (first | exact GetsAt.nil | apply GetsAt.here | apply GetsAt.there)) | apply LoadsAt.there)) ?_))
      | ((with_reducible refine at_store ?_); first | (refine wpList_store_H rfl rfl H rfl rfl (by repeat (first | (apply StoreAt.here; (first | exact CellsOf.agg | exact CellsOf.int | exact CellsOf.bool | exact CellsOf.slice | exact CellsOf.string | exact CellsOf.pointer | exact CellsOf.func); (repeat (first | exact SetsAt.nil | apply SetsAt.here | apply SetsAt.there)); exact rfl; exact rfl) | apply StoreAt.there)) ?_; clear H; intro w H)))
    go_at_call 10
    refine (big_c s _).mono ?_
    rintro e w ⟨he, K⟩
    rw [HB.out] at he
    subst he
    replace H := H.add_all K
    clear K
    go_wp2_with (first
      | go_skip
      | ((with_reducible refine at_box ?_); first | (refine wpList_box_H rfl rfl H rfl (by first | exact CellsOf.agg | exact CellsOf.int | exact CellsOf.bool | exact CellsOf.slice | exact CellsOf.string | exact CellsOf.pointer | exact CellsOf.func) ?_; clear H; intro bQ w H))
      | ((with_reducible refine at_alloc ?_); first | (refine wpList_alloc_H rfl rfl H ?_; clear H; intro b w H))
      | ((with_reducible refine at_load ?_); first | (refine wpList_load_H rfl rfl H rfl (by repeat (first | exact LoadAt.here rfl | apply LoadAt.there)) ?_) | (refine wpList_loads_H rfl rfl H rfl (by repeat (first | (apply LoadsAt.here; repeat (first | exact GetsAt.nil | apply GetsAt.here | apply GetsAt.there)) | apply LoadsAt.there)) ?_))
      | ((with_reducible refine at_store ?_); first | (refine wpList_store_H rfl rfl H rfl rfl (by repeat (first | (apply StoreAt.here; (first | exact CellsOf.agg | exact CellsOf.int | exact CellsOf.bool | exact CellsOf.slice | exact CellsOf.string | exact CellsOf.pointer | exact CellsOf.func); (repeat (first | exact SetsAt.nil | apply SetsAt.here | apply SetsAt.there)); exact rfl; exact rfl) | apply StoreAt.there)) ?_; clear H; intro w H)))
    go_ret
    exact ⟨rfl, H.below⟩
  have hb : decide (1048576 < s.xs.length) = false := decide_eq_false hbig
  have HB := Lib.hid hb; clear hb
  have Z : s.xs.length ≤ 1048576 := by omega
  clear hbig
  go_enter Try.func9, Try.ntmps9
  go_wp2_with (first
    | go_skip
    | ((with_reducible refine at_box ?_); first | (refine wpList_box_H rfl rfl H rfl (by first | exact CellsOf.agg | exact CellsOf.int | exact CellsOf.bool | exact CellsOf.slice | exact CellsOf.string | exact CellsOf.pointer | exact CellsOf.func) ?_; clear H; intro bQ w H))
    | ((with_reducible refine at_alloc ?_); first | (refine wpList_alloc_H rfl rfl H ?_; clear H; intro b w H))
    | ((with_reducible refine at_load ?_); first | (refine wpList_load_H rfl rfl H rfl (by repeat (first | exact LoadAt.here rfl | apply LoadAt.there)) ?_) | (refine wpList_loads_H rfl rfl H rfl (by repeat (first | (apply LoadsAt.here; repeat (first | exact GetsAt.nil | apply GetsAt.here | apply GetsAt.there)) | apply LoadsAt.there)) ?_))
    | ((with_reducible refine at_store ?_); first | (refine wpList_store_H rfl rfl H rfl rfl (by repeat (first | (apply StoreAt.here; (first | exact CellsOf.agg | exact CellsOf.int | exact CellsOf.bool | exact CellsOf.slice | exact CellsOf.string | exact CellsOf.pointer | exact CellsOf.func); (repeat (first | exact SetsAt.nil | apply SetsAt.here | apply SetsAt.there)); exact rfl; exact rfl) | apply StoreAt.there)) ?_; clear H; intro w H)))
  go_at_call 10
  refine (big_c s _).mono ?_
  rintro e w ⟨he, K⟩
  rw [HB.out] at he
  subst he
  replace H := H.add_all K
  clear K
  go_wp2_with (first
    | go_skip
    | ((with_reducible refine at_box ?_); first | (refine wpList_box_H rfl rfl H rfl (by first | exact CellsOf.agg | exact CellsOf.int | exact CellsOf.bool | exact CellsOf.slice | exact CellsOf.string | exact CellsOf.pointer | exact CellsOf.func) ?_; clear H; intro bQ w H))
    | ((with_reducible refine at_alloc ?_); first | (refine wpList_alloc_H rfl rfl H ?_; clear H; intro b w H))
    | ((with_reducible refine at_load ?_); first | (refine wpList_load_H rfl rfl H rfl (by repeat (first | exact LoadAt.here rfl | apply LoadAt.there)) ?_) | (refine wpList_loads_H rfl rfl H rfl (by repeat (first | (apply LoadsAt.here; repeat (first | exact GetsAt.nil | apply GetsAt.here | apply GetsAt.there)) | apply LoadsAt.there)) ?_))
    | ((with_reducible refine at_store ?_); first | (refine wpList_store_H rfl rfl H rfl rfl (by repeat (first | (apply StoreAt.here; (first | exact CellsOf.agg | exact CellsOf.int | exact CellsOf.bool | exact CellsOf.slice | exact CellsOf.string | exact CellsOf.pointer | exact CellsOf.func); (repeat (first | exact SetsAt.nil | apply SetsAt.here | apply SetsAt.there)); exact rfl; exact rfl) | apply StoreAt.there)) ?_; clear H; intro w H)))
  go_at_call 11
  refine (drawPlaces_c s _ (R.at_ H) Z).mono ?_
  rintro e w ⟨p, rfl, hpl, hpb, K⟩
  replace H := H.add_all K
  clear K
  obtain ⟨p0, hp0e⟩ : ∃ p0, p.xs[0]? = some p0 := ⟨_, List.getElem?_eq_getElem (by omega)⟩
  have HP0 := Lib.hid hp0e
  have hpp0 := hpb p0 (List.mem_of_getElem? hp0e)
  have hp0 : 0 < p.xs.length := by omega
  clear hp0e
  clear hpl hpb
  obtain ⟨a, ha⟩ : ∃ a, a = p0.tmod 100 := ⟨_, rfl⟩
  have a0 : 0 ≤ a := by rw [ha]; exact Int.tmod_nonneg _ hpp0.1
  have a1 : a < 100 := by rw [ha]; exact Int.tmod_lt_of_pos _ (by decide)
  have Ea : Hid (p0.tmod 100 = a) := ha.symm
  have Fa : Hid (p0 % 100 = a) := Lib.hid (by rw [ha, Int.tmod_eq_emod_of_nonneg hpp0.1])
  clear ha
  have L := fin1 sdL_all a0 a1
  unfold sdL at L
  simp only [Bool.and_eq_true, decide_eq_true_eq] at L
  obtain ⟨⟨⟨⟨⟨s0, s1⟩, lt⟩, lx⟩, lr⟩, lh⟩ := L
  replace s0 := smB_le s0
  replace s1 := smB_le s1
  have LT := Lib.hid lt
  clear lt
  have LX := Lib.hid lx
  clear lx
  have LR := Lib.hid lr
  clear lr
  have LH := Lib.hid lh
  clear lh
  clear hpp0
  go_wp2_with (first
    | go_skip
    | ((with_reducible refine at_box ?_); first | (refine wpList_box_H rfl rfl H rfl (by first | exact CellsOf.agg | exact CellsOf.int | exact CellsOf.bool | exact CellsOf.slice | exact CellsOf.string | exact CellsOf.pointer | exact CellsOf.func) ?_; clear H; intro bQ w H))
    | ((with_reducible refine at_alloc ?_); first | (refine wpList_alloc_H rfl rfl H ?_; clear H; intro bB w H))
    | ((with_reducible refine at_load ?_); first | (refine wpList_load_rd rfl rfl p (H.rd (s := p) (by repeat (first | exact Take.head | apply Take.tail)) int_len) rfl p0 HP0.out rfl ?_) | (refine wpList_load_H rfl rfl H rfl (by repeat (first | exact LoadAt.here rfl | apply LoadAt.there)) ?_) | (refine wpList_loads_H rfl rfl H rfl (by repeat (first | (apply LoadsAt.here; repeat (first | exact GetsAt.nil | apply GetsAt.here | apply GetsAt.there)) | apply LoadsAt.there)) ?_))
    | ((with_reducible refine at_store ?_); first | (refine wpList_store_H rfl rfl H rfl rfl (by repeat (first | (apply StoreAt.here; (first | exact CellsOf.agg | exact CellsOf.int | exact CellsOf.bool | exact CellsOf.slice | exact CellsOf.string | exact CellsOf.pointer | exact CellsOf.func); (repeat (first | exact SetsAt.nil | apply SetsAt.here | apply SetsAt.there)); exact rfl; exact rfl) | apply StoreAt.there)) ?_; clear H; intro w H))
    | ((with_reducible refine at_index ?_); first | (refine wpList_index_n rfl rfl (k := 0) p (H.rd (s := p) (by repeat (first | exact Take.head | apply Take.tail)) int_len) rfl rfl rfl hp0 ?_))
    | ((with_reducible refine at_slice ?_); first | ((with_reducible refine at_dst 17 ?_); refine wpList_lit_H rfl rfl H ([⟨6, p0.tmod 100⟩, ⟨7, 0⟩] : List Ins) (by kernel_rfl) rfl (by decide) (by decide) ?_; clear H; intro bi w H) | ((with_reducible refine at_dst 20 ?_); refine wpList_lit_H rfl rfl H ([⟨1, 1⟩, ⟨7, 0⟩] : List Ins) (by kernel_rfl) rfl (by decide) (by decide) ?_; clear H; intro bj w H) | ((with_reducible refine at_dst 21 ?_); refine wpList_lit_H rfl rfl H ([(⟨some ⟨bi, 0, none⟩, 2, [⟨6, p0.tmod 100⟩, ⟨7, 0⟩]⟩ : Sl Ins), (⟨some ⟨bj, 0, none⟩, 2, [⟨1, 1⟩, ⟨7, 0⟩]⟩ : Sl Ins)] : List (Sl Ins)) (by kernel_rfl) rfl (by decide) (by decide) ?_; clear H; intro bo w H)))
  go_at_call 12
  refine (specBareNew_c (⟨some ⟨bo, 0, none⟩, 2, [(⟨some ⟨bi, 0, none⟩, 2, [⟨6, p0.tmod 100⟩, ⟨7, 0⟩]⟩ : Sl Ins), (⟨some ⟨bj, 0, none⟩, 2, [⟨1, 1⟩, ⟨7, 0⟩]⟩ : Sl Ins)]⟩ : Sl (Sl Ins)) _ (H.rd (s := (⟨some ⟨bo, 0, none⟩, 2, [(⟨some ⟨bi, 0, none⟩, 2, [⟨6, p0.tmod 100⟩, ⟨7, 0⟩]⟩ : Sl Ins), (⟨some ⟨bj, 0, none⟩, 2, [⟨1, 1⟩, ⟨7, 0⟩]⟩ : Sl Ins)]⟩ : Sl (Sl Ins))) (by repeat (first | exact Take.head | apply Take.tail)) h_len) (by intro x hx; simp only [List.mem_cons, List.not_mem_nil, or_false] at hx; rcases hx with rfl | rfl <;> exact H.rd (by repeat (first | exact Take.head | apply Take.tail)) ins_len) (by intro x hx; simp only [List.mem_cons, List.not_mem_nil, or_false] at hx; rcases hx with rfl | rfl <;> simp) (by simp) (by simp)).mono ?_
  rintro e w ⟨b0, rfl, x1, K⟩
  have Hb0 : Hid (b0.m = sd0 a) := Lib.hid (by rw [x1, ← Ea.out]; rfl)
  clear x1
  replace H := H.add_all K
  clear K
  have Zb0 := bbig_mq s0 Hb0
  rw [Ea.out]
  clear a0 a1
  go_wp2_with (first
    | go_skip
    | ((with_reducible refine at_box ?_); first | (refine wpList_box_H rfl rfl H rfl (by first | exact CellsOf.agg | exact CellsOf.int | exact CellsOf.bool | exact CellsOf.slice | exact CellsOf.string | exact CellsOf.pointer | exact CellsOf.func) ?_; clear H; intro bQ w H))
    | ((with_reducible refine at_alloc ?_); first | (refine wpList_alloc_H rfl rfl H ?_; clear H; intro bB w H))
    | ((with_reducible refine at_load ?_); first | (refine wpList_load_H rfl rfl H rfl (by repeat (first | exact LoadAt.here rfl | apply LoadAt.there)) ?_) | (refine wpList_loads_H rfl rfl H rfl (by repeat (first | (apply LoadsAt.here; repeat (first | exact GetsAt.nil | apply GetsAt.here | apply GetsAt.there)) | apply LoadsAt.there)) ?_))
    | ((with_reducible refine at_store ?_); first | (refine wpList_store_H rfl rfl H rfl rfl (by repeat (first | (apply StoreAt.here; (first | exact CellsOf.agg | exact CellsOf.int | exact CellsOf.bool | exact CellsOf.slice | exact CellsOf.string | exact CellsOf.pointer | exact CellsOf.func); (repeat (first | exact SetsAt.nil | apply SetsAt.here | apply SetsAt.there)); exact rfl; exact rfl) | apply StoreAt.there)) ?_; clear H; intro w H))
    | ((with_reducible refine at_slice ?_); first | ((with_reducible refine at_dst 25 ?_); refine wpList_lit_H (enc := icell) rfl rfl H ([0, 0, 0, 1, 0, 1, 1] : List Int) (by kernel_rfl) rfl (by decide) (by decide) ?_; clear H; intro bl w H)))
  go_at_call 22
  refine (bareSteps_c b0 (⟨some ⟨bl, 0, none⟩, 7, [0, 0, 0, 1, 0, 1, 1]⟩ : Sl Int) _ (H.brd (b := b0) (by repeat (first | exact Take.head | apply Take.tail))) Zb0 (H.rd (s := (⟨some ⟨bl, 0, none⟩, 7, [0, 0, 0, 1, 0, 1, 1]⟩ : Sl Int)) (by repeat (first | exact Take.head | apply Take.tail)) int_len) (by simp)).mono ?_
  rintro e w ⟨x, t, rfl, x1, x2, K⟩
  have Hx : Hid (x.m = sd1 a) := by show _ = _; rw [x1, Hb0.out]; rfl
  rw [Hb0.out] at x2
  have Ht := Lib.hid x2
  clear x1 x2
  replace H := H.add_all K
  clear K
  have Zx := bbig_mq s1 Hx
  go_wp2_with (first
    | go_skip
    | ((with_reducible refine at_box ?_); first | (refine wpList_box_H rfl rfl H rfl (by first | exact CellsOf.agg | exact CellsOf.int | exact CellsOf.bool | exact CellsOf.slice | exact CellsOf.string | exact CellsOf.pointer | exact CellsOf.func) ?_; clear H; intro bQ w H))
    | ((with_reducible refine at_alloc ?_); first | (refine wpList_alloc_H rfl rfl H ?_; clear H; intro bX w H))
    | ((with_reducible refine at_load ?_); first | (refine wpList_load_H rfl rfl H rfl (by repeat (first | exact LoadAt.here rfl | apply LoadAt.there)) ?_) | (refine wpList_loads_H rfl rfl H rfl (by repeat (first | (apply LoadsAt.here; repeat (first | exact GetsAt.nil | apply GetsAt.here | apply GetsAt.there)) | apply LoadsAt.there)) ?_))
    | ((with_reducible refine at_store ?_); first | (refine wpList_store_H rfl rfl H rfl rfl (by repeat (first | (apply StoreAt.here; (first | exact CellsOf.agg | exact CellsOf.int | exact CellsOf.bool | exact CellsOf.slice | exact CellsOf.string | exact CellsOf.pointer | exact CellsOf.func); (repeat (first | exact SetsAt.nil | apply SetsAt.here | apply SetsAt.there)); exact rfl; exact rfl) | apply StoreAt.there)) ?_; clear H; intro w H)))
  replace H : Hp W0 _ [.bare x, .bools t, .int p, .box bX 31 (barr x).toList] := H.pick (.cons (by repeat (first | exact Take.head | apply Take.tail)) (.cons (by repeat (first | exact Take.head | apply Take.tail)) (.cons (by repeat (first | exact Take.head | apply Take.tail)) (.cons (by repeat (first | exact Take.head | apply Take.tail)) .nil))))
  have HT : Hid (t.xs = [true, false, false, true, false, true, false]) := Lib.hid (by rw [Ht.out]; exact LT.out)
  refine wp_cut (fun u a' w' => ∃ (bk : Nat) (c : Sl Int) (g : GV), Hid True ∧ Hp W0 w' [.int p] ∧ a' = puts u [(29, (.slice t.A t.xs.length t.c)), (30, (.slice (some ⟨bk, 0, none⟩) 7 7)), (31, (.bool true)), (32, (.bool true)), (33, x.val), (34, (.agg #[.int .i64 2, .int .i64 0, .bool false, .int .i64 a])), (35, (.slice p.A p.xs.length p.c)), (36, (.pointer (some ⟨ablk p.A, aoff p.A + 0 * 1, none⟩))), (37, (.int .i64 p0)), (38, (.int .i64 a)), (39, (.agg #[.int .i64 2, .int .i64 0, .bool false, .int .i64 a])), (40, (.bool true)), (41, (.bool true)), (42, (.bool true)), (43, x.val), (44, (.slice c.A c.xs.length c.c)), (45, (.bool true)), (46, (.bool true)), (47, (.bool true)), (48, x.val), (49, g.val), (50, (.bool true)), (51, (.bool true)), (2, (.bool true))]) ?_ ?_
  · refine wp_region_held (S := (fun w' => Rw w' bX 31 (barr x) ∧ Rd icell 1 w' p)) (by kernel_rfl) ?_
    replace H := H.drew
    refine takeH (i := 0) rfl .here (by kernel_rfl) (by kernel_rfl) (by kernel_rfl) (fun _ _ _ h => absurd h.1 (by simp)) (yields_val (v := (.slice t.A t.xs.length t.c)) rfl (fun _ => by go_simp)) ⟨H.rw_ (by repeat (first | exact Take.head | apply Take.tail)), H.rd (s := p) (by repeat (first | exact Take.head | apply Take.tail)) int_len⟩ ?_
    (try simp only [Act.put, List.setIfInBounds_toArray, List.set_cons_succ, List.set_cons_zero])
    refine anyH_1 (i := 1) (by kernel_rfl) ?_
    refine wpOp_at rfl (.there .here) rfl ?_
    refine wp_lit_H (enc := bcel) rfl H ([true, false, false, true, false, true, false] : List Bool) (by kernel_rfl) rfl (by decide) (by decide) ?_
    clear H
    intro bk w H
    refine ⟨⟨H.rw_ (by repeat (first | exact Take.head | apply Take.tail)), H.rd (s := p) (by repeat (first | exact Take.head | apply Take.tail)) int_len⟩, ?_⟩
    (try simp only [Act.put, List.setIfInBounds_toArray, List.set_cons_succ, List.set_cons_zero])
    refine anyH_1 (i := 2) (by kernel_rfl) ?_
    refine wpOp_at rfl (.there (.there .here)) rfl ?_
    refine wp_call_H Try.f30 rfl rfl Try.func30 (by kernel_rfl) rfl rfl (val_eq (val_H H (sameBools_c t (⟨some ⟨bk, 0, none⟩, 7, [true, false, false, true, false, true, false]⟩ : Sl Bool) _ (H.rd (s := t) (by repeat (first | exact Take.head | apply Take.tail)) bool_len) (H.rd (s := (⟨some ⟨bk, 0, none⟩, 7, [true, false, false, true, false, true, false]⟩ : Sl Bool)) (by repeat (first | exact Take.head | apply Take.tail)) bool_len) (by rw [HT.out]; decide))) (by rw [HT.out])) ?_
    clear H
    rintro _ w ⟨rfl, H⟩
    refine ⟨⟨H.rw_ (by repeat (first | exact Take.head | apply Take.tail)), H.rd (s := p) (by repeat (first | exact Take.head | apply Take.tail)) int_len⟩, ?_⟩
    (try simp only [Act.put, List.setIfInBounds_toArray, List.set_cons_succ, List.set_cons_zero])
    refine takeH (i := 3) rfl (.there (.there (.there .here))) (by kernel_rfl) (by kernel_rfl) (by kernel_rfl) (fun _ _ _ h => absurd h.1 (by simp)) (yields_val (v := (.bool true)) rfl (fun _ => by go_simp)) ⟨H.rw_ (by repeat (first | exact Take.head | apply Take.tail)), H.rd (s := p) (by repeat (first | exact Take.head | apply Take.tail)) int_len⟩ ?_
    (try simp only [Act.put, List.setIfInBounds_toArray, List.set_cons_succ, List.set_cons_zero])
    refine takeH (i := 4) rfl (.there (.there (.there (.there .here)))) (by kernel_rfl) (by kernel_rfl) (by kernel_rfl) (fun _ _ _ h => absurd h.1 (by simp)) (yields_loads_R rfl rfl rfl (fun _ hS => hS.1) (by repeat (first | exact GetsAt.nil | apply GetsAt.here | apply GetsAt.there))) ⟨H.rw_ (by repeat (first | exact Take.head | apply Take.tail)), H.rd (s := p) (by repeat (first | exact Take.head | apply Take.tail)) int_len⟩ ?_
    (try simp only [Act.put, List.setIfInBounds_toArray, List.set_cons_succ, List.set_cons_zero])
    refine takeH (i := 6) rfl (.there (.there (.there (.there (.there (.there .here)))))) (by kernel_rfl) (by kernel_rfl) (by kernel_rfl) (fun _ _ _ h => absurd h.1 (by simp)) (yields_val (v := (.slice p.A p.xs.length p.c)) rfl (fun _ => by go_simp)) ⟨H.rw_ (by repeat (first | exact Take.head | apply Take.tail)), H.rd (s := p) (by repeat (first | exact Take.head | apply Take.tail)) int_len⟩ ?_
    (try simp only [Act.put, List.setIfInBounds_toArray, List.set_cons_succ, List.set_cons_zero])
    refine takeH (i := 7) rfl (.there (.there (.there (.there (.there (.there (.there .here))))))) (by kernel_rfl) (by kernel_rfl) (by kernel_rfl) (fun _ _ _ h => absurd h.1 (by simp)) (yields_index_n rfl rfl (k := 0) p (fun _ hS => hS.2) rfl rfl rfl hp0) ⟨H.rw_ (by repeat (first | exact Take.head | apply Take.tail)), H.rd (s := p) (by repeat (first | exact Take.head | apply Take.tail)) int_len⟩ ?_
    (try simp only [Act.put, List.setIfInBounds_toArray, List.set_cons_succ, List.set_cons_zero])
    refine takeH (i := 8) rfl (.there (.there (.there (.there (.there (.there (.there (.there .here)))))))) (by kernel_rfl) (by kernel_rfl) (by kernel_rfl) (fun _ _ _ h => absurd h.1 (by simp)) (yields_load_rd rfl rfl p (fun _ hS => hS.2) rfl p0 HP0.out (by first | exact rfl | exact (Nat.add_zero _).symm) rfl) ⟨H.rw_ (by repeat (first | exact Take.head | apply Take.tail)), H.rd (s := p) (by repeat (first | exact Take.head | apply Take.tail)) int_len⟩ ?_
    (try simp only [Act.put, List.setIfInBounds_toArray, List.set_cons_succ, List.set_cons_zero])
    refine takeH (i := 9) rfl (.there (.there (.there (.there (.there (.there (.there (.there (.there .here))))))))) (by kernel_rfl) (by kernel_rfl) (by kernel_rfl) (fun _ _ _ h => absurd h.1 (by simp)) (yields_val (v := (.int .i64 a)) rfl (fun _ => by (first | (go_simp; done) | (go_simp; rw [Ea.out]) | (rw [← Ea.out]; go_simp; done) | (go_simp; omega) | (go_simp; simpa using Ea.out)))) ⟨H.rw_ (by repeat (first | exact Take.head | apply Take.tail)), H.rd (s := p) (by repeat (first | exact Take.head | apply Take.tail)) int_len⟩ ?_
    (try simp only [Act.put, List.setIfInBounds_toArray, List.set_cons_succ, List.set_cons_zero])
    refine takeH (i := 10) rfl (.there (.there (.there (.there (.there (.there (.there (.there (.there (.there .here)))))))))) (by kernel_rfl) (by kernel_rfl) (by kernel_rfl) (fun _ _ _ h => absurd h.1 (by simp)) (yields_val (v := (.agg #[.int .i64 2, .int .i64 0, .bool false, .int .i64 a])) rfl (fun _ => by go_simp)) ⟨H.rw_ (by repeat (first | exact Take.head | apply Take.tail)), H.rd (s := p) (by repeat (first | exact Take.head | apply Take.tail)) int_len⟩ ?_
    (try simp only [Act.put, List.setIfInBounds_toArray, List.set_cons_succ, List.set_cons_zero])
    refine anyH_1 (i := 5) (by kernel_rfl) ?_
    refine wpOp_at rfl (.there (.there (.there (.there (.there .here))))) rfl ?_
    refine wp_call_H Try.f20 rfl rfl Try.func20 (by kernel_rfl) rfl rfl (val_eq (val_H H (exitOf_c x 0 _ (H.brd (b := x) (by repeat (first | exact Take.head | apply Take.tail))) Zx)) (by rw [Hx.out, LX.out])) ?_
    clear H
    rintro _ w ⟨rfl, H⟩
    refine ⟨⟨H.rw_ (by repeat (first | exact Take.head | apply Take.tail)), H.rd (s := p) (by repeat (first | exact Take.head | apply Take.tail)) int_len⟩, ?_⟩
    (try simp only [Act.put, List.setIfInBounds_toArray, List.set_cons_succ, List.set_cons_zero])
    refine takeH (i := 11) rfl (.there (.there (.there (.there (.there (.there (.there (.there (.there (.there (.there .here))))))))))) (by kernel_rfl) (by kernel_rfl) (by kernel_rfl) (fun _ _ _ h => absurd h.1 (by simp)) (yields_val (v := (.bool true)) rfl (fun _ => by go_simp)) ⟨H.rw_ (by repeat (first | exact Take.head | apply Take.tail)), H.rd (s := p) (by repeat (first | exact Take.head | apply Take.tail)) int_len⟩ ?_
    (try simp only [Act.put, List.setIfInBounds_toArray, List.set_cons_succ, List.set_cons_zero])
    refine takeH (i := 12) rfl (.there (.there (.there (.there (.there (.there (.there (.there (.there (.there (.there (.there .here)))))))))))) (by kernel_rfl) (by kernel_rfl) (by kernel_rfl) (fun _ _ _ h => absurd h.1 (by simp)) (yields_val (v := (.bool true)) rfl (fun _ => by go_simp)) ⟨H.rw_ (by repeat (first | exact Take.head | apply Take.tail)), H.rd (s := p) (by repeat (first | exact Take.head | apply Take.tail)) int_len⟩ ?_
    (try simp only [Act.put, List.setIfInBounds_toArray, List.set_cons_succ, List.set_cons_zero])
    refine takeH (i := 13) rfl (.there (.there (.there (.there (.there (.there (.there (.there (.there (.there (.there (.there (.there .here))))))))))))) (by kernel_rfl) (by kernel_rfl) (by kernel_rfl) (fun _ _ _ h => absurd h.1 (by simp)) (yields_val (v := (.bool true)) rfl (fun _ => by go_simp)) ⟨H.rw_ (by repeat (first | exact Take.head | apply Take.tail)), H.rd (s := p) (by repeat (first | exact Take.head | apply Take.tail)) int_len⟩ ?_
    (try simp only [Act.put, List.setIfInBounds_toArray, List.set_cons_succ, List.set_cons_zero])
    refine takeH (i := 14) rfl (.there (.there (.there (.there (.there (.there (.there (.there (.there (.there (.there (.there (.there (.there .here)))))))))))))) (by kernel_rfl) (by kernel_rfl) (by kernel_rfl) (fun _ _ _ h => absurd h.1 (by simp)) (yields_loads_R rfl rfl rfl (fun _ hS => hS.1) (by repeat (first | exact GetsAt.nil | apply GetsAt.here | apply GetsAt.there))) ⟨H.rw_ (by repeat (first | exact Take.head | apply Take.tail)), H.rd (s := p) (by repeat (first | exact Take.head | apply Take.tail)) int_len⟩ ?_
    (try simp only [Act.put, List.setIfInBounds_toArray, List.set_cons_succ, List.set_cons_zero])
    refine anyH_1 (i := 15) (by kernel_rfl) ?_
    refine wpOp_at rfl (.there (.there (.there (.there (.there (.there (.there (.there (.there (.there (.there (.there (.there (.there (.there .here))))))))))))))) rfl ?_
    refine wp_call_H Try.f31 rfl rfl Try.func31 (by kernel_rfl) rfl rfl (made_H (val := fun c : Sl Int => .slice c.A c.xs.length c.c) H (runnableB_c x _ (H.brd (b := x) (by repeat (first | exact Take.head | apply Take.tail))) Zx)) ?_
    clear H
    rintro _ w ⟨c, rfl, HC, H⟩
    refine ⟨⟨H.rw_ (by repeat (first | exact Take.head | apply Take.tail)), H.rd (s := p) (by repeat (first | exact Take.head | apply Take.tail)) int_len⟩, ?_⟩
    (try simp only [Act.put, List.setIfInBounds_toArray, List.set_cons_succ, List.set_cons_zero])
    refine anyH_1 (i := 16) (by kernel_rfl) ?_
    refine wpOp_at rfl (.there (.there (.there (.there (.there (.there (.there (.there (.there (.there (.there (.there (.there (.there (.there (.there .here)))))))))))))))) rfl ?_
    refine wp_call_H Try.f24 rfl rfl Try.func24 (by kernel_rfl) rfl rfl (val_eq (val_H H (sameInts_c c ⟨none, 0, []⟩ _ (H.rd (s := c) (by repeat (first | exact Take.head | apply Take.tail)) int_len) (Rd.nil _ _ _) (by rw [HC.out, Hx.out, LR.out]; decide))) (by rw [HC.out, Hx.out, LR.out])) ?_
    clear H
    rintro _ w ⟨rfl, H⟩
    refine ⟨⟨H.rw_ (by repeat (first | exact Take.head | apply Take.tail)), H.rd (s := p) (by repeat (first | exact Take.head | apply Take.tail)) int_len⟩, ?_⟩
    (try simp only [Act.put, List.setIfInBounds_toArray, List.set_cons_succ, List.set_cons_zero])
    refine takeH (i := 17) rfl (.there (.there (.there (.there (.there (.there (.there (.there (.there (.there (.there (.there (.there (.there (.there (.there (.there .here))))))))))))))))) (by kernel_rfl) (by kernel_rfl) (by kernel_rfl) (fun _ _ _ h => absurd h.1 (by simp)) (yields_val (v := (.bool true)) rfl (fun _ => by go_simp)) ⟨H.rw_ (by repeat (first | exact Take.head | apply Take.tail)), H.rd (s := p) (by repeat (first | exact Take.head | apply Take.tail)) int_len⟩ ?_
    (try simp only [Act.put, List.setIfInBounds_toArray, List.set_cons_succ, List.set_cons_zero])
    refine takeH (i := 18) rfl (.there (.there (.there (.there (.there (.there (.there (.there (.there (.there (.there (.there (.there (.there (.there (.there (.there (.there .here)))))))))))))))))) (by kernel_rfl) (by kernel_rfl) (by kernel_rfl) (fun _ _ _ h => absurd h.1 (by simp)) (yields_val (v := (.bool true)) rfl (fun _ => by go_simp)) ⟨H.rw_ (by repeat (first | exact Take.head | apply Take.tail)), H.rd (s := p) (by repeat (first | exact Take.head | apply Take.tail)) int_len⟩ ?_
    (try simp only [Act.put, List.setIfInBounds_toArray, List.set_cons_succ, List.set_cons_zero])
    refine takeH (i := 19) rfl (.there (.there (.there (.there (.there (.there (.there (.there (.there (.there (.there (.there (.there (.there (.there (.there (.there (.there (.there .here))))))))))))))))))) (by kernel_rfl) (by kernel_rfl) (by kernel_rfl) (fun _ _ _ h => absurd h.1 (by simp)) (yields_loads_R rfl rfl rfl (fun _ hS => hS.1) (by repeat (first | exact GetsAt.nil | apply GetsAt.here | apply GetsAt.there))) ⟨H.rw_ (by repeat (first | exact Take.head | apply Take.tail)), H.rd (s := p) (by repeat (first | exact Take.head | apply Take.tail)) int_len⟩ ?_
    (try simp only [Act.put, List.setIfInBounds_toArray, List.set_cons_succ, List.set_cons_zero])
    refine anyH_1 (i := 20) (by kernel_rfl) ?_
    refine wpOp_at rfl (.there (.there (.there (.there (.there (.there (.there (.there (.there (.there (.there (.there (.there (.there (.there (.there (.there (.there (.there (.there .here)))))))))))))))))))) rfl ?_
    refine wp_call_H Try.f17 rfl rfl Try.func17 (by kernel_rfl) rfl rfl (made_H (val := fun g : GV => g.val) H (guestOf_c x 1 _ (H.brd (b := x) (by repeat (first | exact Take.head | apply Take.tail))) Zx)) ?_
    clear H
    rintro _ w ⟨g, rfl, HG, H⟩
    have hh : g.halted = true := (by have h := congrArg MG.halted HG.out; rw [Hx.out] at h; exact h.trans LH.out)
    refine ⟨⟨H.rw_ (by repeat (first | exact Take.head | apply Take.tail)), H.rd (s := p) (by repeat (first | exact Take.head | apply Take.tail)) int_len⟩, ?_⟩
    (try simp only [Act.put, List.setIfInBounds_toArray, List.set_cons_succ, List.set_cons_zero])
    refine takeH (i := 21) rfl (.there (.there (.there (.there (.there (.there (.there (.there (.there (.there (.there (.there (.there (.there (.there (.there (.there (.there (.there (.there (.there .here))))))))))))))))))))) (by kernel_rfl) (by kernel_rfl) (by kernel_rfl) (fun _ _ _ h => absurd h.1 (by simp)) (yields_val (v := (.bool true)) rfl (fun _ => by (first | (go_simp; done) | (go_simp; rw [hh]) | (rw [← hh]; go_simp; done) | (go_simp; omega) | (go_simp; simpa using hh)))) ⟨H.rw_ (by repeat (first | exact Take.head | apply Take.tail)), H.rd (s := p) (by repeat (first | exact Take.head | apply Take.tail)) int_len⟩ ?_
    (try simp only [Act.put, List.setIfInBounds_toArray, List.set_cons_succ, List.set_cons_zero])
    refine takeH (i := 22) rfl (.there (.there (.there (.there (.there (.there (.there (.there (.there (.there (.there (.there (.there (.there (.there (.there (.there (.there (.there (.there (.there (.there .here)))))))))))))))))))))) (by kernel_rfl) (by kernel_rfl) (by kernel_rfl) (fun _ _ _ h => absurd h.1 (by simp)) (yields_val (v := (.bool true)) rfl (fun _ => by go_simp)) ⟨H.rw_ (by repeat (first | exact Take.head | apply Take.tail)), H.rd (s := p) (by repeat (first | exact Take.head | apply Take.tail)) int_len⟩ ?_
    (try simp only [Act.put, List.setIfInBounds_toArray, List.set_cons_succ, List.set_cons_zero])
    refine takeH (i := 23) rfl (.there (.there (.there (.there (.there (.there (.there (.there (.there (.there (.there (.there (.there (.there (.there (.there (.there (.there (.there (.there (.there (.there (.there .here))))))))))))))))))))))) (by kernel_rfl) (by kernel_rfl) (by kernel_rfl) (fun _ _ _ h => absurd h.1 (by simp)) (yields_val (v := (.bool true)) rfl (fun _ => by go_simp)) ⟨H.rw_ (by repeat (first | exact Take.head | apply Take.tail)), H.rd (s := p) (by repeat (first | exact Take.head | apply Take.tail)) int_len⟩ ?_
    (try simp only [Act.put, List.setIfInBounds_toArray, List.set_cons_succ, List.set_cons_zero])
    refine wpAnyH_done (by kernel_rfl) ?_ _
    exact ⟨rfl, bk, c, g, Lib.hid trivial, H.pick (.cons (by repeat (first | exact Take.head | apply Take.tail)) .nil), by first | (simp only [puts_cons, puts_nil, Act.put, List.setIfInBounds_toArray, List.set_cons_succ, List.set_cons_zero]; done) | (simp only [puts_cons, puts_nil, Act.put, List.setIfInBounds_toArray, List.set_cons_succ, List.set_cons_zero]; rfl)⟩
  clear H
  rintro u w ⟨bk, c, g, _, H, rfl⟩
  simp only [puts_cons, puts_nil, Act.put, List.setIfInBounds_toArray, List.set_cons_succ, List.set_cons_zero]
  go_wp2_with (first
    | go_skip
    | ((with_reducible refine at_box ?_); first | (refine wpList_box_H rfl rfl H rfl (by first | exact CellsOf.agg | exact CellsOf.int | exact CellsOf.bool | exact CellsOf.slice | exact CellsOf.string | exact CellsOf.pointer | exact CellsOf.func) ?_; clear H; intro bQ w H))
    | ((with_reducible refine at_alloc ?_); first | (refine wpList_alloc_H rfl rfl H ?_; clear H; intro b w H))
    | ((with_reducible refine at_load ?_); first | (refine wpList_load_H rfl rfl H rfl (by repeat (first | exact LoadAt.here rfl | apply LoadAt.there)) ?_) | (refine wpList_loads_H rfl rfl H rfl (by repeat (first | (apply LoadsAt.here; repeat (first | exact GetsAt.nil | apply GetsAt.here | apply GetsAt.there)) | apply LoadsAt.there)) ?_))
    | ((with_reducible refine at_store ?_); first | (refine wpList_store_H rfl rfl H rfl rfl (by repeat (first | (apply StoreAt.here; (first | exact CellsOf.agg | exact CellsOf.int | exact CellsOf.bool | exact CellsOf.slice | exact CellsOf.string | exact CellsOf.pointer | exact CellsOf.func); (repeat (first | exact SetsAt.nil | apply SetsAt.here | apply SetsAt.there)); exact rfl; exact rfl) | apply StoreAt.there)) ?_; clear H; intro w H)))
  go_ret
  exact ⟨rfl, H.below⟩
end Go.Proofs.Ytjiiobliadeldaa
