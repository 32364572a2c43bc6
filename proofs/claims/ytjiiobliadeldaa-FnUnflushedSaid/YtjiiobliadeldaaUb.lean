/- Walk of the law FnUnflushed. No condition but that the argument lies in memory. -/
import Derived.Test.YtjiiobliadeldaaUa
namespace Go.Proofs.Ytjiiobliadeldaa
open Go.RowKit
attribute [local go_sem ↓] Go.wp_at_zero Go.wp_at_succ
set_option linter.unusedSimpArgs false in
set_option linter.unusedVariables false in
set_option maxRecDepth 100000 in
set_option maxHeartbeats 8000000 in
theorem walk_fnUnflushed (s : Sl Int) (W0 : World) (ra : Rd u8cell 1 W0 s ∧ s.xs.length ≤ maxLen) : Calls Try.prog 7 #[.slice s.A s.xs.length s.c] W0 fun e w' => e = .returned (.bool true) ∧ Below W0.heap.size W0 w' := by
  obtain ⟨R, _⟩ := ra
  have H := Hp.start W0
  by_cases hbig : 1048576 < s.xs.length
  · have hb : decide (1048576 < s.xs.length) = true := decide_eq_true hbig
    have HB := Lib.hid hb; clear hb
    go_enter Try.func7, Try.ntmps7
    go_wp2_with (first
      | go_skip
      | ((with_reducible refine at_box ?_); first | (refine wpList_box_H rfl rfl H rfl (by first | exact CellsOf.agg | exact CellsOf.int | exact CellsOf.bool | exact CellsOf.slice | exact CellsOf.string | exact CellsOf.pointer | exact CellsOf.func) ?_; clear H; intro bQ w H))
      | ((with_reducible refine at_alloc ?_); first | (refine wpList_alloc_H rfl rfl H ?_; clear H; intro b w H))
      | ((with_reducible refine at_load ?_); first | (refine wpList_load_H rfl rfl H rfl (by repeat (first | exact LoadAt.here rfl | apply LoadAt.there)) ?_) | (refine wpList_loads_H rfl rfl H rfl (by repeat (first | (apply LoadsAt.here; repeat (first | exact GetsAt.nil | apply GetsAt.here | apply GetsAt.there)) | apply LoadsAt.there)) ?_))
      | ((with_reducible refine at_store ?_); first | (refine wpList_store_H rfl rfl H rfl rfl (by repeat (first | (apply StoreAt.here; (first | exact CellsOf.agg | exact CellsOf.int | exact CellsOf.bool | exact CellsOf.slice | exact CellsOf.string | exact CellsOf.pointer | exact CellsOf.func); (repeat (first | exact SetsAt.nil | apply SetsAt.here | apply SetsAt.there)); exact rfl; exact rfl) | apply StoreAt.there)) ?_; clear H; intro w H)))
    go_at_call 10
    refine (big_c s _).mono ?_
    rintro e w ⟨he, K⟩
    rw [HB.out] at he
    subst he
    replace H := H.add_all K
    clear K
    go_wp2_with (first
      | go_skip
      | ((with_reducible refine at_box ?_); first | (refine wpList_box_H rfl rfl H rfl (by first | exact CellsOf.agg | exact CellsOf.int | exact CellsOf.bool | exact CellsOf.slice | exact CellsOf.string | exact CellsOf.pointer | exact CellsOf.func) ?_; clear H; intro bQ w H))
      | ((with_reducible refine at_alloc ?_); first | (refine wpList_alloc_H rfl rfl H ?_; clear H; intro b w H))
      | ((with_reducible refine at_load ?_); first | (refine wpList_load_H rfl rfl H rfl (by repeat (first | exact LoadAt.here rfl | apply LoadAt.there)) ?_) | (refine wpList_loads_H rfl rfl H rfl (by repeat (first | (apply LoadsAt.here; repeat (first | exact GetsAt.nil | apply GetsAt.here | apply GetsAt.there)) | apply LoadsAt.there)) ?_))
      | ((with_reducible refine at_store ?_); first | (refine wpList_store_H rfl rfl H rfl rfl (by repeat (first | (apply StoreAt.here; (first | exact CellsOf.agg | exact CellsOf.int | exact CellsOf.bool | exact CellsOf.slice | exact CellsOf.string | exact CellsOf.pointer | exact CellsOf.func); (repeat (first | exact SetsAt.nil | apply SetsAt.here | apply SetsAt.there)); exact rfl; exact rfl) | apply StoreAt.there)) ?_; clear H; intro w H)))
    go_ret
    exact ⟨rfl, H.below⟩
  have hb : decide (1048576 < s.xs.length) = false := decide_eq_false hbig
  have HB := Lib.hid hb; clear hb
  have Z : s.xs.length ≤ 1048576 := by omega
  clear hbig
  go_enter Try.func7, Try.ntmps7
  go_wp2_with (first
    | go_skip
    | ((with_reducible refine at_box ?_); first | (refine wpList_box_H rfl rfl H rfl (by first | exact CellsOf.agg | exact CellsOf.int | exact CellsOf.bool | exact CellsOf.slice | exact CellsOf.string | exact CellsOf.pointer | exact CellsOf.func) ?_; clear H; intro bQ w H))
    | ((with_reducible refine at_alloc ?_); first | (refine wpList_alloc_H rfl rfl H ?_; clear H; intro b w H))
    | ((with_reducible refine at_load ?_); first | (refine wpList_load_H rfl rfl H rfl (by repeat (first | exact LoadAt.here rfl | apply LoadAt.there)) ?_) | (refine wpList_loads_H rfl rfl H rfl (by repeat (first | (apply LoadsAt.here; repeat (first | exact GetsAt.nil | apply GetsAt.here | apply GetsAt.there)) | apply LoadsAt.there)) ?_))
    | ((with_reducible refine at_store ?_); first | (refine wpList_store_H rfl rfl H rfl rfl (by repeat (first | (apply StoreAt.here; (first | exact CellsOf.agg | exact CellsOf.int | exact CellsOf.bool | exact CellsOf.slice | exact CellsOf.string | exact CellsOf.pointer | exact CellsOf.func); (repeat (first | exact SetsAt.nil | apply SetsAt.here | apply SetsAt.there)); exact rfl; exact rfl) | apply StoreAt.there)) ?_; clear H; intro w H)))
  go_at_call 10
  refine (big_c s _).mono ?_
  rintro e w ⟨he, K⟩
  rw [HB.out] at he
  subst he
  replace H := H.add_all K
  clear K
  go_wp2_with (first
    | go_skip
    | ((with_reducible refine at_box ?_); first | (refine wpList_box_H rfl rfl H rfl (by first | exact CellsOf.agg | exact CellsOf.int | exact CellsOf.bool | exact CellsOf.slice | exact CellsOf.string | exact CellsOf.pointer | exact CellsOf.func) ?_; clear H; intro bQ w H))
    | ((with_reducible refine at_alloc ?_); first | (refine wpList_alloc_H rfl rfl H ?_; clear H; intro b w H))
    | ((with_reducible refine at_load ?_); first | (refine wpList_load_H rfl rfl H rfl (by repeat (first | exact LoadAt.here rfl | apply LoadAt.there)) ?_) | (refine wpList_loads_H rfl rfl H rfl (by repeat (first | (apply LoadsAt.here; repeat (first | exact GetsAt.nil | apply GetsAt.here | apply GetsAt.there)) | apply LoadsAt.there)) ?_))
    | ((with_reducible refine at_store ?_); first | (refine wpList_store_H rfl rfl H rfl rfl (by repeat (first | (apply StoreAt.here; (first | exact CellsOf.agg | exact CellsOf.int | exact CellsOf.bool | exact CellsOf.slice | exact CellsOf.string | exact CellsOf.pointer | exact CellsOf.func); (repeat (first | exact SetsAt.nil | apply SetsAt.here | apply SetsAt.there)); exact rfl; exact rfl) | apply StoreAt.there)) ?_; clear H; intro w H)))
  go_at_call 11
  refine (drawPlaces_c s _ (R.at_ H) Z).mono ?_
  rintro e w ⟨p, rfl, hpl, hpb, K⟩
  replace H := H.add_all K
  clear K
  obtain ⟨p0, hp0e⟩ : ∃ p0, p.xs[0]? = some p0 := ⟨_, List.getElem?_eq_getElem (by omega)⟩
  have HP0 := Lib.hid hp0e
  have hpp0 := hpb p0 (List.mem_of_getElem? hp0e)
  have hp0 : 0 < p.xs.length := by omega
  obtain ⟨p1, hp1e⟩ : ∃ p1, p.xs[1]? = some p1 := ⟨_, List.getElem?_eq_getElem (by omega)⟩
  have HP1 := Lib.hid hp1e
  have hpp1 := hpb p1 (List.mem_of_getElem? hp1e)
  have hp1 : 1 < p.xs.length := by omega
  clear hp0e
  clear hp1e
  clear hpl hpb
  obtain ⟨a, ha⟩ : ∃ a, a = p0.tmod 16 := ⟨_, rfl⟩
  have a0 : 0 ≤ a := by rw [ha]; exact Int.tmod_nonneg _ hpp0.1
  have a1 : a < 16 := by rw [ha]; exact Int.tmod_lt_of_pos _ (by decide)
  have Ea : Hid (p0.tmod 16 = a) := ha.symm
  have Fa : Hid (p0 % 16 = a) := Lib.hid (by rw [ha, Int.tmod_eq_emod_of_nonneg hpp0.1])
  clear ha
  obtain ⟨r, hr⟩ : ∃ r, r = p1.tmod 8 := ⟨_, rfl⟩
  have r0 : 0 ≤ r := by rw [hr]; exact Int.tmod_nonneg _ hpp1.1
  have r1 : r < 8 := by rw [hr]; exact Int.tmod_lt_of_pos _ (by decide)
  have Er : Hid (p1.tmod 8 = r) := hr.symm
  have Fr : Hid (p1 % 8 = r) := Lib.hid (by rw [hr, Int.tmod_eq_emod_of_nonneg hpp1.1])
  clear hr
  have L := fin2 ufL_all a0 a1 r0 r1
  unfold ufL at L
  simp only [Bool.and_eq_true, decide_eq_true_eq] at L
  obtain ⟨⟨⟨⟨⟨⟨⟨⟨⟨⟨s0, s1⟩, s2⟩, s3⟩, s4⟩, s5⟩, le⟩, lk⟩, ls⟩, lx⟩, lp⟩ := L
  replace s0 := smB_le s0
  replace s1 := smB_le s1
  replace s2 := smB_le s2
  replace s3 := smB_le s3
  replace s4 := smB_le s4
  replace s5 := smB_le s5
  obtain ⟨q, hq⟩ : ∃ q, q = a / 4 := ⟨_, rfl⟩
  have EQ : Hid (a.tdiv 4 = q) := Lib.hid (by rw [hq, Int.tdiv_eq_ediv_of_nonneg a0])
  have FQ : Hid (a / 4 = q) := Lib.hid hq.symm
  have WT : Hid (IntKind.i64.wrap (a.tdiv 4) = q) := Lib.hid (by rw [EQ.out]; exact wrapq _ (by omega) (by omega))
  have WQ : Hid (wrap64 (a.tdiv 4) = q) := Lib.hid (by rw [EQ.out]; exact wrap64q _ (by omega) (by omega))
  rw [← hq, ← WQ.out] at le
  have LE := Lib.hid le
  clear le
  have LK := Lib.hid lk
  clear lk
  have LS := Lib.hid ls
  clear ls
  have LX := Lib.hid lx
  clear lx
  have LP := Lib.hid lp
  clear lp
  clear hq hpp0 hpp1
  go_wp2_with (first
    | go_skip
    | ((with_reducible refine at_box ?_); first | (refine wpList_box_H rfl rfl H rfl (by first | exact CellsOf.agg | exact CellsOf.int | exact CellsOf.bool | exact CellsOf.slice | exact CellsOf.string | exact CellsOf.pointer | exact CellsOf.func) ?_; clear H; intro bQ w H))
    | ((with_reducible refine at_alloc ?_); first | (refine wpList_alloc_H rfl rfl H ?_; clear H; intro bB w H))
    | ((with_reducible refine at_load ?_); first | (refine wpList_load_rd rfl rfl p (H.rd (s := p) (by repeat (first | exact Take.head | apply Take.tail)) int_len) rfl p0 HP0.out rfl ?_) | (refine wpList_load_H rfl rfl H rfl (by repeat (first | exact LoadAt.here rfl | apply LoadAt.there)) ?_) | (refine wpList_loads_H rfl rfl H rfl (by repeat (first | (apply LoadsAt.here; repeat (first | exact GetsAt.nil | apply GetsAt.here | apply GetsAt.there)) | apply LoadsAt.there)) ?_))
    | ((with_reducible refine at_store ?_); first | (refine wpList_store_H rfl rfl H rfl rfl (by repeat (first | (apply StoreAt.here; (first | exact CellsOf.agg | exact CellsOf.int | exact CellsOf.bool | exact CellsOf.slice | exact CellsOf.string | exact CellsOf.pointer | exact CellsOf.func); (repeat (first | exact SetsAt.nil | apply SetsAt.here | apply SetsAt.there)); exact rfl; exact rfl) | apply StoreAt.there)) ?_; clear H; intro w H))
    | ((with_reducible refine at_index ?_); first | (refine wpList_index_n rfl rfl (k := 0) p (H.rd (s := p) (by repeat (first | exact Take.head | apply Take.tail)) int_len) rfl rfl rfl hp0 ?_))
    | ((with_reducible refine at_slice ?_); first | ((with_reducible refine at_dst 25 ?_); refine wpList_lit_H rfl rfl H ([⟨4, p0.tmod 16⟩, ⟨7, 0⟩] : List Ins) (by kernel_rfl) rfl (by decide) (by decide) ?_; clear H; intro bi w H) | ((with_reducible refine at_dst 26 ?_); refine wpList_one_H rfl rfl H (⟨some ⟨bi, 0, none⟩, 2, [⟨4, p0.tmod 16⟩, ⟨7, 0⟩]⟩ : Sl Ins) rfl CellsOf.slice rfl (by decide) ?_; clear H; intro bo w H)))
  go_at_call 12
  refine (specBareNew_c (⟨some ⟨bo, 0, none⟩, 1, [(⟨some ⟨bi, 0, none⟩, 2, [⟨4, p0.tmod 16⟩, ⟨7, 0⟩]⟩ : Sl Ins)]⟩ : Sl (Sl Ins)) _ (H.rd (s := (⟨some ⟨bo, 0, none⟩, 1, [(⟨some ⟨bi, 0, none⟩, 2, [⟨4, p0.tmod 16⟩, ⟨7, 0⟩]⟩ : Sl Ins)]⟩ : Sl (Sl Ins))) (by repeat (first | exact Take.head | apply Take.tail)) h_len) (by intro x hx; rw [List.mem_singleton.1 hx]; exact H.rd (by repeat (first | exact Take.head | apply Take.tail)) ins_len) (by intro x hx; rw [List.mem_singleton.1 hx]; simp) (by simp) (by simp)).mono ?_
  rintro e w ⟨b0, rfl, x1, K⟩
  have Hb0 : Hid (b0.m = uf0 a) := Lib.hid (by rw [x1, ← Ea.out]; rfl)
  clear x1
  replace H := H.add_all K
  clear K
  have Zb0 := bbig_mq s0 Hb0
  rw [Ea.out]
  clear a0 a1 r0 r1
  go_wp2_with (first
    | go_skip
    | ((with_reducible refine at_box ?_); first | (refine wpList_box_H rfl rfl H rfl (by first | exact CellsOf.agg | exact CellsOf.int | exact CellsOf.bool | exact CellsOf.slice | exact CellsOf.string | exact CellsOf.pointer | exact CellsOf.func) ?_; clear H; intro bQ w H))
    | ((with_reducible refine at_alloc ?_); first | (refine wpList_alloc_H rfl rfl H ?_; clear H; intro bB w H))
    | ((with_reducible refine at_load ?_); first | (refine wpList_load_H rfl rfl H rfl (by repeat (first | exact LoadAt.here rfl | apply LoadAt.there)) ?_) | (refine wpList_loads_H rfl rfl H rfl (by repeat (first | (apply LoadsAt.here; repeat (first | exact GetsAt.nil | apply GetsAt.here | apply GetsAt.there)) | apply LoadsAt.there)) ?_))
    | ((with_reducible refine at_store ?_); first | (refine wpList_store_H rfl rfl H rfl rfl (by repeat (first | (apply StoreAt.here; (first | exact CellsOf.agg | exact CellsOf.int | exact CellsOf.bool | exact CellsOf.slice | exact CellsOf.string | exact CellsOf.pointer | exact CellsOf.func); (repeat (first | exact SetsAt.nil | apply SetsAt.here | apply SetsAt.there)); exact rfl; exact rfl) | apply StoreAt.there)) ?_; clear H; intro w H)))
  replace H : Hp W0 _ [.bare b0, .int p, .box bB 31 (barr b0).toList] := H.pick (.cons (by repeat (first | exact Take.head | apply Take.tail)) (.cons (by repeat (first | exact Take.head | apply Take.tail)) (.cons (by repeat (first | exact Take.head | apply Take.tail)) .nil)))
  refine wp_cut (fun u a' w' => ∃ (d : BV), Hid (d.m = uf1 a r) ∧ Hp W0 w' [.bare d, .int p, .box bB 31 (barr d).toList] ∧ a' = puts u [(29, b0.val), (30, (.int .i64 a)), (31, (.int .i64 q)), (32, (.slice p.A p.xs.length p.c)), (33, (.pointer (some ⟨ablk p.A, aoff p.A + 1 * 1, none⟩))), (34, (.int .i64 p1)), (35, (.int .i64 r)), (36, (.agg #[.int .i64 r, .int .i64 3])), (37, (.tuple #[d.val, .bool (chOkM b0.m 0 (hasB q 4 && slotOkM 8 ⟨r, 3⟩))])), (28, (.tuple #[d.val, .bool (chOkM b0.m 0 (hasB q 4 && slotOkM 8 ⟨r, 3⟩))])), (38, d.val), (39, (.bool (chOkM b0.m 0 (hasB q 4 && slotOkM 8 ⟨r, 3⟩))))]) ?_ ?_
  · refine wp_region_held (S := (fun w' => Rd icell 1 w' p)) (by kernel_rfl) ?_
    replace H := H.drew
    refine takeH (i := 1) rfl (.there .here) (by kernel_rfl) (by kernel_rfl) (by kernel_rfl) (fun _ _ _ h => absurd h.1 (by simp)) (yields_val (v := (.int .i64 a)) rfl (fun _ => by go_simp)) (H.rd (s := p) (by repeat (first | exact Take.head | apply Take.tail)) int_len) ?_
    (try simp only [Act.put, List.setIfInBounds_toArray, List.set_cons_succ, List.set_cons_zero])
    refine takeH (i := 2) rfl (.there (.there .here)) (by kernel_rfl) (by kernel_rfl) (by kernel_rfl) (fun _ _ _ h => absurd h.1 (by simp)) (yields_val (v := (.int .i64 q)) rfl (fun _ => by (first | (go_simp; done) | (go_simp; rw [WT.out]) | (rw [← WT.out]; go_simp; done) | (go_simp; omega) | (go_simp; simpa using WT.out)))) (H.rd (s := p) (by repeat (first | exact Take.head | apply Take.tail)) int_len) ?_
    (try simp only [Act.put, List.setIfInBounds_toArray, List.set_cons_succ, List.set_cons_zero])
    refine takeH (i := 3) rfl (.there (.there (.there .here))) (by kernel_rfl) (by kernel_rfl) (by kernel_rfl) (fun _ _ _ h => absurd h.1 (by simp)) (yields_val (v := (.slice p.A p.xs.length p.c)) rfl (fun _ => by go_simp)) (H.rd (s := p) (by repeat (first | exact Take.head | apply Take.tail)) int_len) ?_
    (try simp only [Act.put, List.setIfInBounds_toArray, List.set_cons_succ, List.set_cons_zero])
    refine takeH (i := 4) rfl (.there (.there (.there (.there .here)))) (by kernel_rfl) (by kernel_rfl) (by kernel_rfl) (fun _ _ _ h => absurd h.1 (by simp)) (yields_index_n rfl rfl (k := 1) p (fun _ hS => hS) rfl rfl rfl hp1) (H.rd (s := p) (by repeat (first | exact Take.head | apply Take.tail)) int_len) ?_
    (try simp only [Act.put, List.setIfInBounds_toArray, List.set_cons_succ, List.set_cons_zero])
    refine takeH (i := 5) rfl (.there (.there (.there (.there (.there .here))))) (by kernel_rfl) (by kernel_rfl) (by kernel_rfl) (fun _ _ _ h => absurd h.1 (by simp)) (yields_load_rd rfl rfl p (fun _ hS => hS) rfl p1 HP1.out (by first | exact rfl | exact (Nat.add_zero _).symm) rfl) (H.rd (s := p) (by repeat (first | exact Take.head | apply Take.tail)) int_len) ?_
    (try simp only [Act.put, List.setIfInBounds_toArray, List.set_cons_succ, List.set_cons_zero])
    refine takeH (i := 6) rfl (.there (.there (.there (.there (.there (.there .here)))))) (by kernel_rfl) (by kernel_rfl) (by kernel_rfl) (fun _ _ _ h => absurd h.1 (by simp)) (yields_val (v := (.int .i64 r)) rfl (fun _ => by (first | (go_simp; done) | (go_simp; rw [Er.out]) | (rw [← Er.out]; go_simp; done) | (go_simp; omega) | (go_simp; simpa using Er.out)))) (H.rd (s := p) (by repeat (first | exact Take.head | apply Take.tail)) int_len) ?_
    (try simp only [Act.put, List.setIfInBounds_toArray, List.set_cons_succ, List.set_cons_zero])
    refine takeH (i := 7) rfl (.there (.there (.there (.there (.there (.there (.there .here))))))) (by kernel_rfl) (by kernel_rfl) (by kernel_rfl) (fun _ _ _ h => absurd h.1 (by simp)) (yields_val (v := (.agg #[.int .i64 r, .int .i64 3])) rfl (fun _ => by go_simp)) (H.rd (s := p) (by repeat (first | exact Take.head | apply Take.tail)) int_len) ?_
    (try simp only [Act.put, List.setIfInBounds_toArray, List.set_cons_succ, List.set_cons_zero])
    refine anyH_1 (i := 0) (by kernel_rfl) ?_
    refine wpOp_at rfl .here rfl ?_
    refine wp_loads_H rfl H rfl (by repeat (first | (apply LoadsAt.here; repeat (first | exact GetsAt.nil | apply GetsAt.here | apply GetsAt.there)) | apply LoadsAt.there)) ?_
    refine ⟨(H.rd (s := p) (by repeat (first | exact Take.head | apply Take.tail)) int_len), ?_⟩
    (try simp only [Act.put, List.setIfInBounds_toArray, List.set_cons_succ, List.set_cons_zero])
    refine anyH_1 (i := 8) (by kernel_rfl) ?_
    refine wpOp_at rfl (.there (.there (.there (.there (.there (.there (.there (.there .here)))))))) rfl ?_
    refine wp_call_H Try.f13 rfl rfl Try.func13 (by kernel_rfl) rfl rfl (made_H (val := fun d : BV => .tuple #[d.val, .bool (chOkM b0.m 0 (hasB q 4 && slotOkM 8 ⟨r, 3⟩))]) H (bareSet_c b0 0 q ⟨r, 3⟩ _ (H.brd (b := b0) (by repeat (first | exact Take.head | apply Take.tail))) Zb0)) ?_
    clear H
    rintro _ w ⟨d, rfl, HD, H⟩
    refine ⟨(H.rd (s := p) (by repeat (first | exact Take.head | apply Take.tail)) int_len), ?_⟩
    (try simp only [Act.put, List.setIfInBounds_toArray, List.set_cons_succ, List.set_cons_zero])
    refine takeH (i := 9) rfl (.there (.there (.there (.there (.there (.there (.there (.there (.there .here))))))))) (by kernel_rfl) (by kernel_rfl) (by kernel_rfl) (fun _ _ _ h => absurd h.1 (by simp)) (yields_val (v := (.tuple #[d.val, .bool (chOkM b0.m 0 (hasB q 4 && slotOkM 8 ⟨r, 3⟩))])) rfl (fun _ => by go_simp)) (H.rd (s := p) (by repeat (first | exact Take.head | apply Take.tail)) int_len) ?_
    (try simp only [Act.put, List.setIfInBounds_toArray, List.set_cons_succ, List.set_cons_zero])
    refine takeH (i := 10) rfl (.there (.there (.there (.there (.there (.there (.there (.there (.there (.there .here)))))))))) (by kernel_rfl) (by kernel_rfl) (by kernel_rfl) (fun _ _ _ h => absurd h.1 (by simp)) (yields_val (v := d.val) rfl (fun _ => by go_simp)) (H.rd (s := p) (by repeat (first | exact Take.head | apply Take.tail)) int_len) ?_
    (try simp only [Act.put, List.setIfInBounds_toArray, List.set_cons_succ, List.set_cons_zero])
    refine takeH (i := 11) rfl (.there (.there (.there (.there (.there (.there (.there (.there (.there (.there (.there .here))))))))))) (by kernel_rfl) (by kernel_rfl) (by kernel_rfl) (fun _ _ _ h => absurd h.1 (by simp)) (yields_val (v := (.bool (chOkM b0.m 0 (hasB q 4 && slotOkM 8 ⟨r, 3⟩)))) rfl (fun _ => by go_simp)) (H.rd (s := p) (by repeat (first | exact Take.head | apply Take.tail)) int_len) ?_
    (try simp only [Act.put, List.setIfInBounds_toArray, List.set_cons_succ, List.set_cons_zero])
    refine anyH_1 (i := 12) (by kernel_rfl) ?_
    refine wpOp_at rfl (.there (.there (.there (.there (.there (.there (.there (.there (.there (.there (.there (.there .here)))))))))))) rfl ?_
    refine wp_store_H rfl H rfl rfl (by repeat (first | (apply StoreAt.here; (first | exact CellsOf.agg | exact CellsOf.int | exact CellsOf.bool | exact CellsOf.slice | exact CellsOf.string | exact CellsOf.pointer | exact CellsOf.func); (repeat (first | exact SetsAt.nil | apply SetsAt.here | apply SetsAt.there)); exact rfl; exact rfl) | apply StoreAt.there)) ?_
    clear H
    intro w H
    refine ⟨(H.rd (s := p) (by repeat (first | exact Take.head | apply Take.tail)) int_len), ?_⟩
    (try simp only [Act.put, List.setIfInBounds_toArray, List.set_cons_succ, List.set_cons_zero])
    refine wpAnyH_done (by kernel_rfl) ?_ _
    exact ⟨rfl, d, Lib.hid (by rw [HD.out, Hb0.out, ← FQ.out]; rfl), H.pick (.cons (by repeat (first | exact Take.head | apply Take.tail)) (.cons (by repeat (first | exact Take.head | apply Take.tail)) (.cons (by repeat (first | exact Take.head | apply Take.tail)) .nil))), by first | (simp only [puts_cons, puts_nil, Act.put, List.setIfInBounds_toArray, List.set_cons_succ, List.set_cons_zero]; done) | (simp only [puts_cons, puts_nil, Act.put, List.setIfInBounds_toArray, List.set_cons_succ, List.set_cons_zero]; rfl)⟩
  clear H
  rintro u w ⟨d, Hd, H, rfl⟩
  simp only [puts_cons, puts_nil, Act.put, List.setIfInBounds_toArray, List.set_cons_succ, List.set_cons_zero]
  have Zd := bbig_mq s1 Hd
  go_wp2_with (first
    | go_skip
    | ((with_reducible refine at_box ?_); first | (refine wpList_box_H rfl rfl H rfl (by first | exact CellsOf.agg | exact CellsOf.int | exact CellsOf.bool | exact CellsOf.slice | exact CellsOf.string | exact CellsOf.pointer | exact CellsOf.func) ?_; clear H; intro bQ w H))
    | ((with_reducible refine at_alloc ?_); first | (refine wpList_alloc_H rfl rfl H ?_; clear H; intro bX w H))
    | ((with_reducible refine at_load ?_); first | (refine wpList_load_H rfl rfl H rfl (by repeat (first | exact LoadAt.here rfl | apply LoadAt.there)) ?_) | (refine wpList_loads_H rfl rfl H rfl (by repeat (first | (apply LoadsAt.here; repeat (first | exact GetsAt.nil | apply GetsAt.here | apply GetsAt.there)) | apply LoadsAt.there)) ?_))
    | ((with_reducible refine at_store ?_); first | (refine wpList_store_H rfl rfl H rfl rfl (by repeat (first | (apply StoreAt.here; (first | exact CellsOf.agg | exact CellsOf.int | exact CellsOf.bool | exact CellsOf.slice | exact CellsOf.string | exact CellsOf.pointer | exact CellsOf.func); (repeat (first | exact SetsAt.nil | apply SetsAt.here | apply SetsAt.there)); exact rfl; exact rfl) | apply StoreAt.there)) ?_; clear H; intro w H)))
  go_at_call 19
  refine (bareStep_c d 0 _ (H.brd (b := d) (by repeat (first | exact Take.head | apply Take.tail))) Zd).mono ?_
  rintro e w ⟨x, he, x1, K⟩
  have Hx : Hid (x.m = uf2 a r) := by show _ = _; rw [x1, Hd.out]; rfl
  clear x1
  rw [Hd.out] at he
  skip
  subst he
  replace H := H.add_all K
  clear K
  have Zx := bbig_mq s2 Hx
  go_wp2_with (first
    | go_skip
    | ((with_reducible refine at_box ?_); first | (refine wpList_box_H rfl rfl H rfl (by first | exact CellsOf.agg | exact CellsOf.int | exact CellsOf.bool | exact CellsOf.slice | exact CellsOf.string | exact CellsOf.pointer | exact CellsOf.func) ?_; clear H; intro bQ w H))
    | ((with_reducible refine at_alloc ?_); first | (refine wpList_alloc_H rfl rfl H ?_; clear H; intro bX w H))
    | ((with_reducible refine at_load ?_); first | (refine wpList_load_H rfl rfl H rfl (by repeat (first | exact LoadAt.here rfl | apply LoadAt.there)) ?_) | (refine wpList_loads_H rfl rfl H rfl (by repeat (first | (apply LoadsAt.here; repeat (first | exact GetsAt.nil | apply GetsAt.here | apply GetsAt.there)) | apply LoadsAt.there)) ?_))
    | ((with_reducible refine at_store ?_); first | (refine wpList_store_H rfl rfl H rfl rfl (by repeat (first | (apply StoreAt.here; (first | exact CellsOf.agg | exact CellsOf.int | exact CellsOf.bool | exact CellsOf.slice | exact CellsOf.string | exact CellsOf.pointer | exact CellsOf.func); (repeat (first | exact SetsAt.nil | apply SetsAt.here | apply SetsAt.there)); exact rfl; exact rfl) | apply StoreAt.there)) ?_; clear H; intro w H)))
  replace H : Hp W0 _ [.bare x, .box bX 31 (barr x).toList] := H.pick (.cons (by repeat (first | exact Take.head | apply Take.tail)) (.cons (by repeat (first | exact Take.head | apply Take.tail)) .nil))
  go_at_call 20
  refine (exitOf_c x 0 _ (H.brd (b := x) (by repeat (first | exact Take.head | apply Take.tail))) Zx).mono ?_
  rintro e w ⟨he, K⟩
  rw [Hx.out, LE.out] at he
  subst he
  replace H := H.add_all K
  clear K
  go_wp2_with (first
    | go_skip
    | ((with_reducible refine at_box ?_); first | (refine wpList_box_H rfl rfl H rfl (by first | exact CellsOf.agg | exact CellsOf.int | exact CellsOf.bool | exact CellsOf.slice | exact CellsOf.string | exact CellsOf.pointer | exact CellsOf.func) ?_; clear H; intro bQ w H))
    | ((with_reducible refine at_alloc ?_); first | (refine wpList_alloc_H rfl rfl H ?_; clear H; intro bE w H))
    | ((with_reducible refine at_load ?_); first | (refine wpList_load_H rfl rfl H rfl (by repeat (first | exact LoadAt.here rfl | apply LoadAt.there)) ?_) | (refine wpList_loads_H rfl rfl H rfl (by repeat (first | (apply LoadsAt.here; repeat (first | exact GetsAt.nil | apply GetsAt.here | apply GetsAt.there)) | apply LoadsAt.there)) ?_))
    | ((with_reducible refine at_store ?_); first | (refine wpList_store_H rfl rfl H rfl rfl (by repeat (first | (apply StoreAt.here; (first | exact CellsOf.agg | exact CellsOf.int | exact CellsOf.bool | exact CellsOf.slice | exact CellsOf.string | exact CellsOf.pointer | exact CellsOf.func); (repeat (first | exact SetsAt.nil | apply SetsAt.here | apply SetsAt.there)); exact rfl; exact rfl) | apply StoreAt.there)) ?_; clear H; intro w H)))
  rw [WQ.out]
  go_at_call 14
  refine (bareFlush_c x 0 q _ (H.brd (b := x) (by repeat (first | exact Take.head | apply Take.tail))) Zx).mono ?_
  rintro e w ⟨y, he, x1, K⟩
  have Hy : Hid (y.m = uf3 a r) := by show _ = _; rw [x1, Hx.out, ← FQ.out]; rfl
  clear x1
  rw [Hx.out] at he
  
  subst he
  replace H := H.add_all K
  clear K
  have Zy := bbig_mq s3 Hy
  go_wp2_with (first
    | go_skip
    | ((with_reducible refine at_box ?_); first | (refine wpList_box_H rfl rfl H rfl (by first | exact CellsOf.agg | exact CellsOf.int | exact CellsOf.bool | exact CellsOf.slice | exact CellsOf.string | exact CellsOf.pointer | exact CellsOf.func) ?_; clear H; intro bQ w H))
    | ((with_reducible refine at_alloc ?_); first | (refine wpList_alloc_H rfl rfl H ?_; clear H; intro bY w H))
    | ((with_reducible refine at_load ?_); first | (refine wpList_load_H rfl rfl H rfl (by repeat (first | exact LoadAt.here rfl | apply LoadAt.there)) ?_) | (refine wpList_loads_H rfl rfl H rfl (by repeat (first | (apply LoadsAt.here; repeat (first | exact GetsAt.nil | apply GetsAt.here | apply GetsAt.there)) | apply LoadsAt.there)) ?_))
    | ((with_reducible refine at_store ?_); first | (refine wpList_store_H rfl rfl H rfl rfl (by repeat (first | (apply StoreAt.here; (first | exact CellsOf.agg | exact CellsOf.int | exact CellsOf.bool | exact CellsOf.slice | exact CellsOf.string | exact CellsOf.pointer | exact CellsOf.func); (repeat (first | exact SetsAt.nil | apply SetsAt.here | apply SetsAt.there)); exact rfl; exact rfl) | apply StoreAt.there)) ?_; clear H; intro w H)))
  replace H : Hp W0 _ [.bare y, .box bX 31 (barr x).toList, .box bE 46 [.int .i64 1, .int .i64 (wrap64 (a.tdiv 4)), .bool true, .int .i64 0], .box bY 31 (barr y).toList] := H.pick (.cons (by repeat (first | exact Take.head | apply Take.tail)) (.cons (by repeat (first | exact Take.head | apply Take.tail)) (.cons (by repeat (first | exact Take.head | apply Take.tail)) (.cons (by repeat (first | exact Take.head | apply Take.tail)) .nil))))
  go_at_call 27
  refine (bareResume_c y 0 _ (H.brd (b := y) (by repeat (first | exact Take.head | apply Take.tail))) Zy).mono ?_
  rintro e w ⟨z, he, x1, K⟩
  have Hz : Hid (z.m = uf4 a r) := by show _ = _; rw [x1, Hy.out]; rfl
  clear x1
  rw [Hy.out] at he
  rw [LK.out] at he
  subst he
  replace H := H.add_all K
  clear K
  have Zz := bbig_mq s4 Hz
  go_wp2_with (first
    | go_skip
    | ((with_reducible refine at_box ?_); first | (refine wpList_box_H rfl rfl H rfl (by first | exact CellsOf.agg | exact CellsOf.int | exact CellsOf.bool | exact CellsOf.slice | exact CellsOf.string | exact CellsOf.pointer | exact CellsOf.func) ?_; clear H; intro bQ w H))
    | ((with_reducible refine at_alloc ?_); first | (refine wpList_alloc_H rfl rfl H ?_; clear H; intro bY w H))
    | ((with_reducible refine at_load ?_); first | (refine wpList_load_H rfl rfl H rfl (by repeat (first | exact LoadAt.here rfl | apply LoadAt.there)) ?_) | (refine wpList_loads_H rfl rfl H rfl (by repeat (first | (apply LoadsAt.here; repeat (first | exact GetsAt.nil | apply GetsAt.here | apply GetsAt.there)) | apply LoadsAt.there)) ?_))
    | ((with_reducible refine at_store ?_); first | (refine wpList_store_H rfl rfl H rfl rfl (by repeat (first | (apply StoreAt.here; (first | exact CellsOf.agg | exact CellsOf.int | exact CellsOf.bool | exact CellsOf.slice | exact CellsOf.string | exact CellsOf.pointer | exact CellsOf.func); (repeat (first | exact SetsAt.nil | apply SetsAt.here | apply SetsAt.there)); exact rfl; exact rfl) | apply StoreAt.there)) ?_; clear H; intro w H)))
  replace H : Hp W0 _ [.bare z, .box bE 46 [.int .i64 1, .int .i64 (wrap64 (a.tdiv 4)), .bool true, .int .i64 0], .box bY 31 (barr z).toList] := H.pick (.cons (by repeat (first | exact Take.head | apply Take.tail)) (.cons (by repeat (first | exact Take.head | apply Take.tail)) (.cons (by repeat (first | exact Take.head | apply Take.tail)) .nil)))
  go_at_call 19
  refine (bareStep_c z 0 _ (H.brd (b := z) (by repeat (first | exact Take.head | apply Take.tail))) Zz).mono ?_
  rintro e w ⟨v, he, x1, K⟩
  have Hv : Hid (v.m = uf5 a r) := by show _ = _; rw [x1, Hz.out]; rfl
  clear x1
  rw [Hz.out] at he
  rw [LS.out] at he
  subst he
  replace H := H.add_all K
  clear K
  have Zv := bbig_mq s5 Hv
  go_wp2_with (first
    | go_skip
    | ((with_reducible refine at_box ?_); first | (refine wpList_box_H rfl rfl H rfl (by first | exact CellsOf.agg | exact CellsOf.int | exact CellsOf.bool | exact CellsOf.slice | exact CellsOf.string | exact CellsOf.pointer | exact CellsOf.func) ?_; clear H; intro bQ w H))
    | ((with_reducible refine at_alloc ?_); first | (refine wpList_alloc_H rfl rfl H ?_; clear H; intro bZ w H))
    | ((with_reducible refine at_load ?_); first | (refine wpList_load_H rfl rfl H rfl (by repeat (first | exact LoadAt.here rfl | apply LoadAt.there)) ?_) | (refine wpList_loads_H rfl rfl H rfl (by repeat (first | (apply LoadsAt.here; repeat (first | exact GetsAt.nil | apply GetsAt.here | apply GetsAt.there)) | apply LoadsAt.there)) ?_))
    | ((with_reducible refine at_store ?_); first | (refine wpList_store_H rfl rfl H rfl rfl (by repeat (first | (apply StoreAt.here; (first | exact CellsOf.agg | exact CellsOf.int | exact CellsOf.bool | exact CellsOf.slice | exact CellsOf.string | exact CellsOf.pointer | exact CellsOf.func); (repeat (first | exact SetsAt.nil | apply SetsAt.here | apply SetsAt.there)); exact rfl; exact rfl) | apply StoreAt.there)) ?_; clear H; intro w H)))
  replace H : Hp W0 _ [.bare v, .box bE 46 [.int .i64 1, .int .i64 (wrap64 (a.tdiv 4)), .bool true, .int .i64 0], .box bZ 31 (barr v).toList] := H.pick (.cons (by repeat (first | exact Take.head | apply Take.tail)) (.cons (by repeat (first | exact Take.head | apply Take.tail)) (.cons (by repeat (first | exact Take.head | apply Take.tail)) .nil)))
  go_at_call 20
  refine (exitOf_c v 0 _ (H.brd (b := v) (by repeat (first | exact Take.head | apply Take.tail))) Zv).mono ?_
  rintro e w ⟨he, K⟩
  rw [Hv.out, LX.out] at he
  subst he
  replace H := H.add_all K
  clear K
  go_wp2_with (first
    | go_skip
    | ((with_reducible refine at_box ?_); first | (refine wpList_box_H rfl rfl H rfl (by first | exact CellsOf.agg | exact CellsOf.int | exact CellsOf.bool | exact CellsOf.slice | exact CellsOf.string | exact CellsOf.pointer | exact CellsOf.func) ?_; clear H; intro bQ w H))
    | ((with_reducible refine at_alloc ?_); first | (refine wpList_alloc_H rfl rfl H ?_; clear H; intro b w H))
    | ((with_reducible refine at_load ?_); first | (refine wpList_load_H rfl rfl H rfl (by repeat (first | exact LoadAt.here rfl | apply LoadAt.there)) ?_) | (refine wpList_loads_H rfl rfl H rfl (by repeat (first | (apply LoadsAt.here; repeat (first | exact GetsAt.nil | apply GetsAt.here | apply GetsAt.there)) | apply LoadsAt.there)) ?_))
    | ((with_reducible refine at_store ?_); first | (refine wpList_store_H rfl rfl H rfl rfl (by repeat (first | (apply StoreAt.here; (first | exact CellsOf.agg | exact CellsOf.int | exact CellsOf.bool | exact CellsOf.slice | exact CellsOf.string | exact CellsOf.pointer | exact CellsOf.func); (repeat (first | exact SetsAt.nil | apply SetsAt.here | apply SetsAt.there)); exact rfl; exact rfl) | apply StoreAt.there)) ?_; clear H; intro w H)))
  go_at_call 17
  refine (guestOf_c v 0 _ (H.brd (b := v) (by repeat (first | exact Take.head | apply Take.tail))) Zv).mono ?_
  rintro e w ⟨g0, rfl, x1, K⟩
  rw [Hv.out] at x1
  have Hg0 := Lib.hid x1
  clear x1
  replace H := H.add_all K
  clear K
  have hpc : g0.pc = 1 := by have h := congrArg MG.pc Hg0.out; rw [LP.out] at h; exact h
  go_wp2_with (first
    | go_skip
    | ((with_reducible refine at_box ?_); first | (refine wpList_box_H rfl rfl H rfl (by first | exact CellsOf.agg | exact CellsOf.int | exact CellsOf.bool | exact CellsOf.slice | exact CellsOf.string | exact CellsOf.pointer | exact CellsOf.func) ?_; clear H; intro bQ w H))
    | ((with_reducible refine at_alloc ?_); first | (refine wpList_alloc_H rfl rfl H ?_; clear H; intro b w H))
    | ((with_reducible refine at_load ?_); first | (refine wpList_load_H rfl rfl H rfl (by repeat (first | exact LoadAt.here rfl | apply LoadAt.there)) ?_) | (refine wpList_loads_H rfl rfl H rfl (by repeat (first | (apply LoadsAt.here; repeat (first | exact GetsAt.nil | apply GetsAt.here | apply GetsAt.there)) | apply LoadsAt.there)) ?_))
    | ((with_reducible refine at_store ?_); first | (refine wpList_store_H rfl rfl H rfl rfl (by repeat (first | (apply StoreAt.here; (first | exact CellsOf.agg | exact CellsOf.int | exact CellsOf.bool | exact CellsOf.slice | exact CellsOf.string | exact CellsOf.pointer | exact CellsOf.func); (repeat (first | exact SetsAt.nil | apply SetsAt.here | apply SetsAt.there)); exact rfl; exact rfl) | apply StoreAt.there)) ?_; clear H; intro w H)))
  go_ret
  exact ⟨rfl, H.below⟩
end Go.Proofs.Ytjiiobliadeldaa
