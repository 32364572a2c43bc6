/- Walk of the law FnTrapped. No condition but that the argument lies in memory. -/
import Derived.Test.YtjiiobliadeldaaUa
namespace Go.Proofs.Ytjiiobliadeldaa
open Go.RowKit
attribute [local go_sem ↓] Go.wp_at_zero Go.wp_at_succ
set_option linter.unusedSimpArgs false in
set_option linter.unusedVariables false in
set_option maxRecDepth 100000 in
set_option maxHeartbeats 8000000 in
theorem walk_fnTrapped (s : Sl Int) (W0 : World) (ra : Rd u8cell 1 W0 s ∧ s.xs.length ≤ maxLen) : Calls Try.prog 4 #[.slice s.A s.xs.length s.c] W0 fun e w' => e = .returned (.bool true) ∧ Below W0.heap.size W0 w' := by
  obtain ⟨R, _⟩ := ra
  have H := Hp.start W0
  by_cases hbig : 1048576 < s.xs.length
  · have hb : decide (1048576 < s.xs.length) = true := decide_eq_true hbig
    have HB := Lib.hid hb; clear hb
    go_enter Try.func4, Try.ntmps4
    go_wp2_with (first
      | go_skip
      | ((with_reducible refine at_box ?_); first | (refine wpList_box_H rfl rfl H rfl (by first | exact CellsOf.agg | exact CellsOf.int | exact CellsOf.bool | exact CellsOf.slice | exact CellsOf.string | exact CellsOf.pointer | exact CellsOf.func) ?_; clear H; intro bQ w H))
      | ((with_reducible refine at_alloc ?_); first | (refine wpList_alloc_H rfl rfl H ?_; clear H; intro b w H))
      | ((with_reducible refine at_load ?_); first | (refine wpList_load_H rfl rfl H rfl (by repeat (first | exact LoadAt.here rfl | apply LoadAt.there)) ?_) | (refine wpList_loads_H rfl rfl H rfl (by repeat (first | (apply LoadsAt.here; repeat (first | exact GetsAt.nil | apply GetsAt.here | apply GetsAt.there)) | apply LoadsAt.there)) ?_))
      | ((with_reducible refine at_store ?_); first | (refine wpList_store_H rfl rfl H rfl rfl (by repeat (first | (apply StoreAt.here; (first | exact CellsOf.agg | exact CellsOf.int | exact CellsOf.bool | exact CellsOf.slice | exact CellsOf.string | exact CellsOf.pointer | exact CellsOf.func); (repeat (first | exact SetsAt.nil | apply SetsAt.here | apply SetsAt.there)); exact rfl; exact rfl) | apply StoreAt.there)) ?_; clear H; intro w H)))
    go_at_call 10
    refine (big_c s _).mono ?_
    rintro e w ⟨he, K⟩
    rw [HB.out] at he
    subst he
    replace H := H.add_all K
    clear K
    go_wp2_with (first
      | go_skip
      | ((with_reducible refine at_box ?_); first | (refine wpList_box_H rfl rfl H rfl (by first | exact CellsOf.agg | exact CellsOf.int | exact CellsOf.bool | exact CellsOf.slice | exact CellsOf.string | exact CellsOf.pointer | exact CellsOf.func) ?_; clear H; intro bQ w H))
      | ((with_reducible refine at_alloc ?_); first | (refine wpList_alloc_H rfl rfl H ?_; clear H; intro b w H))
      | ((with_reducible refine at_load ?_); first | (refine wpList_load_H rfl rfl H rfl (by repeat (first | exact LoadAt.here rfl | apply LoadAt.there)) ?_) | (refine wpList_loads_H rfl rfl H rfl (by repeat (first | (apply LoadsAt.here; repeat (first | exact GetsAt.nil | apply GetsAt.here | apply GetsAt.there)) | apply LoadsAt.there)) ?_))
      | ((with_reducible refine at_store ?_); first | (refine wpList_store_H rfl rfl H rfl rfl (by repeat (first | (apply StoreAt.here; (first | exact CellsOf.agg | exact CellsOf.int | exact CellsOf.bool | exact CellsOf.slice | exact CellsOf.string | exact CellsOf.pointer | exact CellsOf.func); (repeat (first | exact SetsAt.nil | apply SetsAt.here | apply SetsAt.there)); exact rfl; exact rfl) | apply StoreAt.there)) ?_; clear H; intro w H)))
    go_ret
    exact ⟨rfl, H.below⟩
  have hb : decide (1048576 < s.xs.length) = false := decide_eq_false hbig
  have HB := Lib.hid hb; clear hb
  have Z : s.xs.length ≤ 1048576 := by omega
  clear hbig
  go_enter Try.func4, Try.ntmps4
  go_wp2_with (first
    | go_skip
    | ((with_reducible refine at_box ?_); first | (refine wpList_box_H rfl rfl H rfl (by first | exact CellsOf.agg | exact CellsOf.int | exact CellsOf.bool | exact CellsOf.slice | exact CellsOf.string | exact CellsOf.pointer | exact CellsOf.func) ?_; clear H; intro bQ w H))
    | ((with_reducible refine at_alloc ?_); first | (refine wpList_alloc_H rfl rfl H ?_; clear H; intro b w H))
    | ((with_reducible refine at_load ?_); first | (refine wpList_load_H rfl rfl H rfl (by repeat (first | exact LoadAt.here rfl | apply LoadAt.there)) ?_) | (refine wpList_loads_H rfl rfl H rfl (by repeat (first | (apply LoadsAt.here; repeat (first | exact GetsAt.nil | apply GetsAt.here | apply GetsAt.there)) | apply LoadsAt.there)) ?_))
    | ((with_reducible refine at_store ?_); first | (refine wpList_store_H rfl rfl H rfl rfl (by repeat (first | (apply StoreAt.here; (first | exact CellsOf.agg | exact CellsOf.int | exact CellsOf.bool | exact CellsOf.slice | exact CellsOf.string | exact CellsOf.pointer | exact CellsOf.func); (repeat (first | exact SetsAt.nil | apply SetsAt.here | apply SetsAt.there)); exact rfl; exact rfl) | apply StoreAt.there)) ?_; clear H; intro w H)))
  go_at_call 10
  refine (big_c s _).mono ?_
  rintro e w ⟨he, K⟩
  rw [HB.out] at he
  subst he
  replace H := H.add_all K
  clear K
  go_wp2_with (first
    | go_skip
    | ((with_reducible refine at_box ?_); first | (refine wpList_box_H rfl rfl H rfl (by first | exact CellsOf.agg | exact CellsOf.int | exact CellsOf.bool | exact CellsOf.slice | exact CellsOf.string | exact CellsOf.pointer | exact CellsOf.func) ?_; clear H; intro bQ w H))
    | ((with_reducible refine at_alloc ?_); first | (refine wpList_alloc_H rfl rfl H ?_; clear H; intro b w H))
    | ((with_reducible refine at_load ?_); first | (refine wpList_load_H rfl rfl H rfl (by repeat (first | exact LoadAt.here rfl | apply LoadAt.there)) ?_) | (refine wpList_loads_H rfl rfl H rfl (by repeat (first | (apply LoadsAt.here; repeat (first | exact GetsAt.nil | apply GetsAt.here | apply GetsAt.there)) | apply LoadsAt.there)) ?_))
    | ((with_reducible refine at_store ?_); first | (refine wpList_store_H rfl rfl H rfl rfl (by repeat (first | (apply StoreAt.here; (first | exact CellsOf.agg | exact CellsOf.int | exact CellsOf.bool | exact CellsOf.slice | exact CellsOf.string | exact CellsOf.pointer | exact CellsOf.func); (repeat (first | exact SetsAt.nil | apply SetsAt.here | apply SetsAt.there)); exact rfl; exact rfl) | apply StoreAt.there)) ?_; clear H; intro w H)))
  go_at_call 11
  refine (drawPlaces_c s _ (R.at_ H) Z).mono ?_
  rintro e w ⟨p, rfl, hpl, hpb, K⟩
  replace H := H.add_all K
  clear K
  obtain ⟨p0, hp0e⟩ : ∃ p0, p.xs[0]? = some p0 := ⟨_, List.getElem?_eq_getElem (by omega)⟩
  have HP0 := Lib.hid hp0e
  have hpp0 := hpb p0 (List.mem_of_getElem? hp0e)
  have hp0 : 0 < p.xs.length := by omega
  obtain ⟨p1, hp1e⟩ : ∃ p1, p.xs[1]? = some p1 := ⟨_, List.getElem?_eq_getElem (by omega)⟩
  have HP1 := Lib.hid hp1e
  have hpp1 := hpb p1 (List.mem_of_getElem? hp1e)
  have hp1 : 1 < p.xs.length := by omega
  clear hp0e
  clear hp1e
  clear hpl hpb
  obtain ⟨a, ha⟩ : ∃ a, a = p0.tmod 100 := ⟨_, rfl⟩
  have a0 : 0 ≤ a := by rw [ha]; exact Int.tmod_nonneg _ hpp0.1
  have a1 : a < 100 := by rw [ha]; exact Int.tmod_lt_of_pos _ (by decide)
  have Ea : Hid (p0.tmod 100 = a) := ha.symm
  have Fa : Hid (p0 % 100 = a) := Lib.hid (by rw [ha, Int.tmod_eq_emod_of_nonneg hpp0.1])
  clear ha
  obtain ⟨t, ht⟩ : ∃ t, t = p1.tmod 4 := ⟨_, rfl⟩
  have t0 : 0 ≤ t := by rw [ht]; exact Int.tmod_nonneg _ hpp1.1
  have t1 : t < 4 := by rw [ht]; exact Int.tmod_lt_of_pos _ (by decide)
  have Et : Hid (p1.tmod 4 = t) := ht.symm
  have Ft : Hid (p1 % 4 = t) := Lib.hid (by rw [ht, Int.tmod_eq_emod_of_nonneg hpp1.1])
  clear ht
  have L := fin2 trL_all a0 a1 t0 t1
  unfold trL at L
  simp only [Bool.and_eq_true, decide_eq_true_eq] at L
  obtain ⟨⟨⟨⟨s0, s1⟩, s2⟩, lo⟩, lx⟩ := L
  replace s0 := smB_le s0
  replace s1 := smB_le s1
  replace s2 := smB_le s2
  have LO := Lib.hid lo
  clear lo
  have LX := Lib.hid lx
  clear lx
  clear hpp0 hpp1 a0 a1
  go_wp2_with (first
    | go_skip
    | ((with_reducible refine at_box ?_); first | (refine wpList_box_H rfl rfl H rfl (by first | exact CellsOf.agg | exact CellsOf.int | exact CellsOf.bool | exact CellsOf.slice | exact CellsOf.string | exact CellsOf.pointer | exact CellsOf.func) ?_; clear H; intro bQ w H))
    | ((with_reducible refine at_alloc ?_); first | (refine wpList_alloc_H rfl rfl H ?_; clear H; intro bB w H))
    | ((with_reducible refine at_load ?_); first | (refine wpList_load_rd rfl rfl p (H.rd (s := p) (by repeat (first | exact Take.head | apply Take.tail)) int_len) rfl p0 HP0.out rfl ?_) | (refine wpList_load_H rfl rfl H rfl (by repeat (first | exact LoadAt.here rfl | apply LoadAt.there)) ?_) | (refine wpList_loads_H rfl rfl H rfl (by repeat (first | (apply LoadsAt.here; repeat (first | exact GetsAt.nil | apply GetsAt.here | apply GetsAt.there)) | apply LoadsAt.there)) ?_))
    | ((with_reducible refine at_store ?_); first | (refine wpList_store_H rfl rfl H rfl rfl (by repeat (first | (apply StoreAt.here; (first | exact CellsOf.agg | exact CellsOf.int | exact CellsOf.bool | exact CellsOf.slice | exact CellsOf.string | exact CellsOf.pointer | exact CellsOf.func); (repeat (first | exact SetsAt.nil | apply SetsAt.here | apply SetsAt.there)); exact rfl; exact rfl) | apply StoreAt.there)) ?_; clear H; intro w H))
    | ((with_reducible refine at_index ?_); first | (refine wpList_index_n rfl rfl (k := 0) p (H.rd (s := p) (by repeat (first | exact Take.head | apply Take.tail)) int_len) rfl rfl rfl hp0 ?_))
    | ((with_reducible refine at_slice ?_); first | ((with_reducible refine at_dst 19 ?_); refine wpList_lit_H rfl rfl H ([⟨5, p0.tmod 100⟩, ⟨7, 0⟩] : List Ins) (by kernel_rfl) rfl (by decide) (by decide) ?_; clear H; intro bi w H) | ((with_reducible refine at_dst 20 ?_); refine wpList_one_H rfl rfl H (⟨some ⟨bi, 0, none⟩, 2, [⟨5, p0.tmod 100⟩, ⟨7, 0⟩]⟩ : Sl Ins) rfl CellsOf.slice rfl (by decide) ?_; clear H; intro bo w H)))
  go_at_call 12
  refine (specBareNew_c (⟨some ⟨bo, 0, none⟩, 1, [(⟨some ⟨bi, 0, none⟩, 2, [⟨5, p0.tmod 100⟩, ⟨7, 0⟩]⟩ : Sl Ins)]⟩ : Sl (Sl Ins)) _ (H.rd (s := (⟨some ⟨bo, 0, none⟩, 1, [(⟨some ⟨bi, 0, none⟩, 2, [⟨5, p0.tmod 100⟩, ⟨7, 0⟩]⟩ : Sl Ins)]⟩ : Sl (Sl Ins))) (by repeat (first | exact Take.head | apply Take.tail)) h_len) (by intro x hx; rw [List.mem_singleton.1 hx]; exact H.rd (by repeat (first | exact Take.head | apply Take.tail)) ins_len) (by intro x hx; rw [List.mem_singleton.1 hx]; simp) (by simp) (by simp)).mono ?_
  rintro e w ⟨b0, rfl, x1, K⟩
  have Hb0 : Hid (b0.m = tr0 a) := Lib.hid (by rw [x1, ← Ea.out]; rfl)
  clear x1
  replace H := H.add_all K
  clear K
  have Zb0 := bbig_mq s0 Hb0
  rw [Ea.out]
  go_wp2_with (first
    | go_skip
    | ((with_reducible refine at_box ?_); first | (refine wpList_box_H rfl rfl H rfl (by first | exact CellsOf.agg | exact CellsOf.int | exact CellsOf.bool | exact CellsOf.slice | exact CellsOf.string | exact CellsOf.pointer | exact CellsOf.func) ?_; clear H; intro bQ w H))
    | ((with_reducible refine at_alloc ?_); first | (refine wpList_alloc_H rfl rfl H ?_; clear H; intro bB w H))
    | ((with_reducible refine at_load ?_); first | (refine wpList_load_H rfl rfl H rfl (by repeat (first | exact LoadAt.here rfl | apply LoadAt.there)) ?_) | (refine wpList_loads_H rfl rfl H rfl (by repeat (first | (apply LoadsAt.here; repeat (first | exact GetsAt.nil | apply GetsAt.here | apply GetsAt.there)) | apply LoadsAt.there)) ?_))
    | ((with_reducible refine at_store ?_); first | (refine wpList_store_H rfl rfl H rfl rfl (by repeat (first | (apply StoreAt.here; (first | exact CellsOf.agg | exact CellsOf.int | exact CellsOf.bool | exact CellsOf.slice | exact CellsOf.string | exact CellsOf.pointer | exact CellsOf.func); (repeat (first | exact SetsAt.nil | apply SetsAt.here | apply SetsAt.there)); exact rfl; exact rfl) | apply StoreAt.there)) ?_; clear H; intro w H)))
  replace H : Hp W0 _ [.bare b0, .int p, .box bB 31 (barr b0).toList] := H.pick (.cons (by repeat (first | exact Take.head | apply Take.tail)) (.cons (by repeat (first | exact Take.head | apply Take.tail)) (.cons (by repeat (first | exact Take.head | apply Take.tail)) .nil)))
  have hgl : b0.gs.xs.length = 1 := by
    have h : b0.m.guests.length = 1 := by rw [Hb0.out]; rfl
    simpa [BV.m, gsOf] using h
  replace H := (H.take (e := .bare b0) (by repeat (first | exact Take.head | apply Take.tail))).bparts
  obtain ⟨y, hy⟩ : ∃ y, b0.gs.xs[0]? = some y := ⟨_, List.getElem?_eq_getElem (by rw [hgl]; decide)⟩
  have HK := Lib.hid hy
  clear hy
  have hym : y.m = guestNewM [⟨5, a⟩, ⟨7, 0⟩] := by
    have h := (gAtM_hit HK.out).1
    rw [Hb0.out] at h
    exact h.symm
  have hyc : y.ctl = ⟨0, 0, false⟩ := congrArg MG.ctl hym
  refine wp_cut (fun u a' w' => ∃ (_ : Unit), Hid True ∧ Hp W0 w' [.gsl ⟨b0.gs.A, b0.gs.c, b0.gs.xs.set 0 ⟨y.prog, y.a, y.pc, y.written, y.live, ⟨t, y.ctl.post, y.ctl.opn⟩, y.pending, y.exit, y.halted, y.seen⟩⟩, .many En.gst b0.gs.xs, .rows b0.mem, .many En.int b0.mem.xs, .int b0.outs, .int p, .box bB 31 (barr b0).toList] ∧ a' = puts u [(22, .pointer (some ⟨bB, 1, none⟩)), (23, (.slice b0.gs.A b0.gs.xs.length b0.gs.c)), (24, (.slice p.A p.xs.length p.c)), (25, (.pointer (some ⟨ablk p.A, aoff p.A + 1 * 1, none⟩))), (26, (.int .i64 p1)), (27, (.int .i64 t)), (28, (.pointer (some ⟨ablk b0.gs.A, aoff b0.gs.A + 0 * 15, none⟩))), (29, (.pointer (some ⟨ablk b0.gs.A, aoff b0.gs.A + 0 * 15 + 5, none⟩))), (30, (.pointer (some ⟨ablk b0.gs.A, aoff b0.gs.A + 0 * 15 + 5, none⟩)))]) ?_ ?_
  · refine wp_region_held (S := (fun w' => Rw w' bB 31 (barr b0) ∧ Rd icell 1 w' p)) (by kernel_rfl) ?_
    replace H := H.drew
    refine takeH (i := 0) rfl .here (by kernel_rfl) (by kernel_rfl) (by kernel_rfl) (fun _ _ _ h => absurd h.1 (by simp)) (yields_val (v := .pointer (some ⟨bB, 1, none⟩)) rfl (fun _ => by go_simp)) ⟨H.rw_ (by repeat (first | exact Take.head | apply Take.tail)), H.rd (s := p) (by repeat (first | exact Take.head | apply Take.tail)) int_len⟩ ?_
    (try simp only [Act.put, List.setIfInBounds_toArray, List.set_cons_succ, List.set_cons_zero])
    refine takeH (i := 1) rfl (.there .here) (by kernel_rfl) (by kernel_rfl) (by kernel_rfl) (fun _ _ _ h => absurd h.1 (by simp)) (yields_load1_R rfl rfl rfl (fun _ hS => hS.1) rfl) ⟨H.rw_ (by repeat (first | exact Take.head | apply Take.tail)), H.rd (s := p) (by repeat (first | exact Take.head | apply Take.tail)) int_len⟩ ?_
    (try simp only [Act.put, List.setIfInBounds_toArray, List.set_cons_succ, List.set_cons_zero])
    refine takeH (i := 2) rfl (.there (.there .here)) (by kernel_rfl) (by kernel_rfl) (by kernel_rfl) (fun _ _ _ h => absurd h.1 (by simp)) (yields_val (v := (.slice p.A p.xs.length p.c)) rfl (fun _ => by go_simp)) ⟨H.rw_ (by repeat (first | exact Take.head | apply Take.tail)), H.rd (s := p) (by repeat (first | exact Take.head | apply Take.tail)) int_len⟩ ?_
    (try simp only [Act.put, List.setIfInBounds_toArray, List.set_cons_succ, List.set_cons_zero])
    refine takeH (i := 3) rfl (.there (.there (.there .here))) (by kernel_rfl) (by kernel_rfl) (by kernel_rfl) (fun _ _ _ h => absurd h.1 (by simp)) (yields_index_n rfl rfl (k := 1) p (fun _ hS => hS.2) rfl rfl rfl hp1) ⟨H.rw_ (by repeat (first | exact Take.head | apply Take.tail)), H.rd (s := p) (by repeat (first | exact Take.head | apply Take.tail)) int_len⟩ ?_
    (try simp only [Act.put, List.setIfInBounds_toArray, List.set_cons_succ, List.set_cons_zero])
    refine takeH (i := 4) rfl (.there (.there (.there (.there .here)))) (by kernel_rfl) (by kernel_rfl) (by kernel_rfl) (fun _ _ _ h => absurd h.1 (by simp)) (yields_load_rd rfl rfl p (fun _ hS => hS.2) rfl p1 HP1.out (by first | exact rfl | exact (Nat.add_zero _).symm) rfl) ⟨H.rw_ (by repeat (first | exact Take.head | apply Take.tail)), H.rd (s := p) (by repeat (first | exact Take.head | apply Take.tail)) int_len⟩ ?_
    (try simp only [Act.put, List.setIfInBounds_toArray, List.set_cons_succ, List.set_cons_zero])
    refine takeH (i := 5) rfl (.there (.there (.there (.there (.there .here))))) (by kernel_rfl) (by kernel_rfl) (by kernel_rfl) (fun _ _ _ h => absurd h.1 (by simp)) (yields_val (v := (.int .i64 t)) rfl (fun _ => by (first | (go_simp; done) | (go_simp; rw [Et.out]) | (rw [← Et.out]; go_simp; done) | (go_simp; omega) | (go_simp; simpa using Et.out)))) ⟨H.rw_ (by repeat (first | exact Take.head | apply Take.tail)), H.rd (s := p) (by repeat (first | exact Take.head | apply Take.tail)) int_len⟩ ?_
    (try simp only [Act.put, List.setIfInBounds_toArray, List.set_cons_succ, List.set_cons_zero])
    refine anyH_1 (i := 6) (by kernel_rfl) ?_
    refine wpOp_at rfl (.there (.there (.there (.there (.there (.there .here)))))) rfl ?_
    refine wp_index_n (k := 0) rfl b0.gs (H.rdgsl (by repeat (first | exact Take.head | apply Take.tail))) rfl rfl rfl (by rw [hgl]; decide) ?_
    refine ⟨⟨H.rw_ (by repeat (first | exact Take.head | apply Take.tail)), H.rd (s := p) (by repeat (first | exact Take.head | apply Take.tail)) int_len⟩, ?_⟩
    (try simp only [Act.put, List.setIfInBounds_toArray, List.set_cons_succ, List.set_cons_zero])
    refine takeH (i := 7) rfl (.there (.there (.there (.there (.there (.there (.there .here))))))) (by kernel_rfl) (by kernel_rfl) (by kernel_rfl) (fun _ _ _ h => absurd h.1 (by simp)) (yields_val (v := (.pointer (some ⟨ablk b0.gs.A, aoff b0.gs.A + 0 * 15 + 5, none⟩))) rfl (fun _ => by go_simp)) ⟨H.rw_ (by repeat (first | exact Take.head | apply Take.tail)), H.rd (s := p) (by repeat (first | exact Take.head | apply Take.tail)) int_len⟩ ?_
    (try simp only [Act.put, List.setIfInBounds_toArray, List.set_cons_succ, List.set_cons_zero])
    refine takeH (i := 8) rfl (.there (.there (.there (.there (.there (.there (.there (.there .here)))))))) (by kernel_rfl) (by kernel_rfl) (by kernel_rfl) (fun _ _ _ h => absurd h.1 (by simp)) (yields_val (v := (.pointer (some ⟨ablk b0.gs.A, aoff b0.gs.A + 0 * 15 + 5, none⟩))) rfl (fun _ => by go_simp)) ⟨H.rw_ (by repeat (first | exact Take.head | apply Take.tail)), H.rd (s := p) (by repeat (first | exact Take.head | apply Take.tail)) int_len⟩ ?_
    (try simp only [Act.put, List.setIfInBounds_toArray, List.set_cons_succ, List.set_cons_zero])
    refine anyH_1 (i := 9) (by kernel_rfl) ?_
    refine wpOp_at rfl (.there (.there (.there (.there (.there (.there (.there (.there (.there .here))))))))) rfl ?_
    refine wp_store_el rfl H b0.gs (by repeat (first | exact Take.head | apply Take.tail)) g_len rfl rfl y ⟨y.prog, y.a, y.pc, y.written, y.live, ⟨t, y.ctl.post, y.ctl.opn⟩, y.pending, y.exit, y.halted, y.seen⟩ HK.out rfl (by first | exact CellsOf.agg | exact CellsOf.int | exact CellsOf.bool | exact CellsOf.slice | exact CellsOf.string | exact CellsOf.pointer | exact CellsOf.func) (by repeat (first | exact SetsAt.nil | apply SetsAt.here | apply SetsAt.there)) (by exact rfl) (by exact rfl) ?_
    clear H
    intro w H
    refine ⟨⟨H.rw_ (by repeat (first | exact Take.head | apply Take.tail)), H.rd (s := p) (by repeat (first | exact Take.head | apply Take.tail)) int_len⟩, ?_⟩
    (try simp only [Act.put, List.setIfInBounds_toArray, List.set_cons_succ, List.set_cons_zero])
    refine wpAnyH_done (by kernel_rfl) ?_ _
    exact ⟨rfl, (), Lib.hid trivial, H.pick (.cons (by repeat (first | exact Take.head | apply Take.tail)) (.cons (by repeat (first | exact Take.head | apply Take.tail)) (.cons (by repeat (first | exact Take.head | apply Take.tail)) (.cons (by repeat (first | exact Take.head | apply Take.tail)) (.cons (by repeat (first | exact Take.head | apply Take.tail)) (.cons (by repeat (first | exact Take.head | apply Take.tail)) (.cons (by repeat (first | exact Take.head | apply Take.tail)) .nil))))))), by first | (simp only [puts_cons, puts_nil, Act.put, List.setIfInBounds_toArray, List.set_cons_succ, List.set_cons_zero]; done) | (simp only [puts_cons, puts_nil, Act.put, List.setIfInBounds_toArray, List.set_cons_succ, List.set_cons_zero]; rfl)⟩
  clear H
  rintro u w ⟨_, _, H, rfl⟩
  simp only [puts_cons, puts_nil, Act.put, List.setIfInBounds_toArray, List.set_cons_succ, List.set_cons_zero]
  replace H := (H.take (e := .many En.gst b0.gs.xs) (by repeat (first | exact Take.head | apply Take.tail))).gst_scal HK.out y.a y.pc ⟨t, y.ctl.post, y.ctl.opn⟩ y.pending y.exit y.halted
  obtain ⟨b1, hb1⟩ : ∃ b1 : BV, b1 = ⟨b0.mem, (⟨b0.gs.A, b0.gs.c, b0.gs.xs.set 0 ⟨y.prog, y.a, y.pc, y.written, y.live, ⟨t, y.ctl.post, y.ctl.opn⟩, y.pending, y.exit, y.halted, y.seen⟩⟩ : Sl GV), b0.outs, b0.pend⟩ := ⟨_, rfl⟩
  have eb : barr b0 = barr b1 := by rw [hb1]; simp [barr]
  have Hb1 : Hid (b1.m = tr1 a t) := by
    have h := wg_hit HK.out (fun x => ({ x with ctl := ⟨t, 0, false⟩ } : MG))
    rw [Hb0.out] at h
    refine Lib.hid (Eq.trans ?_ h.symm)
    rw [hb1, ← Hb0.out]
    simp only [BV.m, gsOf, List.map_set]
    rw [show (⟨y.prog, y.a, y.pc, y.written, y.live, ⟨t, y.ctl.post, y.ctl.opn⟩, y.pending, y.exit, y.halted, y.seen⟩ : GV).m = { y.m with ctl := ⟨t, 0, false⟩ } from by simp only [GV.m, hyc]]
  replace H : Hp W0 w [.bare b1, .int p, .box bB 31 (barr b0).toList] := by
    rw [hb1]
    have H2 : Hp W0 w (.rows b0.mem :: .many En.int b0.mem.xs :: .gsl (⟨b0.gs.A, b0.gs.c, b0.gs.xs.set 0 ⟨y.prog, y.a, y.pc, y.written, y.live, ⟨t, y.ctl.post, y.ctl.opn⟩, y.pending, y.exit, y.halted, y.seen⟩⟩ : Sl GV) :: .many En.gst (⟨b0.gs.A, b0.gs.c, b0.gs.xs.set 0 ⟨y.prog, y.a, y.pc, y.written, y.live, ⟨t, y.ctl.post, y.ctl.opn⟩, y.pending, y.exit, y.halted, y.seen⟩⟩ : Sl GV).xs :: .int b0.outs :: [.int p, .box bB 31 (barr b0).toList]) := H.pick (.cons (by repeat (first | exact Take.head | apply Take.tail)) (.cons (by repeat (first | exact Take.head | apply Take.tail)) (.cons (by repeat (first | exact Take.head | apply Take.tail)) (.cons (by repeat (first | exact Take.head | apply Take.tail)) (.cons (by repeat (first | exact Take.head | apply Take.tail)) (.cons (by repeat (first | exact Take.head | apply Take.tail)) (.cons (by repeat (first | exact Take.head | apply Take.tail)) .nil)))))))
    exact H2.bare
  rw [eb] at H
  clear eb hb1 HK hgl
  have Zb1 := bbig_mq s1 Hb1
  clear hyc hym
  go_wp2_with (first
    | go_skip
    | ((with_reducible refine at_box ?_); first | (refine wpList_box_H rfl rfl H rfl (by first | exact CellsOf.agg | exact CellsOf.int | exact CellsOf.bool | exact CellsOf.slice | exact CellsOf.string | exact CellsOf.pointer | exact CellsOf.func) ?_; clear H; intro bQ w H))
    | ((with_reducible refine at_alloc ?_); first | (refine wpList_alloc_H rfl rfl H ?_; clear H; intro bX w H))
    | ((with_reducible refine at_load ?_); first | (refine wpList_load_H rfl rfl H rfl (by repeat (first | exact LoadAt.here rfl | apply LoadAt.there)) ?_) | (refine wpList_loads_H rfl rfl H rfl (by repeat (first | (apply LoadsAt.here; repeat (first | exact GetsAt.nil | apply GetsAt.here | apply GetsAt.there)) | apply LoadsAt.there)) ?_))
    | ((with_reducible refine at_store ?_); first | (refine wpList_store_H rfl rfl H rfl rfl (by repeat (first | (apply StoreAt.here; (first | exact CellsOf.agg | exact CellsOf.int | exact CellsOf.bool | exact CellsOf.slice | exact CellsOf.string | exact CellsOf.pointer | exact CellsOf.func); (repeat (first | exact SetsAt.nil | apply SetsAt.here | apply SetsAt.there)); exact rfl; exact rfl) | apply StoreAt.there)) ?_; clear H; intro w H)))
  go_at_call 19
  refine (bareStep_c b1 0 _ (H.brd (b := b1) (by repeat (first | exact Take.head | apply Take.tail))) Zb1).mono ?_
  rintro e w ⟨x, he, x1, K⟩
  have Hx : Hid (x.m = tr2 a t) := by show _ = _; rw [x1, Hb1.out]; rfl
  clear x1
  rw [Hb1.out] at he
  
  subst he
  replace H := H.add_all K
  clear K
  have Zx := bbig_mq s2 Hx
  go_wp2_with (first
    | go_skip
    | ((with_reducible refine at_box ?_); first | (refine wpList_box_H rfl rfl H rfl (by first | exact CellsOf.agg | exact CellsOf.int | exact CellsOf.bool | exact CellsOf.slice | exact CellsOf.string | exact CellsOf.pointer | exact CellsOf.func) ?_; clear H; intro bQ w H))
    | ((with_reducible refine at_alloc ?_); first | (refine wpList_alloc_H rfl rfl H ?_; clear H; intro bX w H))
    | ((with_reducible refine at_load ?_); first | (refine wpList_load_H rfl rfl H rfl (by repeat (first | exact LoadAt.here rfl | apply LoadAt.there)) ?_) | (refine wpList_loads_H rfl rfl H rfl (by repeat (first | (apply LoadsAt.here; repeat (first | exact GetsAt.nil | apply GetsAt.here | apply GetsAt.there)) | apply LoadsAt.there)) ?_))
    | ((with_reducible refine at_store ?_); first | (refine wpList_store_H rfl rfl H rfl rfl (by repeat (first | (apply StoreAt.here; (first | exact CellsOf.agg | exact CellsOf.int | exact CellsOf.bool | exact CellsOf.slice | exact CellsOf.string | exact CellsOf.pointer | exact CellsOf.func); (repeat (first | exact SetsAt.nil | apply SetsAt.here | apply SetsAt.there)); exact rfl; exact rfl) | apply StoreAt.there)) ?_; clear H; intro w H)))
  replace H : Hp W0 _ [.bare x, .int p, .box bX 31 (barr x).toList] := H.pick (.cons (by repeat (first | exact Take.head | apply Take.tail)) (.cons (by repeat (first | exact Take.head | apply Take.tail)) (.cons (by repeat (first | exact Take.head | apply Take.tail)) .nil)))
  have hol : (x.outs.xs.length : Int) = ((tr2 a t).outs.length : Int) := by rw [← Hx.out]; rfl
  have htt : t = 0 ∨ t = 1 ∨ t = 2 ∨ t = 3 := by omega
  clear t0 t1
  rcases htt with rfl | rfl | rfl | rfl
  · skip
    have HLN : Hid (decide ((x.outs.xs.length : Int) = 1) = true) := by
      have h : (decide ((tr2 a 0).outs.length = 1) == trO 0) = true := LO.out
      have h2 : decide ((tr2 a 0).outs.length = 1) = true := by rw [beq_iff_eq] at h; rw [h]; rfl
      refine Lib.hid ?_
      rw [hol]
      simp only [decide_eq_true_eq] at h2 ⊢; omega
    clear hol
    go_at_call 20
    refine (exitOf_c x 0 _ (H.brd (b := x) (by repeat (first | exact Take.head | apply Take.tail))) Zx).mono ?_
    rintro e w ⟨he, K⟩
    rw [Hx.out, show (gAtM (tr2 a 0) 0).exit = ⟨0, 0, false, 0⟩ from LX.out] at he
    subst he
    replace H := H.add_all K
    clear K
    have hm1 : p1.tmod 4 = 0 := Et.out
    go_wp2_with (first
      | go_skip
      | ((with_reducible refine at_box ?_); first | (refine wpList_box_H rfl rfl H rfl (by first | exact CellsOf.agg | exact CellsOf.int | exact CellsOf.bool | exact CellsOf.slice | exact CellsOf.string | exact CellsOf.pointer | exact CellsOf.func) ?_; clear H; intro bQ w H))
      | ((with_reducible refine at_alloc ?_); first | (refine wpList_alloc_H rfl rfl H ?_; clear H; intro bE w H))
      | ((with_reducible refine at_load ?_); first | (refine wpList_load_rd rfl rfl p (H.rd (s := p) (by repeat (first | exact Take.head | apply Take.tail)) int_len) rfl p1 HP1.out rfl ?_) | (refine wpList_load_H rfl rfl H rfl (by repeat (first | exact LoadAt.here rfl | apply LoadAt.there)) ?_) | (refine wpList_loads_H rfl rfl H rfl (by repeat (first | (apply LoadsAt.here; repeat (first | exact GetsAt.nil | apply GetsAt.here | apply GetsAt.there)) | apply LoadsAt.there)) ?_))
      | ((with_reducible refine at_store ?_); first | (refine wpList_store_H rfl rfl H rfl rfl (by repeat (first | (apply StoreAt.here; (first | exact CellsOf.agg | exact CellsOf.int | exact CellsOf.bool | exact CellsOf.slice | exact CellsOf.string | exact CellsOf.pointer | exact CellsOf.func); (repeat (first | exact SetsAt.nil | apply SetsAt.here | apply SetsAt.there)); exact rfl; exact rfl) | apply StoreAt.there)) ?_; clear H; intro w H))
      | ((with_reducible refine at_index ?_); first | (refine wpList_index_n rfl rfl (k := 1) p (H.rd (s := p) (by repeat (first | exact Take.head | apply Take.tail)) int_len) rfl rfl rfl hp1 ?_)))
    clear hm1
    refine wp_cut (fun u a' w' => ∃ (_ : Unit), Hid True ∧ Hp W0 w' [.int p] ∧ a' = puts u [(50, .pointer (some ⟨bX, 2, none⟩)), (51, (.slice x.outs.A x.outs.xs.length x.outs.c)), (52, (.int .i64 (x.outs.xs.length : Int))), (53, (.bool true)), (54, (.bool true)), (55, (.bool true)), (56, (.bool true)), (57, (.agg #[.int .i64 0, .int .i64 0, .bool false, .int .i64 0])), (58, (.slice p.A p.xs.length p.c)), (59, (.pointer (some ⟨ablk p.A, aoff p.A + 0 * 1, none⟩))), (60, (.int .i64 p0)), (61, (.int .i64 a)), (62, (.agg #[.int .i64 3, .int .i64 0, .bool false, .int .i64 a])), (63, (.bool false)), (64, (.bool true)), (65, (.bool false)), (66, (.bool true)), (67, (.bool true)), (68, (.bool true)), (69, (.agg #[.int .i64 0, .int .i64 0, .bool false, .int .i64 0])), (70, (.agg #[.int .i64 0, .int .i64 0, .bool false, .int .i64 0])), (71, (.bool true)), (72, (.bool true)), (73, (.bool true)), (74, (.bool true)), (2, (.bool true))]) ?_ ?_
    · refine wp_region_held (S := (fun w' => Rw w' bX 31 (barr x) ∧ (Rw w' bE 46 #[.int .i64 0, .int .i64 0, .bool false, .int .i64 0] ∧ Rd icell 1 w' p))) (by kernel_rfl) ?_
      replace H := H.drew
      refine takeH (i := 0) rfl .here (by kernel_rfl) (by kernel_rfl) (by kernel_rfl) (fun _ _ _ h => absurd h.1 (by simp)) (yields_val (v := .pointer (some ⟨bX, 2, none⟩)) rfl (fun _ => by go_simp)) ⟨H.rw_ (by repeat (first | exact Take.head | apply Take.tail)), H.rw_ (by repeat (first | exact Take.head | apply Take.tail)), H.rd (s := p) (by repeat (first | exact Take.head | apply Take.tail)) int_len⟩ ?_
      (try simp only [Act.put, List.setIfInBounds_toArray, List.set_cons_succ, List.set_cons_zero])
      refine takeH (i := 1) rfl (.there .here) (by kernel_rfl) (by kernel_rfl) (by kernel_rfl) (fun _ _ _ h => absurd h.1 (by simp)) (yields_load1_R rfl rfl rfl (fun _ hS => hS.1) rfl) ⟨H.rw_ (by repeat (first | exact Take.head | apply Take.tail)), H.rw_ (by repeat (first | exact Take.head | apply Take.tail)), H.rd (s := p) (by repeat (first | exact Take.head | apply Take.tail)) int_len⟩ ?_
      (try simp only [Act.put, List.setIfInBounds_toArray, List.set_cons_succ, List.set_cons_zero])
      refine takeH (i := 2) rfl (.there (.there .here)) (by kernel_rfl) (by kernel_rfl) (by kernel_rfl) (fun _ _ _ h => absurd h.1 (by simp)) (yields_val (v := (.int .i64 (x.outs.xs.length : Int))) rfl (fun _ => by go_simp)) ⟨H.rw_ (by repeat (first | exact Take.head | apply Take.tail)), H.rw_ (by repeat (first | exact Take.head | apply Take.tail)), H.rd (s := p) (by repeat (first | exact Take.head | apply Take.tail)) int_len⟩ ?_
      (try simp only [Act.put, List.setIfInBounds_toArray, List.set_cons_succ, List.set_cons_zero])
      refine takeH (i := 3) rfl (.there (.there (.there .here))) (by kernel_rfl) (by kernel_rfl) (by kernel_rfl) (fun _ _ _ h => absurd h.1 (by simp)) (yields_val (v := (.bool true)) rfl (fun _ => by (first | (go_simp; done) | (go_simp; rw [HLN.out]) | (rw [← HLN.out]; go_simp; done) | (go_simp; omega) | (go_simp; simpa using HLN.out)))) ⟨H.rw_ (by repeat (first | exact Take.head | apply Take.tail)), H.rw_ (by repeat (first | exact Take.head | apply Take.tail)), H.rd (s := p) (by repeat (first | exact Take.head | apply Take.tail)) int_len⟩ ?_
      (try simp only [Act.put, List.setIfInBounds_toArray, List.set_cons_succ, List.set_cons_zero])
      refine takeH (i := 4) rfl (.there (.there (.there (.there .here)))) (by kernel_rfl) (by kernel_rfl) (by kernel_rfl) (fun _ _ _ h => absurd h.1 (by simp)) (yields_val (v := (.bool true)) rfl (fun _ => by go_simp)) ⟨H.rw_ (by repeat (first | exact Take.head | apply Take.tail)), H.rw_ (by repeat (first | exact Take.head | apply Take.tail)), H.rd (s := p) (by repeat (first | exact Take.head | apply Take.tail)) int_len⟩ ?_
      (try simp only [Act.put, List.setIfInBounds_toArray, List.set_cons_succ, List.set_cons_zero])
      refine takeH (i := 5) rfl (.there (.there (.there (.there (.there .here))))) (by kernel_rfl) (by kernel_rfl) (by kernel_rfl) (fun _ _ _ h => absurd h.1 (by simp)) (yields_val (v := (.bool true)) rfl (fun _ => by go_simp)) ⟨H.rw_ (by repeat (first | exact Take.head | apply Take.tail)), H.rw_ (by repeat (first | exact Take.head | apply Take.tail)), H.rd (s := p) (by repeat (first | exact Take.head | apply Take.tail)) int_len⟩ ?_
      (try simp only [Act.put, List.setIfInBounds_toArray, List.set_cons_succ, List.set_cons_zero])
      refine takeH (i := 6) rfl (.there (.there (.there (.there (.there (.there .here)))))) (by kernel_rfl) (by kernel_rfl) (by kernel_rfl) (fun _ _ _ h => absurd h.1 (by simp)) (yields_val (v := (.bool true)) rfl (fun _ => by go_simp)) ⟨H.rw_ (by repeat (first | exact Take.head | apply Take.tail)), H.rw_ (by repeat (first | exact Take.head | apply Take.tail)), H.rd (s := p) (by repeat (first | exact Take.head | apply Take.tail)) int_len⟩ ?_
      (try simp only [Act.put, List.setIfInBounds_toArray, List.set_cons_succ, List.set_cons_zero])
      refine takeH (i := 7) rfl (.there (.there (.there (.there (.there (.there (.there .here))))))) (by kernel_rfl) (by kernel_rfl) (by kernel_rfl) (fun _ _ _ h => absurd h.1 (by simp)) (yields_loads_R rfl rfl rfl (fun _ hS => hS.2.1) (by repeat (first | exact GetsAt.nil | apply GetsAt.here | apply GetsAt.there))) ⟨H.rw_ (by repeat (first | exact Take.head | apply Take.tail)), H.rw_ (by repeat (first | exact Take.head | apply Take.tail)), H.rd (s := p) (by repeat (first | exact Take.head | apply Take.tail)) int_len⟩ ?_
      (try simp only [Act.put, List.setIfInBounds_toArray, List.set_cons_succ, List.set_cons_zero])
      refine takeH (i := 8) rfl (.there (.there (.there (.there (.there (.there (.there (.there .here)))))))) (by kernel_rfl) (by kernel_rfl) (by kernel_rfl) (fun _ _ _ h => absurd h.1 (by simp)) (yields_val (v := (.slice p.A p.xs.length p.c)) rfl (fun _ => by go_simp)) ⟨H.rw_ (by repeat (first | exact Take.head | apply Take.tail)), H.rw_ (by repeat (first | exact Take.head | apply Take.tail)), H.rd (s := p) (by repeat (first | exact Take.head | apply Take.tail)) int_len⟩ ?_
      (try simp only [Act.put, List.setIfInBounds_toArray, List.set_cons_succ, List.set_cons_zero])
      refine takeH (i := 9) rfl (.there (.there (.there (.there (.there (.there (.there (.there (.there .here))))))))) (by kernel_rfl) (by kernel_rfl) (by kernel_rfl) (fun _ _ _ h => absurd h.1 (by simp)) (yields_index_n rfl rfl (k := 0) p (fun _ hS => hS.2.2) rfl rfl rfl hp0) ⟨H.rw_ (by repeat (first | exact Take.head | apply Take.tail)), H.rw_ (by repeat (first | exact Take.head | apply Take.tail)), H.rd (s := p) (by repeat (first | exact Take.head | apply Take.tail)) int_len⟩ ?_
      (try simp only [Act.put, List.setIfInBounds_toArray, List.set_cons_succ, List.set_cons_zero])
      refine takeH (i := 10) rfl (.there (.there (.there (.there (.there (.there (.there (.there (.there (.there .here)))))))))) (by kernel_rfl) (by kernel_rfl) (by kernel_rfl) (fun _ _ _ h => absurd h.1 (by simp)) (yields_load_rd rfl rfl p (fun _ hS => hS.2.2) rfl p0 HP0.out (by first | exact rfl | exact (Nat.add_zero _).symm) rfl) ⟨H.rw_ (by repeat (first | exact Take.head | apply Take.tail)), H.rw_ (by repeat (first | exact Take.head | apply Take.tail)), H.rd (s := p) (by repeat (first | exact Take.head | apply Take.tail)) int_len⟩ ?_
      (try simp only [Act.put, List.setIfInBounds_toArray, List.set_cons_succ, List.set_cons_zero])
      refine takeH (i := 11) rfl (.there (.there (.there (.there (.there (.there (.there (.there (.there (.there (.there .here))))))))))) (by kernel_rfl) (by kernel_rfl) (by kernel_rfl) (fun _ _ _ h => absurd h.1 (by simp)) (yields_val (v := (.int .i64 a)) rfl (fun _ => by (first | (go_simp; done) | (go_simp; rw [Ea.out]) | (rw [← Ea.out]; go_simp; done) | (go_simp; omega) | (go_simp; simpa using Ea.out)))) ⟨H.rw_ (by repeat (first | exact Take.head | apply Take.tail)), H.rw_ (by repeat (first | exact Take.head | apply Take.tail)), H.rd (s := p) (by repeat (first | exact Take.head | apply Take.tail)) int_len⟩ ?_
      (try simp only [Act.put, List.setIfInBounds_toArray, List.set_cons_succ, List.set_cons_zero])
      refine takeH (i := 12) rfl (.there (.there (.there (.there (.there (.there (.there (.there (.there (.there (.there (.there .here)))))))))))) (by kernel_rfl) (by kernel_rfl) (by kernel_rfl) (fun _ _ _ h => absurd h.1 (by simp)) (yields_val (v := (.agg #[.int .i64 3, .int .i64 0, .bool false, .int .i64 a])) rfl (fun _ => by go_simp)) ⟨H.rw_ (by repeat (first | exact Take.head | apply Take.tail)), H.rw_ (by repeat (first | exact Take.head | apply Take.tail)), H.rd (s := p) (by repeat (first | exact Take.head | apply Take.tail)) int_len⟩ ?_
      (try simp only [Act.put, List.setIfInBounds_toArray, List.set_cons_succ, List.set_cons_zero])
      refine takeH (i := 13) rfl (.there (.there (.there (.there (.there (.there (.there (.there (.there (.there (.there (.there (.there .here))))))))))))) (by kernel_rfl) (by kernel_rfl) (by kernel_rfl) (fun _ _ _ h => absurd h.1 (by simp)) (yields_val (v := (.bool false)) rfl (fun _ => by go_simp)) ⟨H.rw_ (by repeat (first | exact Take.head | apply Take.tail)), H.rw_ (by repeat (first | exact Take.head | apply Take.tail)), H.rd (s := p) (by repeat (first | exact Take.head | apply Take.tail)) int_len⟩ ?_
      (try simp only [Act.put, List.setIfInBounds_toArray, List.set_cons_succ, List.set_cons_zero])
      refine takeH (i := 14) rfl (.there (.there (.there (.there (.there (.there (.there (.there (.there (.there (.there (.there (.there (.there .here)))))))))))))) (by kernel_rfl) (by kernel_rfl) (by kernel_rfl) (fun _ _ _ h => absurd h.1 (by simp)) (yields_val (v := (.bool true)) rfl (fun _ => by go_simp)) ⟨H.rw_ (by repeat (first | exact Take.head | apply Take.tail)), H.rw_ (by repeat (first | exact Take.head | apply Take.tail)), H.rd (s := p) (by repeat (first | exact Take.head | apply Take.tail)) int_len⟩ ?_
      (try simp only [Act.put, List.setIfInBounds_toArray, List.set_cons_succ, List.set_cons_zero])
      refine takeH (i := 15) rfl (.there (.there (.there (.there (.there (.there (.there (.there (.there (.there (.there (.there (.there (.there (.there .here))))))))))))))) (by kernel_rfl) (by kernel_rfl) (by kernel_rfl) (fun _ _ _ h => absurd h.1 (by simp)) (yields_val (v := (.bool false)) rfl (fun _ => by go_simp)) ⟨H.rw_ (by repeat (first | exact Take.head | apply Take.tail)), H.rw_ (by repeat (first | exact Take.head | apply Take.tail)), H.rd (s := p) (by repeat (first | exact Take.head | apply Take.tail)) int_len⟩ ?_
      (try simp only [Act.put, List.setIfInBounds_toArray, List.set_cons_succ, List.set_cons_zero])
      refine takeH (i := 16) rfl (.there (.there (.there (.there (.there (.there (.there (.there (.there (.there (.there (.there (.there (.there (.there (.there .here)))))))))))))))) (by kernel_rfl) (by kernel_rfl) (by kernel_rfl) (fun _ _ _ h => absurd h.1 (by simp)) (yields_val (v := (.bool true)) rfl (fun _ => by go_simp)) ⟨H.rw_ (by repeat (first | exact Take.head | apply Take.tail)), H.rw_ (by repeat (first | exact Take.head | apply Take.tail)), H.rd (s := p) (by repeat (first | exact Take.head | apply Take.tail)) int_len⟩ ?_
      (try simp only [Act.put, List.setIfInBounds_toArray, List.set_cons_succ, List.set_cons_zero])
      refine takeH (i := 17) rfl (.there (.there (.there (.there (.there (.there (.there (.there (.there (.there (.there (.there (.there (.there (.there (.there (.there .here))))))))))))))))) (by kernel_rfl) (by kernel_rfl) (by kernel_rfl) (fun _ _ _ h => absurd h.1 (by simp)) (yields_val (v := (.bool true)) rfl (fun _ => by go_simp)) ⟨H.rw_ (by repeat (first | exact Take.head | apply Take.tail)), H.rw_ (by repeat (first | exact Take.head | apply Take.tail)), H.rd (s := p) (by repeat (first | exact Take.head | apply Take.tail)) int_len⟩ ?_
      (try simp only [Act.put, List.setIfInBounds_toArray, List.set_cons_succ, List.set_cons_zero])
      refine takeH (i := 18) rfl (.there (.there (.there (.there (.there (.there (.there (.there (.there (.there (.there (.there (.there (.there (.there (.there (.there (.there .here)))))))))))))))))) (by kernel_rfl) (by kernel_rfl) (by kernel_rfl) (fun _ _ _ h => absurd h.1 (by simp)) (yields_val (v := (.bool true)) rfl (fun _ => by go_simp)) ⟨H.rw_ (by repeat (first | exact Take.head | apply Take.tail)), H.rw_ (by repeat (first | exact Take.head | apply Take.tail)), H.rd (s := p) (by repeat (first | exact Take.head | apply Take.tail)) int_len⟩ ?_
      (try simp only [Act.put, List.setIfInBounds_toArray, List.set_cons_succ, List.set_cons_zero])
      refine takeH (i := 19) rfl (.there (.there (.there (.there (.there (.there (.there (.there (.there (.there (.there (.there (.there (.there (.there (.there (.there (.there (.there .here))))))))))))))))))) (by kernel_rfl) (by kernel_rfl) (by kernel_rfl) (fun _ _ _ h => absurd h.1 (by simp)) (yields_loads_R rfl rfl rfl (fun _ hS => hS.2.1) (by repeat (first | exact GetsAt.nil | apply GetsAt.here | apply GetsAt.there))) ⟨H.rw_ (by repeat (first | exact Take.head | apply Take.tail)), H.rw_ (by repeat (first | exact Take.head | apply Take.tail)), H.rd (s := p) (by repeat (first | exact Take.head | apply Take.tail)) int_len⟩ ?_
      (try simp only [Act.put, List.setIfInBounds_toArray, List.set_cons_succ, List.set_cons_zero])
      refine takeH (i := 20) rfl (.there (.there (.there (.there (.there (.there (.there (.there (.there (.there (.there (.there (.there (.there (.there (.there (.there (.there (.there (.there .here)))))))))))))))))))) (by kernel_rfl) (by kernel_rfl) (by kernel_rfl) (fun _ _ _ h => absurd h.1 (by simp)) (yields_val (v := (.agg #[.int .i64 0, .int .i64 0, .bool false, .int .i64 0])) rfl (fun _ => by go_simp)) ⟨H.rw_ (by repeat (first | exact Take.head | apply Take.tail)), H.rw_ (by repeat (first | exact Take.head | apply Take.tail)), H.rd (s := p) (by repeat (first | exact Take.head | apply Take.tail)) int_len⟩ ?_
      (try simp only [Act.put, List.setIfInBounds_toArray, List.set_cons_succ, List.set_cons_zero])
      refine takeH (i := 21) rfl (.there (.there (.there (.there (.there (.there (.there (.there (.there (.there (.there (.there (.there (.there (.there (.there (.there (.there (.there (.there (.there .here))))))))))))))))))))) (by kernel_rfl) (by kernel_rfl) (by kernel_rfl) (fun _ _ _ h => absurd h.1 (by simp)) (yields_val (v := (.bool true)) rfl (fun _ => by go_simp)) ⟨H.rw_ (by repeat (first | exact Take.head | apply Take.tail)), H.rw_ (by repeat (first | exact Take.head | apply Take.tail)), H.rd (s := p) (by repeat (first | exact Take.head | apply Take.tail)) int_len⟩ ?_
      (try simp only [Act.put, List.setIfInBounds_toArray, List.set_cons_succ, List.set_cons_zero])
      refine takeH (i := 22) rfl (.there (.there (.there (.there (.there (.there (.there (.there (.there (.there (.there (.there (.there (.there (.there (.there (.there (.there (.there (.there (.there (.there .here)))))))))))))))))))))) (by kernel_rfl) (by kernel_rfl) (by kernel_rfl) (fun _ _ _ h => absurd h.1 (by simp)) (yields_val (v := (.bool true)) rfl (fun _ => by go_simp)) ⟨H.rw_ (by repeat (first | exact Take.head | apply Take.tail)), H.rw_ (by repeat (first | exact Take.head | apply Take.tail)), H.rd (s := p) (by repeat (first | exact Take.head | apply Take.tail)) int_len⟩ ?_
      (try simp only [Act.put, List.setIfInBounds_toArray, List.set_cons_succ, List.set_cons_zero])
      refine takeH (i := 23) rfl (.there (.there (.there (.there (.there (.there (.there (.there (.there (.there (.there (.there (.there (.there (.there (.there (.there (.there (.there (.there (.there (.there (.there .here))))))))))))))))))))))) (by kernel_rfl) (by kernel_rfl) (by kernel_rfl) (fun _ _ _ h => absurd h.1 (by simp)) (yields_val (v := (.bool true)) rfl (fun _ => by go_simp)) ⟨H.rw_ (by repeat (first | exact Take.head | apply Take.tail)), H.rw_ (by repeat (first | exact Take.head | apply Take.tail)), H.rd (s := p) (by repeat (first | exact Take.head | apply Take.tail)) int_len⟩ ?_
      (try simp only [Act.put, List.setIfInBounds_toArray, List.set_cons_succ, List.set_cons_zero])
      refine takeH (i := 24) rfl (.there (.there (.there (.there (.there (.there (.there (.there (.there (.there (.there (.there (.there (.there (.there (.there (.there (.there (.there (.there (.there (.there (.there (.there .here)))))))))))))))))))))))) (by kernel_rfl) (by kernel_rfl) (by kernel_rfl) (fun _ _ _ h => absurd h.1 (by simp)) (yields_val (v := (.bool true)) rfl (fun _ => by go_simp)) ⟨H.rw_ (by repeat (first | exact Take.head | apply Take.tail)), H.rw_ (by repeat (first | exact Take.head | apply Take.tail)), H.rd (s := p) (by repeat (first | exact Take.head | apply Take.tail)) int_len⟩ ?_
      (try simp only [Act.put, List.setIfInBounds_toArray, List.set_cons_succ, List.set_cons_zero])
      refine takeH (i := 25) rfl (.there (.there (.there (.there (.there (.there (.there (.there (.there (.there (.there (.there (.there (.there (.there (.there (.there (.there (.there (.there (.there (.there (.there (.there (.there .here))))))))))))))))))))))))) (by kernel_rfl) (by kernel_rfl) (by kernel_rfl) (fun _ _ _ h => absurd h.1 (by simp)) (yields_val (v := (.bool true)) rfl (fun _ => by go_simp)) ⟨H.rw_ (by repeat (first | exact Take.head | apply Take.tail)), H.rw_ (by repeat (first | exact Take.head | apply Take.tail)), H.rd (s := p) (by repeat (first | exact Take.head | apply Take.tail)) int_len⟩ ?_
      (try simp only [Act.put, List.setIfInBounds_toArray, List.set_cons_succ, List.set_cons_zero])
      refine wpAnyH_done (by kernel_rfl) ?_ _
      exact ⟨rfl, (), Lib.hid trivial, H.pick (.cons (by repeat (first | exact Take.head | apply Take.tail)) .nil), by first | (simp only [puts_cons, puts_nil, Act.put, List.setIfInBounds_toArray, List.set_cons_succ, List.set_cons_zero]; done) | (simp only [puts_cons, puts_nil, Act.put, List.setIfInBounds_toArray, List.set_cons_succ, List.set_cons_zero]; rfl)⟩
    clear H
    rintro u w ⟨_, _, H, rfl⟩
    simp only [puts_cons, puts_nil, Act.put, List.setIfInBounds_toArray, List.set_cons_succ, List.set_cons_zero]
    go_wp2_with (first
      | go_skip
      | ((with_reducible refine at_box ?_); first | (refine wpList_box_H rfl rfl H rfl (by first | exact CellsOf.agg | exact CellsOf.int | exact CellsOf.bool | exact CellsOf.slice | exact CellsOf.string | exact CellsOf.pointer | exact CellsOf.func) ?_; clear H; intro bQ w H))
      | ((with_reducible refine at_alloc ?_); first | (refine wpList_alloc_H rfl rfl H ?_; clear H; intro b w H))
      | ((with_reducible refine at_load ?_); first | (refine wpList_load_H rfl rfl H rfl (by repeat (first | exact LoadAt.here rfl | apply LoadAt.there)) ?_) | (refine wpList_loads_H rfl rfl H rfl (by repeat (first | (apply LoadsAt.here; repeat (first | exact GetsAt.nil | apply GetsAt.here | apply GetsAt.there)) | apply LoadsAt.there)) ?_))
      | ((with_reducible refine at_store ?_); first | (refine wpList_store_H rfl rfl H rfl rfl (by repeat (first | (apply StoreAt.here; (first | exact CellsOf.agg | exact CellsOf.int | exact CellsOf.bool | exact CellsOf.slice | exact CellsOf.string | exact CellsOf.pointer | exact CellsOf.func); (repeat (first | exact SetsAt.nil | apply SetsAt.here | apply SetsAt.there)); exact rfl; exact rfl) | apply StoreAt.there)) ?_; clear H; intro w H)))
    go_ret
    exact ⟨rfl, H.below⟩
  · skip
    have HLN : Hid (decide ((x.outs.xs.length : Int) = 1) = false) := by
      have h : (decide ((tr2 a 1).outs.length = 1) == trO 1) = true := LO.out
      have h2 : decide ((tr2 a 1).outs.length = 1) = false := by rw [beq_iff_eq] at h; rw [h]; rfl
      refine Lib.hid ?_
      rw [hol]
      simp only [decide_eq_false_iff_not] at h2 ⊢; omega
    clear hol
    go_at_call 20
    refine (exitOf_c x 0 _ (H.brd (b := x) (by repeat (first | exact Take.head | apply Take.tail))) Zx).mono ?_
    rintro e w ⟨he, K⟩
    rw [Hx.out, show (gAtM (tr2 a 1) 0).exit = ⟨3, 0, false, a⟩ from LX.out] at he
    subst he
    replace H := H.add_all K
    clear K
    have hm1 : p1.tmod 4 = 1 := Et.out
    go_wp2_with (first
      | go_skip
      | ((with_reducible refine at_box ?_); first | (refine wpList_box_H rfl rfl H rfl (by first | exact CellsOf.agg | exact CellsOf.int | exact CellsOf.bool | exact CellsOf.slice | exact CellsOf.string | exact CellsOf.pointer | exact CellsOf.func) ?_; clear H; intro bQ w H))
      | ((with_reducible refine at_alloc ?_); first | (refine wpList_alloc_H rfl rfl H ?_; clear H; intro bE w H))
      | ((with_reducible refine at_load ?_); first | (refine wpList_load_rd rfl rfl p (H.rd (s := p) (by repeat (first | exact Take.head | apply Take.tail)) int_len) rfl p1 HP1.out rfl ?_) | (refine wpList_load_H rfl rfl H rfl (by repeat (first | exact LoadAt.here rfl | apply LoadAt.there)) ?_) | (refine wpList_loads_H rfl rfl H rfl (by repeat (first | (apply LoadsAt.here; repeat (first | exact GetsAt.nil | apply GetsAt.here | apply GetsAt.there)) | apply LoadsAt.there)) ?_))
      | ((with_reducible refine at_store ?_); first | (refine wpList_store_H rfl rfl H rfl rfl (by repeat (first | (apply StoreAt.here; (first | exact CellsOf.agg | exact CellsOf.int | exact CellsOf.bool | exact CellsOf.slice | exact CellsOf.string | exact CellsOf.pointer | exact CellsOf.func); (repeat (first | exact SetsAt.nil | apply SetsAt.here | apply SetsAt.there)); exact rfl; exact rfl) | apply StoreAt.there)) ?_; clear H; intro w H))
      | ((with_reducible refine at_index ?_); first | (refine wpList_index_n rfl rfl (k := 1) p (H.rd (s := p) (by repeat (first | exact Take.head | apply Take.tail)) int_len) rfl rfl rfl hp1 ?_)))
    clear hm1
    refine wp_cut (fun u a' w' => ∃ (_ : Unit), Hid True ∧ Hp W0 w' [.int p] ∧ a' = puts u [(50, .pointer (some ⟨bX, 2, none⟩)), (51, (.slice x.outs.A x.outs.xs.length x.outs.c)), (52, (.int .i64 (x.outs.xs.length : Int))), (53, (.bool false)), (54, (.bool false)), (55, (.bool true)), (56, (.bool true)), (57, (.agg #[.int .i64 3, .int .i64 0, .bool false, .int .i64 a])), (58, (.slice p.A p.xs.length p.c)), (59, (.pointer (some ⟨ablk p.A, aoff p.A + 0 * 1, none⟩))), (60, (.int .i64 p0)), (61, (.int .i64 a)), (62, (.agg #[.int .i64 3, .int .i64 0, .bool false, .int .i64 a])), (63, (.bool true)), (64, (.bool false)), (65, (.bool true)), (66, (.bool true)), (67, (.bool true)), (68, (.bool true)), (69, (.agg #[.int .i64 3, .int .i64 0, .bool false, .int .i64 a])), (70, (.agg #[.int .i64 0, .int .i64 0, .bool false, .int .i64 0])), (71, (.bool false)), (72, (.bool false)), (73, (.bool true)), (74, (.bool true)), (2, (.bool true))]) ?_ ?_
    · refine wp_region_held (S := (fun w' => Rw w' bX 31 (barr x) ∧ (Rw w' bE 46 #[.int .i64 3, .int .i64 0, .bool false, .int .i64 a] ∧ Rd icell 1 w' p))) (by kernel_rfl) ?_
      replace H := H.drew
      refine takeH (i := 0) rfl .here (by kernel_rfl) (by kernel_rfl) (by kernel_rfl) (fun _ _ _ h => absurd h.1 (by simp)) (yields_val (v := .pointer (some ⟨bX, 2, none⟩)) rfl (fun _ => by go_simp)) ⟨H.rw_ (by repeat (first | exact Take.head | apply Take.tail)), H.rw_ (by repeat (first | exact Take.head | apply Take.tail)), H.rd (s := p) (by repeat (first | exact Take.head | apply Take.tail)) int_len⟩ ?_
      (try simp only [Act.put, List.setIfInBounds_toArray, List.set_cons_succ, List.set_cons_zero])
      refine takeH (i := 1) rfl (.there .here) (by kernel_rfl) (by kernel_rfl) (by kernel_rfl) (fun _ _ _ h => absurd h.1 (by simp)) (yields_load1_R rfl rfl rfl (fun _ hS => hS.1) rfl) ⟨H.rw_ (by repeat (first | exact Take.head | apply Take.tail)), H.rw_ (by repeat (first | exact Take.head | apply Take.tail)), H.rd (s := p) (by repeat (first | exact Take.head | apply Take.tail)) int_len⟩ ?_
      (try simp only [Act.put, List.setIfInBounds_toArray, List.set_cons_succ, List.set_cons_zero])
      refine takeH (i := 2) rfl (.there (.there .here)) (by kernel_rfl) (by kernel_rfl) (by kernel_rfl) (fun _ _ _ h => absurd h.1 (by simp)) (yields_val (v := (.int .i64 (x.outs.xs.length : Int))) rfl (fun _ => by go_simp)) ⟨H.rw_ (by repeat (first | exact Take.head | apply Take.tail)), H.rw_ (by repeat (first | exact Take.head | apply Take.tail)), H.rd (s := p) (by repeat (first | exact Take.head | apply Take.tail)) int_len⟩ ?_
      (try simp only [Act.put, List.setIfInBounds_toArray, List.set_cons_succ, List.set_cons_zero])
      refine takeH (i := 3) rfl (.there (.there (.there .here))) (by kernel_rfl) (by kernel_rfl) (by kernel_rfl) (fun _ _ _ h => absurd h.1 (by simp)) (yields_val (v := (.bool false)) rfl (fun _ => by (first | (go_simp; done) | (go_simp; rw [HLN.out]) | (rw [← HLN.out]; go_simp; done) | (go_simp; omega) | (go_simp; simpa using HLN.out)))) ⟨H.rw_ (by repeat (first | exact Take.head | apply Take.tail)), H.rw_ (by repeat (first | exact Take.head | apply Take.tail)), H.rd (s := p) (by repeat (first | exact Take.head | apply Take.tail)) int_len⟩ ?_
      (try simp only [Act.put, List.setIfInBounds_toArray, List.set_cons_succ, List.set_cons_zero])
      refine takeH (i := 4) rfl (.there (.there (.there (.there .here)))) (by kernel_rfl) (by kernel_rfl) (by kernel_rfl) (fun _ _ _ h => absurd h.1 (by simp)) (yields_val (v := (.bool false)) rfl (fun _ => by go_simp)) ⟨H.rw_ (by repeat (first | exact Take.head | apply Take.tail)), H.rw_ (by repeat (first | exact Take.head | apply Take.tail)), H.rd (s := p) (by repeat (first | exact Take.head | apply Take.tail)) int_len⟩ ?_
      (try simp only [Act.put, List.setIfInBounds_toArray, List.set_cons_succ, List.set_cons_zero])
      refine takeH (i := 5) rfl (.there (.there (.there (.there (.there .here))))) (by kernel_rfl) (by kernel_rfl) (by kernel_rfl) (fun _ _ _ h => absurd h.1 (by simp)) (yields_val (v := (.bool true)) rfl (fun _ => by go_simp)) ⟨H.rw_ (by repeat (first | exact Take.head | apply Take.tail)), H.rw_ (by repeat (first | exact Take.head | apply Take.tail)), H.rd (s := p) (by repeat (first | exact Take.head | apply Take.tail)) int_len⟩ ?_
      (try simp only [Act.put, List.setIfInBounds_toArray, List.set_cons_succ, List.set_cons_zero])
      refine takeH (i := 6) rfl (.there (.there (.there (.there (.there (.there .here)))))) (by kernel_rfl) (by kernel_rfl) (by kernel_rfl) (fun _ _ _ h => absurd h.1 (by simp)) (yields_val (v := (.bool true)) rfl (fun _ => by go_simp)) ⟨H.rw_ (by repeat (first | exact Take.head | apply Take.tail)), H.rw_ (by repeat (first | exact Take.head | apply Take.tail)), H.rd (s := p) (by repeat (first | exact Take.head | apply Take.tail)) int_len⟩ ?_
      (try simp only [Act.put, List.setIfInBounds_toArray, List.set_cons_succ, List.set_cons_zero])
      refine takeH (i := 7) rfl (.there (.there (.there (.there (.there (.there (.there .here))))))) (by kernel_rfl) (by kernel_rfl) (by kernel_rfl) (fun _ _ _ h => absurd h.1 (by simp)) (yields_loads_R rfl rfl rfl (fun _ hS => hS.2.1) (by repeat (first | exact GetsAt.nil | apply GetsAt.here | apply GetsAt.there))) ⟨H.rw_ (by repeat (first | exact Take.head | apply Take.tail)), H.rw_ (by repeat (first | exact Take.head | apply Take.tail)), H.rd (s := p) (by repeat (first | exact Take.head | apply Take.tail)) int_len⟩ ?_
      (try simp only [Act.put, List.setIfInBounds_toArray, List.set_cons_succ, List.set_cons_zero])
      refine takeH (i := 8) rfl (.there (.there (.there (.there (.there (.there (.there (.there .here)))))))) (by kernel_rfl) (by kernel_rfl) (by kernel_rfl) (fun _ _ _ h => absurd h.1 (by simp)) (yields_val (v := (.slice p.A p.xs.length p.c)) rfl (fun _ => by go_simp)) ⟨H.rw_ (by repeat (first | exact Take.head | apply Take.tail)), H.rw_ (by repeat (first | exact Take.head | apply Take.tail)), H.rd (s := p) (by repeat (first | exact Take.head | apply Take.tail)) int_len⟩ ?_
      (try simp only [Act.put, List.setIfInBounds_toArray, List.set_cons_succ, List.set_cons_zero])
      refine takeH (i := 9) rfl (.there (.there (.there (.there (.there (.there (.there (.there (.there .here))))))))) (by kernel_rfl) (by kernel_rfl) (by kernel_rfl) (fun _ _ _ h => absurd h.1 (by simp)) (yields_index_n rfl rfl (k := 0) p (fun _ hS => hS.2.2) rfl rfl rfl hp0) ⟨H.rw_ (by repeat (first | exact Take.head | apply Take.tail)), H.rw_ (by repeat (first | exact Take.head | apply Take.tail)), H.rd (s := p) (by repeat (first | exact Take.head | apply Take.tail)) int_len⟩ ?_
      (try simp only [Act.put, List.setIfInBounds_toArray, List.set_cons_succ, List.set_cons_zero])
      refine takeH (i := 10) rfl (.there (.there (.there (.there (.there (.there (.there (.there (.there (.there .here)))))))))) (by kernel_rfl) (by kernel_rfl) (by kernel_rfl) (fun _ _ _ h => absurd h.1 (by simp)) (yields_load_rd rfl rfl p (fun _ hS => hS.2.2) rfl p0 HP0.out (by first | exact rfl | exact (Nat.add_zero _).symm) rfl) ⟨H.rw_ (by repeat (first | exact Take.head | apply Take.tail)), H.rw_ (by repeat (first | exact Take.head | apply Take.tail)), H.rd (s := p) (by repeat (first | exact Take.head | apply Take.tail)) int_len⟩ ?_
      (try simp only [Act.put, List.setIfInBounds_toArray, List.set_cons_succ, List.set_cons_zero])
      refine takeH (i := 11) rfl (.there (.there (.there (.there (.there (.there (.there (.there (.there (.there (.there .here))))))))))) (by kernel_rfl) (by kernel_rfl) (by kernel_rfl) (fun _ _ _ h => absurd h.1 (by simp)) (yields_val (v := (.int .i64 a)) rfl (fun _ => by (first | (go_simp; done) | (go_simp; rw [Ea.out]) | (rw [← Ea.out]; go_simp; done) | (go_simp; omega) | (go_simp; simpa using Ea.out)))) ⟨H.rw_ (by repeat (first | exact Take.head | apply Take.tail)), H.rw_ (by repeat (first | exact Take.head | apply Take.tail)), H.rd (s := p) (by repeat (first | exact Take.head | apply Take.tail)) int_len⟩ ?_
      (try simp only [Act.put, List.setIfInBounds_toArray, List.set_cons_succ, List.set_cons_zero])
      refine takeH (i := 12) rfl (.there (.there (.there (.there (.there (.there (.there (.there (.there (.there (.there (.there .here)))))))))))) (by kernel_rfl) (by kernel_rfl) (by kernel_rfl) (fun _ _ _ h => absurd h.1 (by simp)) (yields_val (v := (.agg #[.int .i64 3, .int .i64 0, .bool false, .int .i64 a])) rfl (fun _ => by go_simp)) ⟨H.rw_ (by repeat (first | exact Take.head | apply Take.tail)), H.rw_ (by repeat (first | exact Take.head | apply Take.tail)), H.rd (s := p) (by repeat (first | exact Take.head | apply Take.tail)) int_len⟩ ?_
      (try simp only [Act.put, List.setIfInBounds_toArray, List.set_cons_succ, List.set_cons_zero])
      refine takeH (i := 13) rfl (.there (.there (.there (.there (.there (.there (.there (.there (.there (.there (.there (.there (.there .here))))))))))))) (by kernel_rfl) (by kernel_rfl) (by kernel_rfl) (fun _ _ _ h => absurd h.1 (by simp)) (yields_val (v := (.bool true)) rfl (fun _ => by go_simp)) ⟨H.rw_ (by repeat (first | exact Take.head | apply Take.tail)), H.rw_ (by repeat (first | exact Take.head | apply Take.tail)), H.rd (s := p) (by repeat (first | exact Take.head | apply Take.tail)) int_len⟩ ?_
      (try simp only [Act.put, List.setIfInBounds_toArray, List.set_cons_succ, List.set_cons_zero])
      refine takeH (i := 14) rfl (.there (.there (.there (.there (.there (.there (.there (.there (.there (.there (.there (.there (.there (.there .here)))))))))))))) (by kernel_rfl) (by kernel_rfl) (by kernel_rfl) (fun _ _ _ h => absurd h.1 (by simp)) (yields_val (v := (.bool false)) rfl (fun _ => by go_simp)) ⟨H.rw_ (by repeat (first | exact Take.head | apply Take.tail)), H.rw_ (by repeat (first | exact Take.head | apply Take.tail)), H.rd (s := p) (by repeat (first | exact Take.head | apply Take.tail)) int_len⟩ ?_
      (try simp only [Act.put, List.setIfInBounds_toArray, List.set_cons_succ, List.set_cons_zero])
      refine takeH (i := 15) rfl (.there (.there (.there (.there (.there (.there (.there (.there (.there (.there (.there (.there (.there (.there (.there .here))))))))))))))) (by kernel_rfl) (by kernel_rfl) (by kernel_rfl) (fun _ _ _ h => absurd h.1 (by simp)) (yields_val (v := (.bool true)) rfl (fun _ => by go_simp)) ⟨H.rw_ (by repeat (first | exact Take.head | apply Take.tail)), H.rw_ (by repeat (first | exact Take.head | apply Take.tail)), H.rd (s := p) (by repeat (first | exact Take.head | apply Take.tail)) int_len⟩ ?_
      (try simp only [Act.put, List.setIfInBounds_toArray, List.set_cons_succ, List.set_cons_zero])
      refine takeH (i := 16) rfl (.there (.there (.there (.there (.there (.there (.there (.there (.there (.there (.there (.there (.there (.there (.there (.there .here)))))))))))))))) (by kernel_rfl) (by kernel_rfl) (by kernel_rfl) (fun _ _ _ h => absurd h.1 (by simp)) (yields_val (v := (.bool true)) rfl (fun _ => by go_simp)) ⟨H.rw_ (by repeat (first | exact Take.head | apply Take.tail)), H.rw_ (by repeat (first | exact Take.head | apply Take.tail)), H.rd (s := p) (by repeat (first | exact Take.head | apply Take.tail)) int_len⟩ ?_
      (try simp only [Act.put, List.setIfInBounds_toArray, List.set_cons_succ, List.set_cons_zero])
      refine takeH (i := 17) rfl (.there (.there (.there (.there (.there (.there (.there (.there (.there (.there (.there (.there (.there (.there (.there (.there (.there .here))))))))))))))))) (by kernel_rfl) (by kernel_rfl) (by kernel_rfl) (fun _ _ _ h => absurd h.1 (by simp)) (yields_val (v := (.bool true)) rfl (fun _ => by go_simp)) ⟨H.rw_ (by repeat (first | exact Take.head | apply Take.tail)), H.rw_ (by repeat (first | exact Take.head | apply Take.tail)), H.rd (s := p) (by repeat (first | exact Take.head | apply Take.tail)) int_len⟩ ?_
      (try simp only [Act.put, List.setIfInBounds_toArray, List.set_cons_succ, List.set_cons_zero])
      refine takeH (i := 18) rfl (.there (.there (.there (.there (.there (.there (.there (.there (.there (.there (.there (.there (.there (.there (.there (.there (.there (.there .here)))))))))))))))))) (by kernel_rfl) (by kernel_rfl) (by kernel_rfl) (fun _ _ _ h => absurd h.1 (by simp)) (yields_val (v := (.bool true)) rfl (fun _ => by go_simp)) ⟨H.rw_ (by repeat (first | exact Take.head | apply Take.tail)), H.rw_ (by repeat (first | exact Take.head | apply Take.tail)), H.rd (s := p) (by repeat (first | exact Take.head | apply Take.tail)) int_len⟩ ?_
      (try simp only [Act.put, List.setIfInBounds_toArray, List.set_cons_succ, List.set_cons_zero])
      refine takeH (i := 19) rfl (.there (.there (.there (.there (.there (.there (.there (.there (.there (.there (.there (.there (.there (.there (.there (.there (.there (.there (.there .here))))))))))))))))))) (by kernel_rfl) (by kernel_rfl) (by kernel_rfl) (fun _ _ _ h => absurd h.1 (by simp)) (yields_loads_R rfl rfl rfl (fun _ hS => hS.2.1) (by repeat (first | exact GetsAt.nil | apply GetsAt.here | apply GetsAt.there))) ⟨H.rw_ (by repeat (first | exact Take.head | apply Take.tail)), H.rw_ (by repeat (first | exact Take.head | apply Take.tail)), H.rd (s := p) (by repeat (first | exact Take.head | apply Take.tail)) int_len⟩ ?_
      (try simp only [Act.put, List.setIfInBounds_toArray, List.set_cons_succ, List.set_cons_zero])
      refine takeH (i := 20) rfl (.there (.there (.there (.there (.there (.there (.there (.there (.there (.there (.there (.there (.there (.there (.there (.there (.there (.there (.there (.there .here)))))))))))))))))))) (by kernel_rfl) (by kernel_rfl) (by kernel_rfl) (fun _ _ _ h => absurd h.1 (by simp)) (yields_val (v := (.agg #[.int .i64 0, .int .i64 0, .bool false, .int .i64 0])) rfl (fun _ => by go_simp)) ⟨H.rw_ (by repeat (first | exact Take.head | apply Take.tail)), H.rw_ (by repeat (first | exact Take.head | apply Take.tail)), H.rd (s := p) (by repeat (first | exact Take.head | apply Take.tail)) int_len⟩ ?_
      (try simp only [Act.put, List.setIfInBounds_toArray, List.set_cons_succ, List.set_cons_zero])
      refine takeH (i := 21) rfl (.there (.there (.there (.there (.there (.there (.there (.there (.there (.there (.there (.there (.there (.there (.there (.there (.there (.there (.there (.there (.there .here))))))))))))))))))))) (by kernel_rfl) (by kernel_rfl) (by kernel_rfl) (fun _ _ _ h => absurd h.1 (by simp)) (yields_val (v := (.bool false)) rfl (fun _ => by go_simp)) ⟨H.rw_ (by repeat (first | exact Take.head | apply Take.tail)), H.rw_ (by repeat (first | exact Take.head | apply Take.tail)), H.rd (s := p) (by repeat (first | exact Take.head | apply Take.tail)) int_len⟩ ?_
      (try simp only [Act.put, List.setIfInBounds_toArray, List.set_cons_succ, List.set_cons_zero])
      refine takeH (i := 22) rfl (.there (.there (.there (.there (.there (.there (.there (.there (.there (.there (.there (.there (.there (.there (.there (.there (.there (.there (.there (.there (.there (.there .here)))))))))))))))))))))) (by kernel_rfl) (by kernel_rfl) (by kernel_rfl) (fun _ _ _ h => absurd h.1 (by simp)) (yields_val (v := (.bool false)) rfl (fun _ => by go_simp)) ⟨H.rw_ (by repeat (first | exact Take.head | apply Take.tail)), H.rw_ (by repeat (first | exact Take.head | apply Take.tail)), H.rd (s := p) (by repeat (first | exact Take.head | apply Take.tail)) int_len⟩ ?_
      (try simp only [Act.put, List.setIfInBounds_toArray, List.set_cons_succ, List.set_cons_zero])
      refine takeH (i := 23) rfl (.there (.there (.there (.there (.there (.there (.there (.there (.there (.there (.there (.there (.there (.there (.there (.there (.there (.there (.there (.there (.there (.there (.there .here))))))))))))))))))))))) (by kernel_rfl) (by kernel_rfl) (by kernel_rfl) (fun _ _ _ h => absurd h.1 (by simp)) (yields_val (v := (.bool true)) rfl (fun _ => by go_simp)) ⟨H.rw_ (by repeat (first | exact Take.head | apply Take.tail)), H.rw_ (by repeat (first | exact Take.head | apply Take.tail)), H.rd (s := p) (by repeat (first | exact Take.head | apply Take.tail)) int_len⟩ ?_
      (try simp only [Act.put, List.setIfInBounds_toArray, List.set_cons_succ, List.set_cons_zero])
      refine takeH (i := 24) rfl (.there (.there (.there (.there (.there (.there (.there (.there (.there (.there (.there (.there (.there (.there (.there (.there (.there (.there (.there (.there (.there (.there (.there (.there .here)))))))))))))))))))))))) (by kernel_rfl) (by kernel_rfl) (by kernel_rfl) (fun _ _ _ h => absurd h.1 (by simp)) (yields_val (v := (.bool true)) rfl (fun _ => by go_simp)) ⟨H.rw_ (by repeat (first | exact Take.head | apply Take.tail)), H.rw_ (by repeat (first | exact Take.head | apply Take.tail)), H.rd (s := p) (by repeat (first | exact Take.head | apply Take.tail)) int_len⟩ ?_
      (try simp only [Act.put, List.setIfInBounds_toArray, List.set_cons_succ, List.set_cons_zero])
      refine takeH (i := 25) rfl (.there (.there (.there (.there (.there (.there (.there (.there (.there (.there (.there (.there (.there (.there (.there (.there (.there (.there (.there (.there (.there (.there (.there (.there (.there .here))))))))))))))))))))))))) (by kernel_rfl) (by kernel_rfl) (by kernel_rfl) (fun _ _ _ h => absurd h.1 (by simp)) (yields_val (v := (.bool true)) rfl (fun _ => by go_simp)) ⟨H.rw_ (by repeat (first | exact Take.head | apply Take.tail)), H.rw_ (by repeat (first | exact Take.head | apply Take.tail)), H.rd (s := p) (by repeat (first | exact Take.head | apply Take.tail)) int_len⟩ ?_
      (try simp only [Act.put, List.setIfInBounds_toArray, List.set_cons_succ, List.set_cons_zero])
      refine wpAnyH_done (by kernel_rfl) ?_ _
      exact ⟨rfl, (), Lib.hid trivial, H.pick (.cons (by repeat (first | exact Take.head | apply Take.tail)) .nil), by first | (simp only [puts_cons, puts_nil, Act.put, List.setIfInBounds_toArray, List.set_cons_succ, List.set_cons_zero]; done) | (simp only [puts_cons, puts_nil, Act.put, List.setIfInBounds_toArray, List.set_cons_succ, List.set_cons_zero]; rfl)⟩
    clear H
    rintro u w ⟨_, _, H, rfl⟩
    simp only [puts_cons, puts_nil, Act.put, List.setIfInBounds_toArray, List.set_cons_succ, List.set_cons_zero]
    go_wp2_with (first
      | go_skip
      | ((with_reducible refine at_box ?_); first | (refine wpList_box_H rfl rfl H rfl (by first | exact CellsOf.agg | exact CellsOf.int | exact CellsOf.bool | exact CellsOf.slice | exact CellsOf.string | exact CellsOf.pointer | exact CellsOf.func) ?_; clear H; intro bQ w H))
      | ((with_reducible refine at_alloc ?_); first | (refine wpList_alloc_H rfl rfl H ?_; clear H; intro b w H))
      | ((with_reducible refine at_load ?_); first | (refine wpList_load_H rfl rfl H rfl (by repeat (first | exact LoadAt.here rfl | apply LoadAt.there)) ?_) | (refine wpList_loads_H rfl rfl H rfl (by repeat (first | (apply LoadsAt.here; repeat (first | exact GetsAt.nil | apply GetsAt.here | apply GetsAt.there)) | apply LoadsAt.there)) ?_))
      | ((with_reducible refine at_store ?_); first | (refine wpList_store_H rfl rfl H rfl rfl (by repeat (first | (apply StoreAt.here; (first | exact CellsOf.agg | exact CellsOf.int | exact CellsOf.bool | exact CellsOf.slice | exact CellsOf.string | exact CellsOf.pointer | exact CellsOf.func); (repeat (first | exact SetsAt.nil | apply SetsAt.here | apply SetsAt.there)); exact rfl; exact rfl) | apply StoreAt.there)) ?_; clear H; intro w H)))
    go_ret
    exact ⟨rfl, H.below⟩
  · skip
    have HLN : Hid (decide ((x.outs.xs.length : Int) = 1) = true) := by
      have h : (decide ((tr2 a 2).outs.length = 1) == trO 2) = true := LO.out
      have h2 : decide ((tr2 a 2).outs.length = 1) = true := by rw [beq_iff_eq] at h; rw [h]; rfl
      refine Lib.hid ?_
      rw [hol]
      simp only [decide_eq_true_eq] at h2 ⊢; omega
    clear hol
    go_at_call 20
    refine (exitOf_c x 0 _ (H.brd (b := x) (by repeat (first | exact Take.head | apply Take.tail))) Zx).mono ?_
    rintro e w ⟨he, K⟩
    rw [Hx.out, show (gAtM (tr2 a 2) 0).exit = ⟨0, 0, false, 0⟩ from LX.out] at he
    subst he
    replace H := H.add_all K
    clear K
    have hm1 : p1.tmod 4 = 2 := Et.out
    go_wp2_with (first
      | go_skip
      | ((with_reducible refine at_box ?_); first | (refine wpList_box_H rfl rfl H rfl (by first | exact CellsOf.agg | exact CellsOf.int | exact CellsOf.bool | exact CellsOf.slice | exact CellsOf.string | exact CellsOf.pointer | exact CellsOf.func) ?_; clear H; intro bQ w H))
      | ((with_reducible refine at_alloc ?_); first | (refine wpList_alloc_H rfl rfl H ?_; clear H; intro bE w H))
      | ((with_reducible refine at_load ?_); first | (refine wpList_load_rd rfl rfl p (H.rd (s := p) (by repeat (first | exact Take.head | apply Take.tail)) int_len) rfl p1 HP1.out rfl ?_) | (refine wpList_load_H rfl rfl H rfl (by repeat (first | exact LoadAt.here rfl | apply LoadAt.there)) ?_) | (refine wpList_loads_H rfl rfl H rfl (by repeat (first | (apply LoadsAt.here; repeat (first | exact GetsAt.nil | apply GetsAt.here | apply GetsAt.there)) | apply LoadsAt.there)) ?_))
      | ((with_reducible refine at_store ?_); first | (refine wpList_store_H rfl rfl H rfl rfl (by repeat (first | (apply StoreAt.here; (first | exact CellsOf.agg | exact CellsOf.int | exact CellsOf.bool | exact CellsOf.slice | exact CellsOf.string | exact CellsOf.pointer | exact CellsOf.func); (repeat (first | exact SetsAt.nil | apply SetsAt.here | apply SetsAt.there)); exact rfl; exact rfl) | apply StoreAt.there)) ?_; clear H; intro w H))
      | ((with_reducible refine at_index ?_); first | (refine wpList_index_n rfl rfl (k := 1) p (H.rd (s := p) (by repeat (first | exact Take.head | apply Take.tail)) int_len) rfl rfl rfl hp1 ?_)))
    clear hm1
    refine wp_cut (fun u a' w' => ∃ (_ : Unit), Hid True ∧ Hp W0 w' [.int p] ∧ a' = puts u [(50, .pointer (some ⟨bX, 2, none⟩)), (51, (.slice x.outs.A x.outs.xs.length x.outs.c)), (52, (.int .i64 (x.outs.xs.length : Int))), (53, (.bool true)), (54, (.bool true)), (55, (.bool true)), (56, (.bool true)), (57, (.agg #[.int .i64 0, .int .i64 0, .bool false, .int .i64 0])), (58, (.slice p.A p.xs.length p.c)), (59, (.pointer (some ⟨ablk p.A, aoff p.A + 0 * 1, none⟩))), (60, (.int .i64 p0)), (61, (.int .i64 a)), (62, (.agg #[.int .i64 3, .int .i64 0, .bool false, .int .i64 a])), (63, (.bool false)), (64, (.bool true)), (65, (.bool false)), (66, (.bool true)), (67, (.bool true)), (68, (.bool true)), (69, (.agg #[.int .i64 0, .int .i64 0, .bool false, .int .i64 0])), (70, (.agg #[.int .i64 0, .int .i64 0, .bool false, .int .i64 0])), (71, (.bool true)), (72, (.bool true)), (73, (.bool true)), (74, (.bool true)), (2, (.bool true))]) ?_ ?_
    · refine wp_region_held (S := (fun w' => Rw w' bX 31 (barr x) ∧ (Rw w' bE 46 #[.int .i64 0, .int .i64 0, .bool false, .int .i64 0] ∧ Rd icell 1 w' p))) (by kernel_rfl) ?_
      replace H := H.drew
      refine takeH (i := 0) rfl .here (by kernel_rfl) (by kernel_rfl) (by kernel_rfl) (fun _ _ _ h => absurd h.1 (by simp)) (yields_val (v := .pointer (some ⟨bX, 2, none⟩)) rfl (fun _ => by go_simp)) ⟨H.rw_ (by repeat (first | exact Take.head | apply Take.tail)), H.rw_ (by repeat (first | exact Take.head | apply Take.tail)), H.rd (s := p) (by repeat (first | exact Take.head | apply Take.tail)) int_len⟩ ?_
      (try simp only [Act.put, List.setIfInBounds_toArray, List.set_cons_succ, List.set_cons_zero])
      refine takeH (i := 1) rfl (.there .here) (by kernel_rfl) (by kernel_rfl) (by kernel_rfl) (fun _ _ _ h => absurd h.1 (by simp)) (yields_load1_R rfl rfl rfl (fun _ hS => hS.1) rfl) ⟨H.rw_ (by repeat (first | exact Take.head | apply Take.tail)), H.rw_ (by repeat (first | exact Take.head | apply Take.tail)), H.rd (s := p) (by repeat (first | exact Take.head | apply Take.tail)) int_len⟩ ?_
      (try simp only [Act.put, List.setIfInBounds_toArray, List.set_cons_succ, List.set_cons_zero])
      refine takeH (i := 2) rfl (.there (.there .here)) (by kernel_rfl) (by kernel_rfl) (by kernel_rfl) (fun _ _ _ h => absurd h.1 (by simp)) (yields_val (v := (.int .i64 (x.outs.xs.length : Int))) rfl (fun _ => by go_simp)) ⟨H.rw_ (by repeat (first | exact Take.head | apply Take.tail)), H.rw_ (by repeat (first | exact Take.head | apply Take.tail)), H.rd (s := p) (by repeat (first | exact Take.head | apply Take.tail)) int_len⟩ ?_
      (try simp only [Act.put, List.setIfInBounds_toArray, List.set_cons_succ, List.set_cons_zero])
      refine takeH (i := 3) rfl (.there (.there (.there .here))) (by kernel_rfl) (by kernel_rfl) (by kernel_rfl) (fun _ _ _ h => absurd h.1 (by simp)) (yields_val (v := (.bool true)) rfl (fun _ => by (first | (go_simp; done) | (go_simp; rw [HLN.out]) | (rw [← HLN.out]; go_simp; done) | (go_simp; omega) | (go_simp; simpa using HLN.out)))) ⟨H.rw_ (by repeat (first | exact Take.head | apply Take.tail)), H.rw_ (by repeat (first | exact Take.head | apply Take.tail)), H.rd (s := p) (by repeat (first | exact Take.head | apply Take.tail)) int_len⟩ ?_
      (try simp only [Act.put, List.setIfInBounds_toArray, List.set_cons_succ, List.set_cons_zero])
      refine takeH (i := 4) rfl (.there (.there (.there (.there .here)))) (by kernel_rfl) (by kernel_rfl) (by kernel_rfl) (fun _ _ _ h => absurd h.1 (by simp)) (yields_val (v := (.bool true)) rfl (fun _ => by go_simp)) ⟨H.rw_ (by repeat (first | exact Take.head | apply Take.tail)), H.rw_ (by repeat (first | exact Take.head | apply Take.tail)), H.rd (s := p) (by repeat (first | exact Take.head | apply Take.tail)) int_len⟩ ?_
      (try simp only [Act.put, List.setIfInBounds_toArray, List.set_cons_succ, List.set_cons_zero])
      refine takeH (i := 5) rfl (.there (.there (.there (.there (.there .here))))) (by kernel_rfl) (by kernel_rfl) (by kernel_rfl) (fun _ _ _ h => absurd h.1 (by simp)) (yields_val (v := (.bool true)) rfl (fun _ => by go_simp)) ⟨H.rw_ (by repeat (first | exact Take.head | apply Take.tail)), H.rw_ (by repeat (first | exact Take.head | apply Take.tail)), H.rd (s := p) (by repeat (first | exact Take.head | apply Take.tail)) int_len⟩ ?_
      (try simp only [Act.put, List.setIfInBounds_toArray, List.set_cons_succ, List.set_cons_zero])
      refine takeH (i := 6) rfl (.there (.there (.there (.there (.there (.there .here)))))) (by kernel_rfl) (by kernel_rfl) (by kernel_rfl) (fun _ _ _ h => absurd h.1 (by simp)) (yields_val (v := (.bool true)) rfl (fun _ => by go_simp)) ⟨H.rw_ (by repeat (first | exact Take.head | apply Take.tail)), H.rw_ (by repeat (first | exact Take.head | apply Take.tail)), H.rd (s := p) (by repeat (first | exact Take.head | apply Take.tail)) int_len⟩ ?_
      (try simp only [Act.put, List.setIfInBounds_toArray, List.set_cons_succ, List.set_cons_zero])
      refine takeH (i := 7) rfl (.there (.there (.there (.there (.there (.there (.there .here))))))) (by kernel_rfl) (by kernel_rfl) (by kernel_rfl) (fun _ _ _ h => absurd h.1 (by simp)) (yields_loads_R rfl rfl rfl (fun _ hS => hS.2.1) (by repeat (first | exact GetsAt.nil | apply GetsAt.here | apply GetsAt.there))) ⟨H.rw_ (by repeat (first | exact Take.head | apply Take.tail)), H.rw_ (by repeat (first | exact Take.head | apply Take.tail)), H.rd (s := p) (by repeat (first | exact Take.head | apply Take.tail)) int_len⟩ ?_
      (try simp only [Act.put, List.setIfInBounds_toArray, List.set_cons_succ, List.set_cons_zero])
      refine takeH (i := 8) rfl (.there (.there (.there (.there (.there (.there (.there (.there .here)))))))) (by kernel_rfl) (by kernel_rfl) (by kernel_rfl) (fun _ _ _ h => absurd h.1 (by simp)) (yields_val (v := (.slice p.A p.xs.length p.c)) rfl (fun _ => by go_simp)) ⟨H.rw_ (by repeat (first | exact Take.head | apply Take.tail)), H.rw_ (by repeat (first | exact Take.head | apply Take.tail)), H.rd (s := p) (by repeat (first | exact Take.head | apply Take.tail)) int_len⟩ ?_
      (try simp only [Act.put, List.setIfInBounds_toArray, List.set_cons_succ, List.set_cons_zero])
      refine takeH (i := 9) rfl (.there (.there (.there (.there (.there (.there (.there (.there (.there .here))))))))) (by kernel_rfl) (by kernel_rfl) (by kernel_rfl) (fun _ _ _ h => absurd h.1 (by simp)) (yields_index_n rfl rfl (k := 0) p (fun _ hS => hS.2.2) rfl rfl rfl hp0) ⟨H.rw_ (by repeat (first | exact Take.head | apply Take.tail)), H.rw_ (by repeat (first | exact Take.head | apply Take.tail)), H.rd (s := p) (by repeat (first | exact Take.head | apply Take.tail)) int_len⟩ ?_
      (try simp only [Act.put, List.setIfInBounds_toArray, List.set_cons_succ, List.set_cons_zero])
      refine takeH (i := 10) rfl (.there (.there (.there (.there (.there (.there (.there (.there (.there (.there .here)))))))))) (by kernel_rfl) (by kernel_rfl) (by kernel_rfl) (fun _ _ _ h => absurd h.1 (by simp)) (yields_load_rd rfl rfl p (fun _ hS => hS.2.2) rfl p0 HP0.out (by first | exact rfl | exact (Nat.add_zero _).symm) rfl) ⟨H.rw_ (by repeat (first | exact Take.head | apply Take.tail)), H.rw_ (by repeat (first | exact Take.head | apply Take.tail)), H.rd (s := p) (by repeat (first | exact Take.head | apply Take.tail)) int_len⟩ ?_
      (try simp only [Act.put, List.setIfInBounds_toArray, List.set_cons_succ, List.set_cons_zero])
      refine takeH (i := 11) rfl (.there (.there (.there (.there (.there (.there (.there (.there (.there (.there (.there .here))))))))))) (by kernel_rfl) (by kernel_rfl) (by kernel_rfl) (fun _ _ _ h => absurd h.1 (by simp)) (yields_val (v := (.int .i64 a)) rfl (fun _ => by (first | (go_simp; done) | (go_simp; rw [Ea.out]) | (rw [← Ea.out]; go_simp; done) | (go_simp; omega) | (go_simp; simpa using Ea.out)))) ⟨H.rw_ (by repeat (first | exact Take.head | apply Take.tail)), H.rw_ (by repeat (first | exact Take.head | apply Take.tail)), H.rd (s := p) (by repeat (first | exact Take.head | apply Take.tail)) int_len⟩ ?_
      (try simp only [Act.put, List.setIfInBounds_toArray, List.set_cons_succ, List.set_cons_zero])
      refine takeH (i := 12) rfl (.there (.there (.there (.there (.there (.there (.there (.there (.there (.there (.there (.there .here)))))))))))) (by kernel_rfl) (by kernel_rfl) (by kernel_rfl) (fun _ _ _ h => absurd h.1 (by simp)) (yields_val (v := (.agg #[.int .i64 3, .int .i64 0, .bool false, .int .i64 a])) rfl (fun _ => by go_simp)) ⟨H.rw_ (by repeat (first | exact Take.head | apply Take.tail)), H.rw_ (by repeat (first | exact Take.head | apply Take.tail)), H.rd (s := p) (by repeat (first | exact Take.head | apply Take.tail)) int_len⟩ ?_
      (try simp only [Act.put, List.setIfInBounds_toArray, List.set_cons_succ, List.set_cons_zero])
      refine takeH (i := 13) rfl (.there (.there (.there (.there (.there (.there (.there (.there (.there (.there (.there (.there (.there .here))))))))))))) (by kernel_rfl) (by kernel_rfl) (by kernel_rfl) (fun _ _ _ h => absurd h.1 (by simp)) (yields_val (v := (.bool false)) rfl (fun _ => by go_simp)) ⟨H.rw_ (by repeat (first | exact Take.head | apply Take.tail)), H.rw_ (by repeat (first | exact Take.head | apply Take.tail)), H.rd (s := p) (by repeat (first | exact Take.head | apply Take.tail)) int_len⟩ ?_
      (try simp only [Act.put, List.setIfInBounds_toArray, List.set_cons_succ, List.set_cons_zero])
      refine takeH (i := 14) rfl (.there (.there (.there (.there (.there (.there (.there (.there (.there (.there (.there (.there (.there (.there .here)))))))))))))) (by kernel_rfl) (by kernel_rfl) (by kernel_rfl) (fun _ _ _ h => absurd h.1 (by simp)) (yields_val (v := (.bool true)) rfl (fun _ => by go_simp)) ⟨H.rw_ (by repeat (first | exact Take.head | apply Take.tail)), H.rw_ (by repeat (first | exact Take.head | apply Take.tail)), H.rd (s := p) (by repeat (first | exact Take.head | apply Take.tail)) int_len⟩ ?_
      (try simp only [Act.put, List.setIfInBounds_toArray, List.set_cons_succ, List.set_cons_zero])
      refine takeH (i := 15) rfl (.there (.there (.there (.there (.there (.there (.there (.there (.there (.there (.there (.there (.there (.there (.there .here))))))))))))))) (by kernel_rfl) (by kernel_rfl) (by kernel_rfl) (fun _ _ _ h => absurd h.1 (by simp)) (yields_val (v := (.bool false)) rfl (fun _ => by go_simp)) ⟨H.rw_ (by repeat (first | exact Take.head | apply Take.tail)), H.rw_ (by repeat (first | exact Take.head | apply Take.tail)), H.rd (s := p) (by repeat (first | exact Take.head | apply Take.tail)) int_len⟩ ?_
      (try simp only [Act.put, List.setIfInBounds_toArray, List.set_cons_succ, List.set_cons_zero])
      refine takeH (i := 16) rfl (.there (.there (.there (.there (.there (.there (.there (.there (.there (.there (.there (.there (.there (.there (.there (.there .here)))))))))))))))) (by kernel_rfl) (by kernel_rfl) (by kernel_rfl) (fun _ _ _ h => absurd h.1 (by simp)) (yields_val (v := (.bool true)) rfl (fun _ => by go_simp)) ⟨H.rw_ (by repeat (first | exact Take.head | apply Take.tail)), H.rw_ (by repeat (first | exact Take.head | apply Take.tail)), H.rd (s := p) (by repeat (first | exact Take.head | apply Take.tail)) int_len⟩ ?_
      (try simp only [Act.put, List.setIfInBounds_toArray, List.set_cons_succ, List.set_cons_zero])
      refine takeH (i := 17) rfl (.there (.there (.there (.there (.there (.there (.there (.there (.there (.there (.there (.there (.there (.there (.there (.there (.there .here))))))))))))))))) (by kernel_rfl) (by kernel_rfl) (by kernel_rfl) (fun _ _ _ h => absurd h.1 (by simp)) (yields_val (v := (.bool true)) rfl (fun _ => by go_simp)) ⟨H.rw_ (by repeat (first | exact Take.head | apply Take.tail)), H.rw_ (by repeat (first | exact Take.head | apply Take.tail)), H.rd (s := p) (by repeat (first | exact Take.head | apply Take.tail)) int_len⟩ ?_
      (try simp only [Act.put, List.setIfInBounds_toArray, List.set_cons_succ, List.set_cons_zero])
      refine takeH (i := 18) rfl (.there (.there (.there (.there (.there (.there (.there (.there (.there (.there (.there (.there (.there (.there (.there (.there (.there (.there .here)))))))))))))))))) (by kernel_rfl) (by kernel_rfl) (by kernel_rfl) (fun _ _ _ h => absurd h.1 (by simp)) (yields_val (v := (.bool true)) rfl (fun _ => by go_simp)) ⟨H.rw_ (by repeat (first | exact Take.head | apply Take.tail)), H.rw_ (by repeat (first | exact Take.head | apply Take.tail)), H.rd (s := p) (by repeat (first | exact Take.head | apply Take.tail)) int_len⟩ ?_
      (try simp only [Act.put, List.setIfInBounds_toArray, List.set_cons_succ, List.set_cons_zero])
      refine takeH (i := 19) rfl (.there (.there (.there (.there (.there (.there (.there (.there (.there (.there (.there (.there (.there (.there (.there (.there (.there (.there (.there .here))))))))))))))))))) (by kernel_rfl) (by kernel_rfl) (by kernel_rfl) (fun _ _ _ h => absurd h.1 (by simp)) (yields_loads_R rfl rfl rfl (fun _ hS => hS.2.1) (by repeat (first | exact GetsAt.nil | apply GetsAt.here | apply GetsAt.there))) ⟨H.rw_ (by repeat (first | exact Take.head | apply Take.tail)), H.rw_ (by repeat (first | exact Take.head | apply Take.tail)), H.rd (s := p) (by repeat (first | exact Take.head | apply Take.tail)) int_len⟩ ?_
      (try simp only [Act.put, List.setIfInBounds_toArray, List.set_cons_succ, List.set_cons_zero])
      refine takeH (i := 20) rfl (.there (.there (.there (.there (.there (.there (.there (.there (.there (.there (.there (.there (.there (.there (.there (.there (.there (.there (.there (.there .here)))))))))))))))))))) (by kernel_rfl) (by kernel_rfl) (by kernel_rfl) (fun _ _ _ h => absurd h.1 (by simp)) (yields_val (v := (.agg #[.int .i64 0, .int .i64 0, .bool false, .int .i64 0])) rfl (fun _ => by go_simp)) ⟨H.rw_ (by repeat (first | exact Take.head | apply Take.tail)), H.rw_ (by repeat (first | exact Take.head | apply Take.tail)), H.rd (s := p) (by repeat (first | exact Take.head | apply Take.tail)) int_len⟩ ?_
      (try simp only [Act.put, List.setIfInBounds_toArray, List.set_cons_succ, List.set_cons_zero])
      refine takeH (i := 21) rfl (.there (.there (.there (.there (.there (.there (.there (.there (.there (.there (.there (.there (.there (.there (.there (.there (.there (.there (.there (.there (.there .here))))))))))))))))))))) (by kernel_rfl) (by kernel_rfl) (by kernel_rfl) (fun _ _ _ h => absurd h.1 (by simp)) (yields_val (v := (.bool true)) rfl (fun _ => by go_simp)) ⟨H.rw_ (by repeat (first | exact Take.head | apply Take.tail)), H.rw_ (by repeat (first | exact Take.head | apply Take.tail)), H.rd (s := p) (by repeat (first | exact Take.head | apply Take.tail)) int_len⟩ ?_
      (try simp only [Act.put, List.setIfInBounds_toArray, List.set_cons_succ, List.set_cons_zero])
      refine takeH (i := 22) rfl (.there (.there (.there (.there (.there (.there (.there (.there (.there (.there (.there (.there (.there (.there (.there (.there (.there (.there (.there (.there (.there (.there .here)))))))))))))))))))))) (by kernel_rfl) (by kernel_rfl) (by kernel_rfl) (fun _ _ _ h => absurd h.1 (by simp)) (yields_val (v := (.bool true)) rfl (fun _ => by go_simp)) ⟨H.rw_ (by repeat (first | exact Take.head | apply Take.tail)), H.rw_ (by repeat (first | exact Take.head | apply Take.tail)), H.rd (s := p) (by repeat (first | exact Take.head | apply Take.tail)) int_len⟩ ?_
      (try simp only [Act.put, List.setIfInBounds_toArray, List.set_cons_succ, List.set_cons_zero])
      refine takeH (i := 23) rfl (.there (.there (.there (.there (.there (.there (.there (.there (.there (.there (.there (.there (.there (.there (.there (.there (.there (.there (.there (.there (.there (.there (.there .here))))))))))))))))))))))) (by kernel_rfl) (by kernel_rfl) (by kernel_rfl) (fun _ _ _ h => absurd h.1 (by simp)) (yields_val (v := (.bool true)) rfl (fun _ => by go_simp)) ⟨H.rw_ (by repeat (first | exact Take.head | apply Take.tail)), H.rw_ (by repeat (first | exact Take.head | apply Take.tail)), H.rd (s := p) (by repeat (first | exact Take.head | apply Take.tail)) int_len⟩ ?_
      (try simp only [Act.put, List.setIfInBounds_toArray, List.set_cons_succ, List.set_cons_zero])
      refine takeH (i := 24) rfl (.there (.there (.there (.there (.there (.there (.there (.there (.there (.there (.there (.there (.there (.there (.there (.there (.there (.there (.there (.there (.there (.there (.there (.there .here)))))))))))))))))))))))) (by kernel_rfl) (by kernel_rfl) (by kernel_rfl) (fun _ _ _ h => absurd h.1 (by simp)) (yields_val (v := (.bool true)) rfl (fun _ => by go_simp)) ⟨H.rw_ (by repeat (first | exact Take.head | apply Take.tail)), H.rw_ (by repeat (first | exact Take.head | apply Take.tail)), H.rd (s := p) (by repeat (first | exact Take.head | apply Take.tail)) int_len⟩ ?_
      (try simp only [Act.put, List.setIfInBounds_toArray, List.set_cons_succ, List.set_cons_zero])
      refine takeH (i := 25) rfl (.there (.there (.there (.there (.there (.there (.there (.there (.there (.there (.there (.there (.there (.there (.there (.there (.there (.there (.there (.there (.there (.there (.there (.there (.there .here))))))))))))))))))))))))) (by kernel_rfl) (by kernel_rfl) (by kernel_rfl) (fun _ _ _ h => absurd h.1 (by simp)) (yields_val (v := (.bool true)) rfl (fun _ => by go_simp)) ⟨H.rw_ (by repeat (first | exact Take.head | apply Take.tail)), H.rw_ (by repeat (first | exact Take.head | apply Take.tail)), H.rd (s := p) (by repeat (first | exact Take.head | apply Take.tail)) int_len⟩ ?_
      (try simp only [Act.put, List.setIfInBounds_toArray, List.set_cons_succ, List.set_cons_zero])
      refine wpAnyH_done (by kernel_rfl) ?_ _
      exact ⟨rfl, (), Lib.hid trivial, H.pick (.cons (by repeat (first | exact Take.head | apply Take.tail)) .nil), by first | (simp only [puts_cons, puts_nil, Act.put, List.setIfInBounds_toArray, List.set_cons_succ, List.set_cons_zero]; done) | (simp only [puts_cons, puts_nil, Act.put, List.setIfInBounds_toArray, List.set_cons_succ, List.set_cons_zero]; rfl)⟩
    clear H
    rintro u w ⟨_, _, H, rfl⟩
    simp only [puts_cons, puts_nil, Act.put, List.setIfInBounds_toArray, List.set_cons_succ, List.set_cons_zero]
    go_wp2_with (first
      | go_skip
      | ((with_reducible refine at_box ?_); first | (refine wpList_box_H rfl rfl H rfl (by first | exact CellsOf.agg | exact CellsOf.int | exact CellsOf.bool | exact CellsOf.slice | exact CellsOf.string | exact CellsOf.pointer | exact CellsOf.func) ?_; clear H; intro bQ w H))
      | ((with_reducible refine at_alloc ?_); first | (refine wpList_alloc_H rfl rfl H ?_; clear H; intro b w H))
      | ((with_reducible refine at_load ?_); first | (refine wpList_load_H rfl rfl H rfl (by repeat (first | exact LoadAt.here rfl | apply LoadAt.there)) ?_) | (refine wpList_loads_H rfl rfl H rfl (by repeat (first | (apply LoadsAt.here; repeat (first | exact GetsAt.nil | apply GetsAt.here | apply GetsAt.there)) | apply LoadsAt.there)) ?_))
      | ((with_reducible refine at_store ?_); first | (refine wpList_store_H rfl rfl H rfl rfl (by repeat (first | (apply StoreAt.here; (first | exact CellsOf.agg | exact CellsOf.int | exact CellsOf.bool | exact CellsOf.slice | exact CellsOf.string | exact CellsOf.pointer | exact CellsOf.func); (repeat (first | exact SetsAt.nil | apply SetsAt.here | apply SetsAt.there)); exact rfl; exact rfl) | apply StoreAt.there)) ?_; clear H; intro w H)))
    go_ret
    exact ⟨rfl, H.below⟩
  · skip
    have HLN : Hid (decide ((x.outs.xs.length : Int) = 1) = false) := by
      have h : (decide ((tr2 a 3).outs.length = 1) == trO 3) = true := LO.out
      have h2 : decide ((tr2 a 3).outs.length = 1) = false := by rw [beq_iff_eq] at h; rw [h]; rfl
      refine Lib.hid ?_
      rw [hol]
      simp only [decide_eq_false_iff_not] at h2 ⊢; omega
    clear hol
    go_at_call 20
    refine (exitOf_c x 0 _ (H.brd (b := x) (by repeat (first | exact Take.head | apply Take.tail))) Zx).mono ?_
    rintro e w ⟨he, K⟩
    rw [Hx.out, show (gAtM (tr2 a 3) 0).exit = ⟨3, 0, false, a⟩ from LX.out] at he
    subst he
    replace H := H.add_all K
    clear K
    have hm1 : p1.tmod 4 = 3 := Et.out
    go_wp2_with (first
      | go_skip
      | ((with_reducible refine at_box ?_); first | (refine wpList_box_H rfl rfl H rfl (by first | exact CellsOf.agg | exact CellsOf.int | exact CellsOf.bool | exact CellsOf.slice | exact CellsOf.string | exact CellsOf.pointer | exact CellsOf.func) ?_; clear H; intro bQ w H))
      | ((with_reducible refine at_alloc ?_); first | (refine wpList_alloc_H rfl rfl H ?_; clear H; intro bE w H))
      | ((with_reducible refine at_load ?_); first | (refine wpList_load_rd rfl rfl p (H.rd (s := p) (by repeat (first | exact Take.head | apply Take.tail)) int_len) rfl p1 HP1.out rfl ?_) | (refine wpList_load_H rfl rfl H rfl (by repeat (first | exact LoadAt.here rfl | apply LoadAt.there)) ?_) | (refine wpList_loads_H rfl rfl H rfl (by repeat (first | (apply LoadsAt.here; repeat (first | exact GetsAt.nil | apply GetsAt.here | apply GetsAt.there)) | apply LoadsAt.there)) ?_))
      | ((with_reducible refine at_store ?_); first | (refine wpList_store_H rfl rfl H rfl rfl (by repeat (first | (apply StoreAt.here; (first | exact CellsOf.agg | exact CellsOf.int | exact CellsOf.bool | exact CellsOf.slice | exact CellsOf.string | exact CellsOf.pointer | exact CellsOf.func); (repeat (first | exact SetsAt.nil | apply SetsAt.here | apply SetsAt.there)); exact rfl; exact rfl) | apply StoreAt.there)) ?_; clear H; intro w H))
      | ((with_reducible refine at_index ?_); first | (refine wpList_index_n rfl rfl (k := 1) p (H.rd (s := p) (by repeat (first | exact Take.head | apply Take.tail)) int_len) rfl rfl rfl hp1 ?_)))
    clear hm1
    refine wp_cut (fun u a' w' => ∃ (_ : Unit), Hid True ∧ Hp W0 w' [.int p] ∧ a' = puts u [(50, .pointer (some ⟨bX, 2, none⟩)), (51, (.slice x.outs.A x.outs.xs.length x.outs.c)), (52, (.int .i64 (x.outs.xs.length : Int))), (53, (.bool false)), (54, (.bool false)), (55, (.bool true)), (56, (.bool true)), (57, (.agg #[.int .i64 3, .int .i64 0, .bool false, .int .i64 a])), (58, (.slice p.A p.xs.length p.c)), (59, (.pointer (some ⟨ablk p.A, aoff p.A + 0 * 1, none⟩))), (60, (.int .i64 p0)), (61, (.int .i64 a)), (62, (.agg #[.int .i64 3, .int .i64 0, .bool false, .int .i64 a])), (63, (.bool true)), (64, (.bool false)), (65, (.bool true)), (66, (.bool true)), (67, (.bool true)), (68, (.bool true)), (69, (.agg #[.int .i64 3, .int .i64 0, .bool false, .int .i64 a])), (70, (.agg #[.int .i64 0, .int .i64 0, .bool false, .int .i64 0])), (71, (.bool false)), (72, (.bool false)), (73, (.bool true)), (74, (.bool true)), (2, (.bool true))]) ?_ ?_
    · refine wp_region_held (S := (fun w' => Rw w' bX 31 (barr x) ∧ (Rw w' bE 46 #[.int .i64 3, .int .i64 0, .bool false, .int .i64 a] ∧ Rd icell 1 w' p))) (by kernel_rfl) ?_
      replace H := H.drew
      refine takeH (i := 0) rfl .here (by kernel_rfl) (by kernel_rfl) (by kernel_rfl) (fun _ _ _ h => absurd h.1 (by simp)) (yields_val (v := .pointer (some ⟨bX, 2, none⟩)) rfl (fun _ => by go_simp)) ⟨H.rw_ (by repeat (first | exact Take.head | apply Take.tail)), H.rw_ (by repeat (first | exact Take.head | apply Take.tail)), H.rd (s := p) (by repeat (first | exact Take.head | apply Take.tail)) int_len⟩ ?_
      (try simp only [Act.put, List.setIfInBounds_toArray, List.set_cons_succ, List.set_cons_zero])
      refine takeH (i := 1) rfl (.there .here) (by kernel_rfl) (by kernel_rfl) (by kernel_rfl) (fun _ _ _ h => absurd h.1 (by simp)) (yields_load1_R rfl rfl rfl (fun _ hS => hS.1) rfl) ⟨H.rw_ (by repeat (first | exact Take.head | apply Take.tail)), H.rw_ (by repeat (first | exact Take.head | apply Take.tail)), H.rd (s := p) (by repeat (first | exact Take.head | apply Take.tail)) int_len⟩ ?_
      (try simp only [Act.put, List.setIfInBounds_toArray, List.set_cons_succ, List.set_cons_zero])
      refine takeH (i := 2) rfl (.there (.there .here)) (by kernel_rfl) (by kernel_rfl) (by kernel_rfl) (fun _ _ _ h => absurd h.1 (by simp)) (yields_val (v := (.int .i64 (x.outs.xs.length : Int))) rfl (fun _ => by go_simp)) ⟨H.rw_ (by repeat (first | exact Take.head | apply Take.tail)), H.rw_ (by repeat (first | exact Take.head | apply Take.tail)), H.rd (s := p) (by repeat (first | exact Take.head | apply Take.tail)) int_len⟩ ?_
      (try simp only [Act.put, List.setIfInBounds_toArray, List.set_cons_succ, List.set_cons_zero])
      refine takeH (i := 3) rfl (.there (.there (.there .here))) (by kernel_rfl) (by kernel_rfl) (by kernel_rfl) (fun _ _ _ h => absurd h.1 (by simp)) (yields_val (v := (.bool false)) rfl (fun _ => by (first | (go_simp; done) | (go_simp; rw [HLN.out]) | (rw [← HLN.out]; go_simp; done) | (go_simp; omega) | (go_simp; simpa using HLN.out)))) ⟨H.rw_ (by repeat (first | exact Take.head | apply Take.tail)), H.rw_ (by repeat (first | exact Take.head | apply Take.tail)), H.rd (s := p) (by repeat (first | exact Take.head | apply Take.tail)) int_len⟩ ?_
      (try simp only [Act.put, List.setIfInBounds_toArray, List.set_cons_succ, List.set_cons_zero])
      refine takeH (i := 4) rfl (.there (.there (.there (.there .here)))) (by kernel_rfl) (by kernel_rfl) (by kernel_rfl) (fun _ _ _ h => absurd h.1 (by simp)) (yields_val (v := (.bool false)) rfl (fun _ => by go_simp)) ⟨H.rw_ (by repeat (first | exact Take.head | apply Take.tail)), H.rw_ (by repeat (first | exact Take.head | apply Take.tail)), H.rd (s := p) (by repeat (first | exact Take.head | apply Take.tail)) int_len⟩ ?_
      (try simp only [Act.put, List.setIfInBounds_toArray, List.set_cons_succ, List.set_cons_zero])
      refine takeH (i := 5) rfl (.there (.there (.there (.there (.there .here))))) (by kernel_rfl) (by kernel_rfl) (by kernel_rfl) (fun _ _ _ h => absurd h.1 (by simp)) (yields_val (v := (.bool true)) rfl (fun _ => by go_simp)) ⟨H.rw_ (by repeat (first | exact Take.head | apply Take.tail)), H.rw_ (by repeat (first | exact Take.head | apply Take.tail)), H.rd (s := p) (by repeat (first | exact Take.head | apply Take.tail)) int_len⟩ ?_
      (try simp only [Act.put, List.setIfInBounds_toArray, List.set_cons_succ, List.set_cons_zero])
      refine takeH (i := 6) rfl (.there (.there (.there (.there (.there (.there .here)))))) (by kernel_rfl) (by kernel_rfl) (by kernel_rfl) (fun _ _ _ h => absurd h.1 (by simp)) (yields_val (v := (.bool true)) rfl (fun _ => by go_simp)) ⟨H.rw_ (by repeat (first | exact Take.head | apply Take.tail)), H.rw_ (by repeat (first | exact Take.head | apply Take.tail)), H.rd (s := p) (by repeat (first | exact Take.head | apply Take.tail)) int_len⟩ ?_
      (try simp only [Act.put, List.setIfInBounds_toArray, List.set_cons_succ, List.set_cons_zero])
      refine takeH (i := 7) rfl (.there (.there (.there (.there (.there (.there (.there .here))))))) (by kernel_rfl) (by kernel_rfl) (by kernel_rfl) (fun _ _ _ h => absurd h.1 (by simp)) (yields_loads_R rfl rfl rfl (fun _ hS => hS.2.1) (by repeat (first | exact GetsAt.nil | apply GetsAt.here | apply GetsAt.there))) ⟨H.rw_ (by repeat (first | exact Take.head | apply Take.tail)), H.rw_ (by repeat (first | exact Take.head | apply Take.tail)), H.rd (s := p) (by repeat (first | exact Take.head | apply Take.tail)) int_len⟩ ?_
      (try simp only [Act.put, List.setIfInBounds_toArray, List.set_cons_succ, List.set_cons_zero])
      refine takeH (i := 8) rfl (.there (.there (.there (.there (.there (.there (.there (.there .here)))))))) (by kernel_rfl) (by kernel_rfl) (by kernel_rfl) (fun _ _ _ h => absurd h.1 (by simp)) (yields_val (v := (.slice p.A p.xs.length p.c)) rfl (fun _ => by go_simp)) ⟨H.rw_ (by repeat (first | exact Take.head | apply Take.tail)), H.rw_ (by repeat (first | exact Take.head | apply Take.tail)), H.rd (s := p) (by repeat (first | exact Take.head | apply Take.tail)) int_len⟩ ?_
      (try simp only [Act.put, List.setIfInBounds_toArray, List.set_cons_succ, List.set_cons_zero])
      refine takeH (i := 9) rfl (.there (.there (.there (.there (.there (.there (.there (.there (.there .here))))))))) (by kernel_rfl) (by kernel_rfl) (by kernel_rfl) (fun _ _ _ h => absurd h.1 (by simp)) (yields_index_n rfl rfl (k := 0) p (fun _ hS => hS.2.2) rfl rfl rfl hp0) ⟨H.rw_ (by repeat (first | exact Take.head | apply Take.tail)), H.rw_ (by repeat (first | exact Take.head | apply Take.tail)), H.rd (s := p) (by repeat (first | exact Take.head | apply Take.tail)) int_len⟩ ?_
      (try simp only [Act.put, List.setIfInBounds_toArray, List.set_cons_succ, List.set_cons_zero])
      refine takeH (i := 10) rfl (.there (.there (.there (.there (.there (.there (.there (.there (.there (.there .here)))))))))) (by kernel_rfl) (by kernel_rfl) (by kernel_rfl) (fun _ _ _ h => absurd h.1 (by simp)) (yields_load_rd rfl rfl p (fun _ hS => hS.2.2) rfl p0 HP0.out (by first | exact rfl | exact (Nat.add_zero _).symm) rfl) ⟨H.rw_ (by repeat (first | exact Take.head | apply Take.tail)), H.rw_ (by repeat (first | exact Take.head | apply Take.tail)), H.rd (s := p) (by repeat (first | exact Take.head | apply Take.tail)) int_len⟩ ?_
      (try simp only [Act.put, List.setIfInBounds_toArray, List.set_cons_succ, List.set_cons_zero])
      refine takeH (i := 11) rfl (.there (.there (.there (.there (.there (.there (.there (.there (.there (.there (.there .here))))))))))) (by kernel_rfl) (by kernel_rfl) (by kernel_rfl) (fun _ _ _ h => absurd h.1 (by simp)) (yields_val (v := (.int .i64 a)) rfl (fun _ => by (first | (go_simp; done) | (go_simp; rw [Ea.out]) | (rw [← Ea.out]; go_simp; done) | (go_simp; omega) | (go_simp; simpa using Ea.out)))) ⟨H.rw_ (by repeat (first | exact Take.head | apply Take.tail)), H.rw_ (by repeat (first | exact Take.head | apply Take.tail)), H.rd (s := p) (by repeat (first | exact Take.head | apply Take.tail)) int_len⟩ ?_
      (try simp only [Act.put, List.setIfInBounds_toArray, List.set_cons_succ, List.set_cons_zero])
      refine takeH (i := 12) rfl (.there (.there (.there (.there (.there (.there (.there (.there (.there (.there (.there (.there .here)))))))))))) (by kernel_rfl) (by kernel_rfl) (by kernel_rfl) (fun _ _ _ h => absurd h.1 (by simp)) (yields_val (v := (.agg #[.int .i64 3, .int .i64 0, .bool false, .int .i64 a])) rfl (fun _ => by go_simp)) ⟨H.rw_ (by repeat (first | exact Take.head | apply Take.tail)), H.rw_ (by repeat (first | exact Take.head | apply Take.tail)), H.rd (s := p) (by repeat (first | exact Take.head | apply Take.tail)) int_len⟩ ?_
      (try simp only [Act.put, List.setIfInBounds_toArray, List.set_cons_succ, List.set_cons_zero])
      refine takeH (i := 13) rfl (.there (.there (.there (.there (.there (.there (.there (.there (.there (.there (.there (.there (.there .here))))))))))))) (by kernel_rfl) (by kernel_rfl) (by kernel_rfl) (fun _ _ _ h => absurd h.1 (by simp)) (yields_val (v := (.bool true)) rfl (fun _ => by go_simp)) ⟨H.rw_ (by repeat (first | exact Take.head | apply Take.tail)), H.rw_ (by repeat (first | exact Take.head | apply Take.tail)), H.rd (s := p) (by repeat (first | exact Take.head | apply Take.tail)) int_len⟩ ?_
      (try simp only [Act.put, List.setIfInBounds_toArray, List.set_cons_succ, List.set_cons_zero])
      refine takeH (i := 14) rfl (.there (.there (.there (.there (.there (.there (.there (.there (.there (.there (.there (.there (.there (.there .here)))))))))))))) (by kernel_rfl) (by kernel_rfl) (by kernel_rfl) (fun _ _ _ h => absurd h.1 (by simp)) (yields_val (v := (.bool false)) rfl (fun _ => by go_simp)) ⟨H.rw_ (by repeat (first | exact Take.head | apply Take.tail)), H.rw_ (by repeat (first | exact Take.head | apply Take.tail)), H.rd (s := p) (by repeat (first | exact Take.head | apply Take.tail)) int_len⟩ ?_
      (try simp only [Act.put, List.setIfInBounds_toArray, List.set_cons_succ, List.set_cons_zero])
      refine takeH (i := 15) rfl (.there (.there (.there (.there (.there (.there (.there (.there (.there (.there (.there (.there (.there (.there (.there .here))))))))))))))) (by kernel_rfl) (by kernel_rfl) (by kernel_rfl) (fun _ _ _ h => absurd h.1 (by simp)) (yields_val (v := (.bool true)) rfl (fun _ => by go_simp)) ⟨H.rw_ (by repeat (first | exact Take.head | apply Take.tail)), H.rw_ (by repeat (first | exact Take.head | apply Take.tail)), H.rd (s := p) (by repeat (first | exact Take.head | apply Take.tail)) int_len⟩ ?_
      (try simp only [Act.put, List.setIfInBounds_toArray, List.set_cons_succ, List.set_cons_zero])
      refine takeH (i := 16) rfl (.there (.there (.there (.there (.there (.there (.there (.there (.there (.there (.there (.there (.there (.there (.there (.there .here)))))))))))))))) (by kernel_rfl) (by kernel_rfl) (by kernel_rfl) (fun _ _ _ h => absurd h.1 (by simp)) (yields_val (v := (.bool true)) rfl (fun _ => by go_simp)) ⟨H.rw_ (by repeat (first | exact Take.head | apply Take.tail)), H.rw_ (by repeat (first | exact Take.head | apply Take.tail)), H.rd (s := p) (by repeat (first | exact Take.head | apply Take.tail)) int_len⟩ ?_
      (try simp only [Act.put, List.setIfInBounds_toArray, List.set_cons_succ, List.set_cons_zero])
      refine takeH (i := 17) rfl (.there (.there (.there (.there (.there (.there (.there (.there (.there (.there (.there (.there (.there (.there (.there (.there (.there .here))))))))))))))))) (by kernel_rfl) (by kernel_rfl) (by kernel_rfl) (fun _ _ _ h => absurd h.1 (by simp)) (yields_val (v := (.bool true)) rfl (fun _ => by go_simp)) ⟨H.rw_ (by repeat (first | exact Take.head | apply Take.tail)), H.rw_ (by repeat (first | exact Take.head | apply Take.tail)), H.rd (s := p) (by repeat (first | exact Take.head | apply Take.tail)) int_len⟩ ?_
      (try simp only [Act.put, List.setIfInBounds_toArray, List.set_cons_succ, List.set_cons_zero])
      refine takeH (i := 18) rfl (.there (.there (.there (.there (.there (.there (.there (.there (.there (.there (.there (.there (.there (.there (.there (.there (.there (.there .here)))))))))))))))))) (by kernel_rfl) (by kernel_rfl) (by kernel_rfl) (fun _ _ _ h => absurd h.1 (by simp)) (yields_val (v := (.bool true)) rfl (fun _ => by go_simp)) ⟨H.rw_ (by repeat (first | exact Take.head | apply Take.tail)), H.rw_ (by repeat (first | exact Take.head | apply Take.tail)), H.rd (s := p) (by repeat (first | exact Take.head | apply Take.tail)) int_len⟩ ?_
      (try simp only [Act.put, List.setIfInBounds_toArray, List.set_cons_succ, List.set_cons_zero])
      refine takeH (i := 19) rfl (.there (.there (.there (.there (.there (.there (.there (.there (.there (.there (.there (.there (.there (.there (.there (.there (.there (.there (.there .here))))))))))))))))))) (by kernel_rfl) (by kernel_rfl) (by kernel_rfl) (fun _ _ _ h => absurd h.1 (by simp)) (yields_loads_R rfl rfl rfl (fun _ hS => hS.2.1) (by repeat (first | exact GetsAt.nil | apply GetsAt.here | apply GetsAt.there))) ⟨H.rw_ (by repeat (first | exact Take.head | apply Take.tail)), H.rw_ (by repeat (first | exact Take.head | apply Take.tail)), H.rd (s := p) (by repeat (first | exact Take.head | apply Take.tail)) int_len⟩ ?_
      (try simp only [Act.put, List.setIfInBounds_toArray, List.set_cons_succ, List.set_cons_zero])
      refine takeH (i := 20) rfl (.there (.there (.there (.there (.there (.there (.there (.there (.there (.there (.there (.there (.there (.there (.there (.there (.there (.there (.there (.there .here)))))))))))))))))))) (by kernel_rfl) (by kernel_rfl) (by kernel_rfl) (fun _ _ _ h => absurd h.1 (by simp)) (yields_val (v := (.agg #[.int .i64 0, .int .i64 0, .bool false, .int .i64 0])) rfl (fun _ => by go_simp)) ⟨H.rw_ (by repeat (first | exact Take.head | apply Take.tail)), H.rw_ (by repeat (first | exact Take.head | apply Take.tail)), H.rd (s := p) (by repeat (first | exact Take.head | apply Take.tail)) int_len⟩ ?_
      (try simp only [Act.put, List.setIfInBounds_toArray, List.set_cons_succ, List.set_cons_zero])
      refine takeH (i := 21) rfl (.there (.there (.there (.there (.there (.there (.there (.there (.there (.there (.there (.there (.there (.there (.there (.there (.there (.there (.there (.there (.there .here))))))))))))))))))))) (by kernel_rfl) (by kernel_rfl) (by kernel_rfl) (fun _ _ _ h => absurd h.1 (by simp)) (yields_val (v := (.bool false)) rfl (fun _ => by go_simp)) ⟨H.rw_ (by repeat (first | exact Take.head | apply Take.tail)), H.rw_ (by repeat (first | exact Take.head | apply Take.tail)), H.rd (s := p) (by repeat (first | exact Take.head | apply Take.tail)) int_len⟩ ?_
      (try simp only [Act.put, List.setIfInBounds_toArray, List.set_cons_succ, List.set_cons_zero])
      refine takeH (i := 22) rfl (.there (.there (.there (.there (.there (.there (.there (.there (.there (.there (.there (.there (.there (.there (.there (.there (.there (.there (.there (.there (.there (.there .here)))))))))))))))))))))) (by kernel_rfl) (by kernel_rfl) (by kernel_rfl) (fun _ _ _ h => absurd h.1 (by simp)) (yields_val (v := (.bool false)) rfl (fun _ => by go_simp)) ⟨H.rw_ (by repeat (first | exact Take.head | apply Take.tail)), H.rw_ (by repeat (first | exact Take.head | apply Take.tail)), H.rd (s := p) (by repeat (first | exact Take.head | apply Take.tail)) int_len⟩ ?_
      (try simp only [Act.put, List.setIfInBounds_toArray, List.set_cons_succ, List.set_cons_zero])
      refine takeH (i := 23) rfl (.there (.there (.there (.there (.there (.there (.there (.there (.there (.there (.there (.there (.there (.there (.there (.there (.there (.there (.there (.there (.there (.there (.there .here))))))))))))))))))))))) (by kernel_rfl) (by kernel_rfl) (by kernel_rfl) (fun _ _ _ h => absurd h.1 (by simp)) (yields_val (v := (.bool true)) rfl (fun _ => by go_simp)) ⟨H.rw_ (by repeat (first | exact Take.head | apply Take.tail)), H.rw_ (by repeat (first | exact Take.head | apply Take.tail)), H.rd (s := p) (by repeat (first | exact Take.head | apply Take.tail)) int_len⟩ ?_
      (try simp only [Act.put, List.setIfInBounds_toArray, List.set_cons_succ, List.set_cons_zero])
      refine takeH (i := 24) rfl (.there (.there (.there (.there (.there (.there (.there (.there (.there (.there (.there (.there (.there (.there (.there (.there (.there (.there (.there (.there (.there (.there (.there (.there .here)))))))))))))))))))))))) (by kernel_rfl) (by kernel_rfl) (by kernel_rfl) (fun _ _ _ h => absurd h.1 (by simp)) (yields_val (v := (.bool true)) rfl (fun _ => by go_simp)) ⟨H.rw_ (by repeat (first | exact Take.head | apply Take.tail)), H.rw_ (by repeat (first | exact Take.head | apply Take.tail)), H.rd (s := p) (by repeat (first | exact Take.head | apply Take.tail)) int_len⟩ ?_
      (try simp only [Act.put, List.setIfInBounds_toArray, List.set_cons_succ, List.set_cons_zero])
      refine takeH (i := 25) rfl (.there (.there (.there (.there (.there (.there (.there (.there (.there (.there (.there (.there (.there (.there (.there (.there (.there (.there (.there (.there (.there (.there (.there (.there (.there .here))))))))))))))))))))))))) (by kernel_rfl) (by kernel_rfl) (by kernel_rfl) (fun _ _ _ h => absurd h.1 (by simp)) (yields_val (v := (.bool true)) rfl (fun _ => by go_simp)) ⟨H.rw_ (by repeat (first | exact Take.head | apply Take.tail)), H.rw_ (by repeat (first | exact Take.head | apply Take.tail)), H.rd (s := p) (by repeat (first | exact Take.head | apply Take.tail)) int_len⟩ ?_
      (try simp only [Act.put, List.setIfInBounds_toArray, List.set_cons_succ, List.set_cons_zero])
      refine wpAnyH_done (by kernel_rfl) ?_ _
      exact ⟨rfl, (), Lib.hid trivial, H.pick (.cons (by repeat (first | exact Take.head | apply Take.tail)) .nil), by first | (simp only [puts_cons, puts_nil, Act.put, List.setIfInBounds_toArray, List.set_cons_succ, List.set_cons_zero]; done) | (simp only [puts_cons, puts_nil, Act.put, List.setIfInBounds_toArray, List.set_cons_succ, List.set_cons_zero]; rfl)⟩
    clear H
    rintro u w ⟨_, _, H, rfl⟩
    simp only [puts_cons, puts_nil, Act.put, List.setIfInBounds_toArray, List.set_cons_succ, List.set_cons_zero]
    go_wp2_with (first
      | go_skip
      | ((with_reducible refine at_box ?_); first | (refine wpList_box_H rfl rfl H rfl (by first | exact CellsOf.agg | exact CellsOf.int | exact CellsOf.bool | exact CellsOf.slice | exact CellsOf.string | exact CellsOf.pointer | exact CellsOf.func) ?_; clear H; intro bQ w H))
      | ((with_reducible refine at_alloc ?_); first | (refine wpList_alloc_H rfl rfl H ?_; clear H; intro b w H))
      | ((with_reducible refine at_load ?_); first | (refine wpList_load_H rfl rfl H rfl (by repeat (first | exact LoadAt.here rfl | apply LoadAt.there)) ?_) | (refine wpList_loads_H rfl rfl H rfl (by repeat (first | (apply LoadsAt.here; repeat (first | exact GetsAt.nil | apply GetsAt.here | apply GetsAt.there)) | apply LoadsAt.there)) ?_))
      | ((with_reducible refine at_store ?_); first | (refine wpList_store_H rfl rfl H rfl rfl (by repeat (first | (apply StoreAt.here; (first | exact CellsOf.agg | exact CellsOf.int | exact CellsOf.bool | exact CellsOf.slice | exact CellsOf.string | exact CellsOf.pointer | exact CellsOf.func); (repeat (first | exact SetsAt.nil | apply SetsAt.here | apply SetsAt.there)); exact rfl; exact rfl) | apply StoreAt.there)) ?_; clear H; intro w H)))
    go_ret
    exact ⟨rfl, H.below⟩
end Go.Proofs.Ytjiiobliadeldaa
