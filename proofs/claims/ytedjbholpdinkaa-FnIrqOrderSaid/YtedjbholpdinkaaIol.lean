/- Walk of the law FnIrqOrder. No condition but that the argument lies in memory. -/
import Derived.Test.YtedjbholpdinkaaIo
namespace Go.Proofs.Ytedjbholpdinkaa
open Go.RowKit
attribute [local go_sem ↓] Go.wp_at_zero Go.wp_at_succ
theorem cnt_le (p : Int) : cntI p ≤ 8 := by unfold cntI; split <;> omega
set_option linter.unusedSimpArgs false in
set_option linter.unusedVariables false in
set_option maxRecDepth 100000 in
set_option maxHeartbeats 8000000 in
theorem walk_fnIrqOrder (s : Sl Int) (W0 : World) (ra : Rd u8cell 1 W0 s ∧ s.xs.length ≤ maxLen) : Calls Try.prog 4 #[.slice s.A s.xs.length s.c] W0 fun e w' => e = .returned (.bool true) ∧ Below W0.heap.size W0 w' := by
  obtain ⟨R, _⟩ := ra
  have H := Hp.start W0
  by_cases hbig : 1048576 < s.xs.length
  · have hb : decide (1048576 < s.xs.length) = true := decide_eq_true hbig
    have HB := Lib.hid hb; clear hb
    go_enter Try.func4, Try.ntmps4
    go_wp2_with (first
      | go_skip
      | ((with_reducible refine at_box ?_); first | (refine wpList_box_H rfl rfl H rfl (by first | exact CellsOf.agg | exact CellsOf.int | exact CellsOf.bool | exact CellsOf.slice | exact CellsOf.string | exact CellsOf.pointer | exact CellsOf.func) ?_; clear H; intro bQ w H))
      | ((with_reducible refine at_alloc ?_); first | (refine wpList_alloc_H rfl rfl H ?_; clear H; intro b w H))
      | ((with_reducible refine at_load ?_); first | (refine wpList_load_H rfl rfl H rfl (by repeat (first | exact LoadAt.here rfl | apply LoadAt.there)) ?_) | (refine wpList_loads_H rfl rfl H rfl (by repeat (first | (apply LoadsAt.here; repeat (first | exact GetsAt.nil | apply GetsAt.here | apply GetsAt.there)) | apply LoadsAt.there)) ?_))
      | ((with_reducible refine at_store ?_); first | (refine wpList_store_H rfl rfl H rfl rfl (by repeat (first | (apply StoreAt.here; (first | exact CellsOf.agg | exact CellsOf.int | exact CellsOf.bool | exact CellsOf.slice | exact CellsOf.string | exact CellsOf.pointer | exact CellsOf.func); (repeat (first | exact SetsAt.nil | apply SetsAt.here | apply SetsAt.there)); exact rfl; exact rfl) | apply StoreAt.there)) ?_; clear H; intro w H)))
    go_at_call 12
    refine (big_c s _).mono ?_
    rintro e w ⟨he, K⟩
    rw [HB.out] at he
    subst he
    replace H := H.add_all K
    clear K
    go_wp2_with (first
      | go_skip
      | ((with_reducible refine at_box ?_); first | (refine wpList_box_H rfl rfl H rfl (by first | exact CellsOf.agg | exact CellsOf.int | exact CellsOf.bool | exact CellsOf.slice | exact CellsOf.string | exact CellsOf.pointer | exact CellsOf.func) ?_; clear H; intro bQ w H))
      | ((with_reducible refine at_alloc ?_); first | (refine wpList_alloc_H rfl rfl H ?_; clear H; intro b w H))
      | ((with_reducible refine at_load ?_); first | (refine wpList_load_H rfl rfl H rfl (by repeat (first | exact LoadAt.here rfl | apply LoadAt.there)) ?_) | (refine wpList_loads_H rfl rfl H rfl (by repeat (first | (apply LoadsAt.here; repeat (first | exact GetsAt.nil | apply GetsAt.here | apply GetsAt.there)) | apply LoadsAt.there)) ?_))
      | ((with_reducible refine at_store ?_); first | (refine wpList_store_H rfl rfl H rfl rfl (by repeat (first | (apply StoreAt.here; (first | exact CellsOf.agg | exact CellsOf.int | exact CellsOf.bool | exact CellsOf.slice | exact CellsOf.string | exact CellsOf.pointer | exact CellsOf.func); (repeat (first | exact SetsAt.nil | apply SetsAt.here | apply SetsAt.there)); exact rfl; exact rfl) | apply StoreAt.there)) ?_; clear H; intro w H)))
    go_ret
    exact ⟨rfl, H.below⟩
  have hb : decide (1048576 < s.xs.length) = false := decide_eq_false hbig
  have HB := Lib.hid hb; clear hb
  have Z : s.xs.length ≤ 1048576 := by omega
  clear hbig
  go_enter Try.func4, Try.ntmps4
  go_wp2_with (first
    | go_skip
    | ((with_reducible refine at_box ?_); first | (refine wpList_box_H rfl rfl H rfl (by first | exact CellsOf.agg | exact CellsOf.int | exact CellsOf.bool | exact CellsOf.slice | exact CellsOf.string | exact CellsOf.pointer | exact CellsOf.func) ?_; clear H; intro bQ w H))
    | ((with_reducible refine at_alloc ?_); first | (refine wpList_alloc_H rfl rfl H ?_; clear H; intro b w H))
    | ((with_reducible refine at_load ?_); first | (refine wpList_load_H rfl rfl H rfl (by repeat (first | exact LoadAt.here rfl | apply LoadAt.there)) ?_) | (refine wpList_loads_H rfl rfl H rfl (by repeat (first | (apply LoadsAt.here; repeat (first | exact GetsAt.nil | apply GetsAt.here | apply GetsAt.there)) | apply LoadsAt.there)) ?_))
    | ((with_reducible refine at_store ?_); first | (refine wpList_store_H rfl rfl H rfl rfl (by repeat (first | (apply StoreAt.here; (first | exact CellsOf.agg | exact CellsOf.int | exact CellsOf.bool | exact CellsOf.slice | exact CellsOf.string | exact CellsOf.pointer | exact CellsOf.func); (repeat (first | exact SetsAt.nil | apply SetsAt.here | apply SetsAt.there)); exact rfl; exact rfl) | apply StoreAt.there)) ?_; clear H; intro w H)))
  go_at_call 12
  refine (big_c s _).mono ?_
  rintro e w ⟨he, K⟩
  rw [HB.out] at he
  subst he
  replace H := H.add_all K
  clear K
  go_wp2_with (first
    | go_skip
    | ((with_reducible refine at_box ?_); first | (refine wpList_box_H rfl rfl H rfl (by first | exact CellsOf.agg | exact CellsOf.int | exact CellsOf.bool | exact CellsOf.slice | exact CellsOf.string | exact CellsOf.pointer | exact CellsOf.func) ?_; clear H; intro bQ w H))
    | ((with_reducible refine at_alloc ?_); first | (refine wpList_alloc_H rfl rfl H ?_; clear H; intro b w H))
    | ((with_reducible refine at_load ?_); first | (refine wpList_load_H rfl rfl H rfl (by repeat (first | exact LoadAt.here rfl | apply LoadAt.there)) ?_) | (refine wpList_loads_H rfl rfl H rfl (by repeat (first | (apply LoadsAt.here; repeat (first | exact GetsAt.nil | apply GetsAt.here | apply GetsAt.there)) | apply LoadsAt.there)) ?_))
    | ((with_reducible refine at_store ?_); first | (refine wpList_store_H rfl rfl H rfl rfl (by repeat (first | (apply StoreAt.here; (first | exact CellsOf.agg | exact CellsOf.int | exact CellsOf.bool | exact CellsOf.slice | exact CellsOf.string | exact CellsOf.pointer | exact CellsOf.func); (repeat (first | exact SetsAt.nil | apply SetsAt.here | apply SetsAt.there)); exact rfl; exact rfl) | apply StoreAt.there)) ?_; clear H; intro w H)))
  go_at_call 13
  refine (drawPlaces_c s _ (R.at_ H) Z).mono ?_
  rintro e w ⟨p, rfl, hpl, hpb, K⟩
  replace H := H.add_all K
  clear K
  have hlen : ∀ k, k < 12 → k < p.xs.length := fun k hk => by rw [hpl]; exact hk
  have hget : ∀ k, k < 12 → ∃ x, p.xs[k]? = some x ∧ 0 ≤ x.tmod 256 ∧ x.tmod 256 ≤ 255 := fun k hk => by
    refine ⟨_, List.getElem?_eq_getElem (hlen k hk), ?_, ?_⟩
    · exact Int.tmod_nonneg _ (hpb _ (List.getElem_mem _)).1
    · have := Int.tmod_lt_of_pos (p.xs[k]'(hlen k hk)) (by decide : (0 : Int) < 256); omega
  obtain ⟨p0, g0, r0, r0'⟩ := hget 0 (by omega)
  obtain ⟨p1, g1, r1, r1'⟩ := hget 1 (by omega)
  obtain ⟨p2, g2, r2, r2'⟩ := hget 2 (by omega)
  have HP0 := Lib.hid g0; have HP1 := Lib.hid g1; have HP2 := Lib.hid g2
  have h0p := hlen 0 (by omega); have h1p := hlen 1 (by omega); have h2p := hlen 2 (by omega)
  clear hpl hpb hget hlen g0 g1 g2
  go_wp2_with (first
    | go_skip
    | ((with_reducible refine at_box ?_); first | (refine wpList_box_H rfl rfl H rfl (by first | exact CellsOf.agg | exact CellsOf.int | exact CellsOf.bool | exact CellsOf.slice | exact CellsOf.string | exact CellsOf.pointer | exact CellsOf.func) ?_; clear H; intro bQ w H))
    | ((with_reducible refine at_alloc ?_); first | (refine wpList_alloc_H rfl rfl H ?_; clear H; intro b w H))
    | ((with_reducible refine at_load ?_); first | (refine wpList_load_rd rfl rfl p (H.rd (s := p) (by repeat (first | exact Take.head | apply Take.tail)) int_len) rfl p0 HP0.out rfl ?_) | (refine wpList_load_H rfl rfl H rfl (by repeat (first | exact LoadAt.here rfl | apply LoadAt.there)) ?_) | (refine wpList_loads_H rfl rfl H rfl (by repeat (first | (apply LoadsAt.here; repeat (first | exact GetsAt.nil | apply GetsAt.here | apply GetsAt.there)) | apply LoadsAt.there)) ?_))
    | ((with_reducible refine at_store ?_); first | (refine wpList_store_H rfl rfl H rfl rfl (by repeat (first | (apply StoreAt.here; (first | exact CellsOf.agg | exact CellsOf.int | exact CellsOf.bool | exact CellsOf.slice | exact CellsOf.string | exact CellsOf.pointer | exact CellsOf.func); (repeat (first | exact SetsAt.nil | apply SetsAt.here | apply SetsAt.there)); exact rfl; exact rfl) | apply StoreAt.there)) ?_; clear H; intro w H))
    | ((with_reducible refine at_index ?_); first | (refine wpList_index_n rfl rfl (k := 0) p (H.rd (s := p) (by repeat (first | exact Take.head | apply Take.tail)) int_len) rfl rfl rfl h0p ?_))
    | (go_at_call 16; refine (irqCount_any _ _).mono ?_; rintro e w' ⟨rfl, rfl⟩))
  go_loopw [4, 6, 7] (fun qv lv i wr => ∃ (k : Nat) (q last : Int), i = .int .i64 k ∧ qv = .int .i64 q ∧ lv = .int .i64 last ∧ 0 ≤ q ∧ q ≤ 255 ∧ topI q < last ∧ (k : Int) + cntI q = cntI (p0.tmod 256) ∧ Hp W0 wr [.int p]) (fun _ _ i _ => (cntI (p0.tmod 256)).toNat - (intOf i).toNat)
  case atStart => exact ⟨0, _, _, rfl, rfl, rfl, r0, r0', (take_facts r0 r0').1, by simp, H.pick (.cons (by repeat (first | exact Take.head | apply Take.tail)) .nil)⟩
  case round =>
    clear H
    obtain ⟨k, q, last, rfl, rfl, rfl, q0, q1, hlast, hsum, H⟩ := hrel
    obtain ⟨F1, F2, F3, F4, F5⟩ := take_facts q0 q1
    have F8 := cnt_le (p0.tmod 256)
    by_cases hk : (k : Int) < cntI (p0.tmod 256)
    · obtain ⟨f1, f2, f3, f4, f5⟩ := F5 (by omega)
      have ht : decide (0 ≤ topI q) = true := decide_eq_true f1
      have HT := Lib.hid ht; clear ht
      go_wp2_with (first
        | go_skip
        | ((with_reducible refine at_box ?_); first | (refine wpList_box_H rfl rfl H rfl (by first | exact CellsOf.agg | exact CellsOf.int | exact CellsOf.bool | exact CellsOf.slice | exact CellsOf.string | exact CellsOf.pointer | exact CellsOf.func) ?_; clear H; intro bQ w H))
        | ((with_reducible refine at_alloc ?_); first | (refine wpList_alloc_H rfl rfl H ?_; clear H; intro b w H))
        | ((with_reducible refine at_load ?_); first | (refine wpList_load_H rfl rfl H rfl (by repeat (first | exact LoadAt.here rfl | apply LoadAt.there)) ?_) | (refine wpList_loads_H rfl rfl H rfl (by repeat (first | (apply LoadsAt.here; repeat (first | exact GetsAt.nil | apply GetsAt.here | apply GetsAt.there)) | apply LoadsAt.there)) ?_))
        | ((with_reducible refine at_store ?_); first | (refine wpList_store_H rfl rfl H rfl rfl (by repeat (first | (apply StoreAt.here; (first | exact CellsOf.agg | exact CellsOf.int | exact CellsOf.bool | exact CellsOf.slice | exact CellsOf.string | exact CellsOf.pointer | exact CellsOf.func); (repeat (first | exact SetsAt.nil | apply SetsAt.here | apply SetsAt.there)); exact rfl; exact rfl) | apply StoreAt.there)) ?_; clear H; intro w H))
        | (go_at_call 17; refine (takeIrq_any q _).mono ?_; rintro e w' ⟨he, rfl⟩; rw [HT.out] at he; subst he))
      go_roundw
      case rel => exact ⟨k + 1, tookI q, topI q, by go_num, rfl, rfl, f2, f3, f5, by omega, H⟩
      case measure => simp [intOf]; omega
    · have hq0 : q = 0 := F4 (by omega)
      subst hq0
      clear F1 F2 F3 F4 F5 F8 hlast hsum q0 q1
      obtain ⟨a, ha⟩ := Int.eq_ofNat_of_zero_le r1
      obtain ⟨b, hb⟩ := Int.eq_ofNat_of_zero_le r2
      have EA := Lib.hid ha
      have EB := Lib.hid hb
      have a5 : a ≤ 255 := by omega
      have b5 : b ≤ 255 := by omega
      obtain ⟨S1, S2, _⟩ := split_facts a5 b5
      obtain ⟨x, hx⟩ : ∃ x, x = a &&& b := ⟨_, rfl⟩
      obtain ⟨y, hy⟩ : ∃ y, y = a - (a &&& b) := ⟨_, rfl⟩
      have HXY : Hid (x = a &&& b ∧ y = a - (a &&& b)) := Lib.hid ⟨hx, hy⟩
      have HS : Hid (IntKind.i64.wrap ((x : Int) + (y : Int)) = (a : Int)) := Lib.hid (by rw [wrap_small _ (by omega) (by omega)]; omega)
      have HC : Hid (IntKind.i64.wrap (cntI (x : Int) + cntI (y : Int)) = cntI (a : Int)) := Lib.hid (by
        rw [cnt_nat x (by omega), cnt_nat y (by omega), cnt_nat a a5, hx, hy]
        have := cnt_le (a : Int)
        rw [cnt_nat a a5] at this
        rw [wrap_small _ (by omega) (by omega)]; omega)
      clear ha hb hx hy S1 S2 r0 r0' r1 r1' r2 r2'
      go_wp2_with (first
        | go_skip
        | ((with_reducible refine at_box ?_); first | (refine wpList_box_H rfl rfl H rfl (by first | exact CellsOf.agg | exact CellsOf.int | exact CellsOf.bool | exact CellsOf.slice | exact CellsOf.string | exact CellsOf.pointer | exact CellsOf.func) ?_; clear H; intro bQ w H))
        | ((with_reducible refine at_alloc ?_); first | (refine wpList_alloc_H rfl rfl H ?_; clear H; intro b w H))
        | ((with_reducible refine at_load ?_); first | (refine wpList_load_H rfl rfl H rfl (by repeat (first | exact LoadAt.here rfl | apply LoadAt.there)) ?_) | (refine wpList_loads_H rfl rfl H rfl (by repeat (first | (apply LoadsAt.here; repeat (first | exact GetsAt.nil | apply GetsAt.here | apply GetsAt.there)) | apply LoadsAt.there)) ?_))
        | ((with_reducible refine at_store ?_); first | (refine wpList_store_H rfl rfl H rfl rfl (by repeat (first | (apply StoreAt.here; (first | exact CellsOf.agg | exact CellsOf.int | exact CellsOf.bool | exact CellsOf.slice | exact CellsOf.string | exact CellsOf.pointer | exact CellsOf.func); (repeat (first | exact SetsAt.nil | apply SetsAt.here | apply SetsAt.there)); exact rfl; exact rfl) | apply StoreAt.there)) ?_; clear H; intro w H)))
      refine wp_cut (fun u a' w' => ∃ (_ : Unit), Hp W0 w' [.int p] ∧ a' = puts u [(45, (.slice p.A p.xs.length p.c)), (46, (.pointer (some ⟨ablk p.A, aoff p.A + 1 * 1, none⟩))), (47, (.int .i64 p1)), (48, (.int .i64 (a : Int))), (49, (.slice p.A p.xs.length p.c)), (50, (.pointer (some ⟨ablk p.A, aoff p.A + 2 * 1, none⟩))), (51, (.int .i64 p2)), (52, (.int .i64 (b : Int))), (53, (.tuple #[(.int .i64 (x : Int)), (.int .i64 (y : Int))])), (44, (.tuple #[(.int .i64 (x : Int)), (.int .i64 (y : Int))])), (54, (.int .i64 (x : Int))), (55, (.int .i64 (y : Int))), (10, (.int .i64 (x : Int))), (11, (.int .i64 (y : Int)))]) ?_ ?_
      · refine wp_region_held (S := (fun w' => Rd icell 1 w' p)) (by kernel_rfl) ?_
        replace H := H.drew
        refine takeH (i := 0) rfl .here (by kernel_rfl) (by kernel_rfl) (by kernel_rfl) (fun _ _ _ h => absurd h.1 (by simp)) (yields_val (v := (.slice p.A p.xs.length p.c)) rfl (fun _ => by go_simp)) (H.rd (s := p) (by repeat (first | exact Take.head | apply Take.tail)) int_len) ?_
        (try simp only [Act.put, List.setIfInBounds_toArray, List.set_cons_succ, List.set_cons_zero])
        refine takeH (i := 1) rfl (.there .here) (by kernel_rfl) (by kernel_rfl) (by kernel_rfl) (fun _ _ _ h => absurd h.1 (by simp)) (yields_index_nn rfl rfl (k := 1) p (fun _ hS => hS) rfl rfl rfl h1p) (H.rd (s := p) (by repeat (first | exact Take.head | apply Take.tail)) int_len) ?_
        (try simp only [Act.put, List.setIfInBounds_toArray, List.set_cons_succ, List.set_cons_zero])
        refine takeH (i := 2) rfl (.there (.there .here)) (by kernel_rfl) (by kernel_rfl) (by kernel_rfl) (fun _ _ _ h => absurd h.1 (by simp)) (yields_load_rdd rfl rfl p (fun _ hS => hS) rfl p1 HP1.out (by first | exact rfl | exact (Nat.add_zero _).symm) rfl) (H.rd (s := p) (by repeat (first | exact Take.head | apply Take.tail)) int_len) ?_
        (try simp only [Act.put, List.setIfInBounds_toArray, List.set_cons_succ, List.set_cons_zero])
        refine takeH (i := 3) rfl (.there (.there (.there .here))) (by kernel_rfl) (by kernel_rfl) (by kernel_rfl) (fun _ _ _ h => absurd h.1 (by simp)) (yields_val (v := (.int .i64 (a : Int))) rfl (fun _ => by (first | (go_simp; done) | (go_simp; rw [EA.out]) | (rw [← EA.out]; go_simp) | (go_simp; omega)))) (H.rd (s := p) (by repeat (first | exact Take.head | apply Take.tail)) int_len) ?_
        (try simp only [Act.put, List.setIfInBounds_toArray, List.set_cons_succ, List.set_cons_zero])
        refine takeH (i := 4) rfl (.there (.there (.there (.there .here)))) (by kernel_rfl) (by kernel_rfl) (by kernel_rfl) (fun _ _ _ h => absurd h.1 (by simp)) (yields_val (v := (.slice p.A p.xs.length p.c)) rfl (fun _ => by go_simp)) (H.rd (s := p) (by repeat (first | exact Take.head | apply Take.tail)) int_len) ?_
        (try simp only [Act.put, List.setIfInBounds_toArray, List.set_cons_succ, List.set_cons_zero])
        refine takeH (i := 5) rfl (.there (.there (.there (.there (.there .here))))) (by kernel_rfl) (by kernel_rfl) (by kernel_rfl) (fun _ _ _ h => absurd h.1 (by simp)) (yields_index_nn rfl rfl (k := 2) p (fun _ hS => hS) rfl rfl rfl h2p) (H.rd (s := p) (by repeat (first | exact Take.head | apply Take.tail)) int_len) ?_
        (try simp only [Act.put, List.setIfInBounds_toArray, List.set_cons_succ, List.set_cons_zero])
        refine takeH (i := 6) rfl (.there (.there (.there (.there (.there (.there .here)))))) (by kernel_rfl) (by kernel_rfl) (by kernel_rfl) (fun _ _ _ h => absurd h.1 (by simp)) (yields_load_rdd rfl rfl p (fun _ hS => hS) rfl p2 HP2.out (by first | exact rfl | exact (Nat.add_zero _).symm) rfl) (H.rd (s := p) (by repeat (first | exact Take.head | apply Take.tail)) int_len) ?_
        (try simp only [Act.put, List.setIfInBounds_toArray, List.set_cons_succ, List.set_cons_zero])
        refine takeH (i := 7) rfl (.there (.there (.there (.there (.there (.there (.there .here))))))) (by kernel_rfl) (by kernel_rfl) (by kernel_rfl) (fun _ _ _ h => absurd h.1 (by simp)) (yields_val (v := (.int .i64 (b : Int))) rfl (fun _ => by (first | (go_simp; done) | (go_simp; rw [EB.out]) | (rw [← EB.out]; go_simp) | (go_simp; omega)))) (H.rd (s := p) (by repeat (first | exact Take.head | apply Take.tail)) int_len) ?_
        (try simp only [Act.put, List.setIfInBounds_toArray, List.set_cons_succ, List.set_cons_zero])
        refine anyH_1 (i := 8) (by kernel_rfl) ?_
        refine wpOp_at rfl (.there (.there (.there (.there (.there (.there (.there (.there .here)))))))) rfl ?_
        refine wp_call_H Try.f18 rfl rfl Try.func18 (by kernel_rfl) rfl rfl (val_H (v := .tuple #[.int .i64 (x : Int), .int .i64 (y : Int)]) H ((splitIrqs_c a b a5 b5 _).mono fun _ _ ⟨he, K⟩ => ⟨by rw [he, ← HXY.out.2, ← HXY.out.1], K⟩)) ?_
        clear H
        rintro _ w ⟨rfl, H⟩
        refine ⟨(H.rd (s := p) (by repeat (first | exact Take.head | apply Take.tail)) int_len), ?_⟩
        (try simp only [Act.put, List.setIfInBounds_toArray, List.set_cons_succ, List.set_cons_zero])
        refine takeH (i := 9) rfl (.there (.there (.there (.there (.there (.there (.there (.there (.there .here))))))))) (by kernel_rfl) (by kernel_rfl) (by kernel_rfl) (fun _ _ _ h => absurd h.1 (by simp)) (yields_val (v := (.tuple #[(.int .i64 (x : Int)), (.int .i64 (y : Int))])) rfl (fun _ => by go_simp)) (H.rd (s := p) (by repeat (first | exact Take.head | apply Take.tail)) int_len) ?_
        (try simp only [Act.put, List.setIfInBounds_toArray, List.set_cons_succ, List.set_cons_zero])
        refine takeH (i := 10) rfl (.there (.there (.there (.there (.there (.there (.there (.there (.there (.there .here)))))))))) (by kernel_rfl) (by kernel_rfl) (by kernel_rfl) (fun _ _ _ h => absurd h.1 (by simp)) (yields_val (v := (.int .i64 (x : Int))) rfl (fun _ => by go_simp)) (H.rd (s := p) (by repeat (first | exact Take.head | apply Take.tail)) int_len) ?_
        (try simp only [Act.put, List.setIfInBounds_toArray, List.set_cons_succ, List.set_cons_zero])
        refine takeH (i := 11) rfl (.there (.there (.there (.there (.there (.there (.there (.there (.there (.there (.there .here))))))))))) (by kernel_rfl) (by kernel_rfl) (by kernel_rfl) (fun _ _ _ h => absurd h.1 (by simp)) (yields_val (v := (.int .i64 (y : Int))) rfl (fun _ => by go_simp)) (H.rd (s := p) (by repeat (first | exact Take.head | apply Take.tail)) int_len) ?_
        (try simp only [Act.put, List.setIfInBounds_toArray, List.set_cons_succ, List.set_cons_zero])
        refine takeH (i := 12) rfl (.there (.there (.there (.there (.there (.there (.there (.there (.there (.there (.there (.there .here)))))))))))) (by kernel_rfl) (by kernel_rfl) (by kernel_rfl) (fun _ _ _ h => absurd h.1 (by simp)) (yields_val (v := (.int .i64 (x : Int))) rfl (fun _ => by go_simp)) (H.rd (s := p) (by repeat (first | exact Take.head | apply Take.tail)) int_len) ?_
        (try simp only [Act.put, List.setIfInBounds_toArray, List.set_cons_succ, List.set_cons_zero])
        refine takeH (i := 13) rfl (.there (.there (.there (.there (.there (.there (.there (.there (.there (.there (.there (.there (.there .here))))))))))))) (by kernel_rfl) (by kernel_rfl) (by kernel_rfl) (fun _ _ _ h => absurd h.1 (by simp)) (yields_val (v := (.int .i64 (y : Int))) rfl (fun _ => by go_simp)) (H.rd (s := p) (by repeat (first | exact Take.head | apply Take.tail)) int_len) ?_
        (try simp only [Act.put, List.setIfInBounds_toArray, List.set_cons_succ, List.set_cons_zero])
        refine wpAnyH_done (by kernel_rfl) ?_ _
        exact ⟨rfl, (), H.pick (.cons (by repeat (first | exact Take.head | apply Take.tail)) .nil), by first | (simp only [puts_cons, puts_nil, Act.put, List.setIfInBounds_toArray, List.set_cons_succ, List.set_cons_zero]; done) | (simp only [puts_cons, puts_nil, Act.put, List.setIfInBounds_toArray, List.set_cons_succ, List.set_cons_zero]; rfl)⟩
      clear H
      rintro u w ⟨_, H, rfl⟩
      simp only [puts_cons, puts_nil, Act.put, List.setIfInBounds_toArray, List.set_cons_succ, List.set_cons_zero]
      go_wp2_with (first
        | go_skip
        | ((with_reducible refine at_box ?_); first | (refine wpList_box_H rfl rfl H rfl (by first | exact CellsOf.agg | exact CellsOf.int | exact CellsOf.bool | exact CellsOf.slice | exact CellsOf.string | exact CellsOf.pointer | exact CellsOf.func) ?_; clear H; intro bQ w H))
        | ((with_reducible refine at_alloc ?_); first | (refine wpList_alloc_H rfl rfl H ?_; clear H; intro b w H))
        | ((with_reducible refine at_load ?_); first | (refine wpList_load_H rfl rfl H rfl (by repeat (first | exact LoadAt.here rfl | apply LoadAt.there)) ?_) | (refine wpList_loads_H rfl rfl H rfl (by repeat (first | (apply LoadsAt.here; repeat (first | exact GetsAt.nil | apply GetsAt.here | apply GetsAt.there)) | apply LoadsAt.there)) ?_))
        | ((with_reducible refine at_store ?_); first | (refine wpList_store_H rfl rfl H rfl rfl (by repeat (first | (apply StoreAt.here; (first | exact CellsOf.agg | exact CellsOf.int | exact CellsOf.bool | exact CellsOf.slice | exact CellsOf.string | exact CellsOf.pointer | exact CellsOf.func); (repeat (first | exact SetsAt.nil | apply SetsAt.here | apply SetsAt.there)); exact rfl; exact rfl) | apply StoreAt.there)) ?_; clear H; intro w H))
        | (go_at_call 17; refine (takeIrq_any 0 _).mono ?_; rintro e w' ⟨he, rfl⟩; rw [show tookI 0 = 0 from rfl, show topI 0 = -1 from rfl, show decide ((0 : Int) ≤ -1) = false from rfl] at he; subst he))
      refine wp_cut (fun u a' w' => ∃ (_ : Unit), Hp W0 w' [.int p] ∧ a' = puts u [(62, (.int .i64 0)), (63, (.bool true)), (64, (.bool true)), (65, (.int .i64 (-1))), (66, (.bool true)), (67, (.bool true)), (68, (.bool true)), (69, (.bool false)), (70, (.bool true)), (71, (.bool true)), (72, (.bool true)), (73, (.int .i64 (x : Int))), (74, (.int .i64 (y : Int))), (75, (.int .i64 (a : Int))), (76, (.slice p.A p.xs.length p.c)), (77, (.pointer (some ⟨ablk p.A, aoff p.A + 1 * 1, none⟩))), (78, (.int .i64 p1)), (79, (.int .i64 (a : Int))), (80, (.bool true)), (81, (.bool true)), (82, (.bool true)), (83, (.int .i64 (x : Int))), (84, (.int .i64 (cntI (x : Int)))), (85, (.int .i64 (y : Int))), (86, (.int .i64 (cntI (y : Int)))), (87, (.int .i64 (cntI (a : Int)))), (88, (.slice p.A p.xs.length p.c)), (89, (.pointer (some ⟨ablk p.A, aoff p.A + 1 * 1, none⟩))), (90, (.int .i64 p1)), (91, (.int .i64 (a : Int))), (92, (.int .i64 (cntI (a : Int)))), (93, (.bool true)), (94, (.bool true)), (2, (.bool true))]) ?_ ?_
      · refine wp_region_held (S := (fun w' => Rd icell 1 w' p)) (by kernel_rfl) ?_
        replace H := H.drew
        refine takeH (i := 0) rfl .here (by kernel_rfl) (by kernel_rfl) (by kernel_rfl) (fun _ _ _ h => absurd h.1 (by simp)) (yields_val (v := (.int .i64 0)) rfl (fun _ => by go_simp)) (H.rd (s := p) (by repeat (first | exact Take.head | apply Take.tail)) int_len) ?_
        (try simp only [Act.put, List.setIfInBounds_toArray, List.set_cons_succ, List.set_cons_zero])
        refine takeH (i := 1) rfl (.there .here) (by kernel_rfl) (by kernel_rfl) (by kernel_rfl) (fun _ _ _ h => absurd h.1 (by simp)) (yields_val (v := (.bool true)) rfl (fun _ => by go_simp)) (H.rd (s := p) (by repeat (first | exact Take.head | apply Take.tail)) int_len) ?_
        (try simp only [Act.put, List.setIfInBounds_toArray, List.set_cons_succ, List.set_cons_zero])
        refine takeH (i := 2) rfl (.there (.there .here)) (by kernel_rfl) (by kernel_rfl) (by kernel_rfl) (fun _ _ _ h => absurd h.1 (by simp)) (yields_val (v := (.bool true)) rfl (fun _ => by go_simp)) (H.rd (s := p) (by repeat (first | exact Take.head | apply Take.tail)) int_len) ?_
        (try simp only [Act.put, List.setIfInBounds_toArray, List.set_cons_succ, List.set_cons_zero])
        refine takeH (i := 3) rfl (.there (.there (.there .here))) (by kernel_rfl) (by kernel_rfl) (by kernel_rfl) (fun _ _ _ h => absurd h.1 (by simp)) (yields_val (v := (.int .i64 (-1))) rfl (fun _ => by go_simp)) (H.rd (s := p) (by repeat (first | exact Take.head | apply Take.tail)) int_len) ?_
        (try simp only [Act.put, List.setIfInBounds_toArray, List.set_cons_succ, List.set_cons_zero])
        refine takeH (i := 4) rfl (.there (.there (.there (.there .here)))) (by kernel_rfl) (by kernel_rfl) (by kernel_rfl) (fun _ _ _ h => absurd h.1 (by simp)) (yields_val (v := (.bool true)) rfl (fun _ => by go_simp)) (H.rd (s := p) (by repeat (first | exact Take.head | apply Take.tail)) int_len) ?_
        (try simp only [Act.put, List.setIfInBounds_toArray, List.set_cons_succ, List.set_cons_zero])
        refine takeH (i := 5) rfl (.there (.there (.there (.there (.there .here))))) (by kernel_rfl) (by kernel_rfl) (by kernel_rfl) (fun _ _ _ h => absurd h.1 (by simp)) (yields_val (v := (.bool true)) rfl (fun _ => by go_simp)) (H.rd (s := p) (by repeat (first | exact Take.head | apply Take.tail)) int_len) ?_
        (try simp only [Act.put, List.setIfInBounds_toArray, List.set_cons_succ, List.set_cons_zero])
        refine takeH (i := 6) rfl (.there (.there (.there (.there (.there (.there .here)))))) (by kernel_rfl) (by kernel_rfl) (by kernel_rfl) (fun _ _ _ h => absurd h.1 (by simp)) (yields_val (v := (.bool true)) rfl (fun _ => by go_simp)) (H.rd (s := p) (by repeat (first | exact Take.head | apply Take.tail)) int_len) ?_
        (try simp only [Act.put, List.setIfInBounds_toArray, List.set_cons_succ, List.set_cons_zero])
        refine takeH (i := 7) rfl (.there (.there (.there (.there (.there (.there (.there .here))))))) (by kernel_rfl) (by kernel_rfl) (by kernel_rfl) (fun _ _ _ h => absurd h.1 (by simp)) (yields_val (v := (.bool false)) rfl (fun _ => by go_simp)) (H.rd (s := p) (by repeat (first | exact Take.head | apply Take.tail)) int_len) ?_
        (try simp only [Act.put, List.setIfInBounds_toArray, List.set_cons_succ, List.set_cons_zero])
        refine takeH (i := 8) rfl (.there (.there (.there (.there (.there (.there (.there (.there .here)))))))) (by kernel_rfl) (by kernel_rfl) (by kernel_rfl) (fun _ _ _ h => absurd h.1 (by simp)) (yields_val (v := (.bool true)) rfl (fun _ => by go_simp)) (H.rd (s := p) (by repeat (first | exact Take.head | apply Take.tail)) int_len) ?_
        (try simp only [Act.put, List.setIfInBounds_toArray, List.set_cons_succ, List.set_cons_zero])
        refine takeH (i := 9) rfl (.there (.there (.there (.there (.there (.there (.there (.there (.there .here))))))))) (by kernel_rfl) (by kernel_rfl) (by kernel_rfl) (fun _ _ _ h => absurd h.1 (by simp)) (yields_val (v := (.bool true)) rfl (fun _ => by go_simp)) (H.rd (s := p) (by repeat (first | exact Take.head | apply Take.tail)) int_len) ?_
        (try simp only [Act.put, List.setIfInBounds_toArray, List.set_cons_succ, List.set_cons_zero])
        refine takeH (i := 10) rfl (.there (.there (.there (.there (.there (.there (.there (.there (.there (.there .here)))))))))) (by kernel_rfl) (by kernel_rfl) (by kernel_rfl) (fun _ _ _ h => absurd h.1 (by simp)) (yields_val (v := (.bool true)) rfl (fun _ => by go_simp)) (H.rd (s := p) (by repeat (first | exact Take.head | apply Take.tail)) int_len) ?_
        (try simp only [Act.put, List.setIfInBounds_toArray, List.set_cons_succ, List.set_cons_zero])
        refine takeH (i := 11) rfl (.there (.there (.there (.there (.there (.there (.there (.there (.there (.there (.there .here))))))))))) (by kernel_rfl) (by kernel_rfl) (by kernel_rfl) (fun _ _ _ h => absurd h.1 (by simp)) (yields_val (v := (.int .i64 (x : Int))) rfl (fun _ => by go_simp)) (H.rd (s := p) (by repeat (first | exact Take.head | apply Take.tail)) int_len) ?_
        (try simp only [Act.put, List.setIfInBounds_toArray, List.set_cons_succ, List.set_cons_zero])
        refine takeH (i := 12) rfl (.there (.there (.there (.there (.there (.there (.there (.there (.there (.there (.there (.there .here)))))))))))) (by kernel_rfl) (by kernel_rfl) (by kernel_rfl) (fun _ _ _ h => absurd h.1 (by simp)) (yields_val (v := (.int .i64 (y : Int))) rfl (fun _ => by go_simp)) (H.rd (s := p) (by repeat (first | exact Take.head | apply Take.tail)) int_len) ?_
        (try simp only [Act.put, List.setIfInBounds_toArray, List.set_cons_succ, List.set_cons_zero])
        refine takeH (i := 13) rfl (.there (.there (.there (.there (.there (.there (.there (.there (.there (.there (.there (.there (.there .here))))))))))))) (by kernel_rfl) (by kernel_rfl) (by kernel_rfl) (fun _ _ _ h => absurd h.1 (by simp)) (yields_val (v := (.int .i64 (a : Int))) rfl (fun _ => by (first | (go_simp; done) | (go_simp; rw [HS.out]) | (rw [← HS.out]; go_simp) | (go_simp; omega)))) (H.rd (s := p) (by repeat (first | exact Take.head | apply Take.tail)) int_len) ?_
        (try simp only [Act.put, List.setIfInBounds_toArray, List.set_cons_succ, List.set_cons_zero])
        refine takeH (i := 14) rfl (.there (.there (.there (.there (.there (.there (.there (.there (.there (.there (.there (.there (.there (.there .here)))))))))))))) (by kernel_rfl) (by kernel_rfl) (by kernel_rfl) (fun _ _ _ h => absurd h.1 (by simp)) (yields_val (v := (.slice p.A p.xs.length p.c)) rfl (fun _ => by go_simp)) (H.rd (s := p) (by repeat (first | exact Take.head | apply Take.tail)) int_len) ?_
        (try simp only [Act.put, List.setIfInBounds_toArray, List.set_cons_succ, List.set_cons_zero])
        refine takeH (i := 15) rfl (.there (.there (.there (.there (.there (.there (.there (.there (.there (.there (.there (.there (.there (.there (.there .here))))))))))))))) (by kernel_rfl) (by kernel_rfl) (by kernel_rfl) (fun _ _ _ h => absurd h.1 (by simp)) (yields_index_nn rfl rfl (k := 1) p (fun _ hS => hS) rfl rfl rfl h1p) (H.rd (s := p) (by repeat (first | exact Take.head | apply Take.tail)) int_len) ?_
        (try simp only [Act.put, List.setIfInBounds_toArray, List.set_cons_succ, List.set_cons_zero])
        refine takeH (i := 16) rfl (.there (.there (.there (.there (.there (.there (.there (.there (.there (.there (.there (.there (.there (.there (.there (.there .here)))))))))))))))) (by kernel_rfl) (by kernel_rfl) (by kernel_rfl) (fun _ _ _ h => absurd h.1 (by simp)) (yields_load_rdd rfl rfl p (fun _ hS => hS) rfl p1 HP1.out (by first | exact rfl | exact (Nat.add_zero _).symm) rfl) (H.rd (s := p) (by repeat (first | exact Take.head | apply Take.tail)) int_len) ?_
        (try simp only [Act.put, List.setIfInBounds_toArray, List.set_cons_succ, List.set_cons_zero])
        refine takeH (i := 17) rfl (.there (.there (.there (.there (.there (.there (.there (.there (.there (.there (.there (.there (.there (.there (.there (.there (.there .here))))))))))))))))) (by kernel_rfl) (by kernel_rfl) (by kernel_rfl) (fun _ _ _ h => absurd h.1 (by simp)) (yields_val (v := (.int .i64 (a : Int))) rfl (fun _ => by (first | (go_simp; done) | (go_simp; rw [EA.out]) | (rw [← EA.out]; go_simp) | (go_simp; omega)))) (H.rd (s := p) (by repeat (first | exact Take.head | apply Take.tail)) int_len) ?_
        (try simp only [Act.put, List.setIfInBounds_toArray, List.set_cons_succ, List.set_cons_zero])
        refine takeH (i := 18) rfl (.there (.there (.there (.there (.there (.there (.there (.there (.there (.there (.there (.there (.there (.there (.there (.there (.there (.there .here)))))))))))))))))) (by kernel_rfl) (by kernel_rfl) (by kernel_rfl) (fun _ _ _ h => absurd h.1 (by simp)) (yields_val (v := (.bool true)) rfl (fun _ => by go_simp)) (H.rd (s := p) (by repeat (first | exact Take.head | apply Take.tail)) int_len) ?_
        (try simp only [Act.put, List.setIfInBounds_toArray, List.set_cons_succ, List.set_cons_zero])
        refine takeH (i := 19) rfl (.there (.there (.there (.there (.there (.there (.there (.there (.there (.there (.there (.there (.there (.there (.there (.there (.there (.there (.there .here))))))))))))))))))) (by kernel_rfl) (by kernel_rfl) (by kernel_rfl) (fun _ _ _ h => absurd h.1 (by simp)) (yields_val (v := (.bool true)) rfl (fun _ => by go_simp)) (H.rd (s := p) (by repeat (first | exact Take.head | apply Take.tail)) int_len) ?_
        (try simp only [Act.put, List.setIfInBounds_toArray, List.set_cons_succ, List.set_cons_zero])
        refine takeH (i := 20) rfl (.there (.there (.there (.there (.there (.there (.there (.there (.there (.there (.there (.there (.there (.there (.there (.there (.there (.there (.there (.there .here)))))))))))))))))))) (by kernel_rfl) (by kernel_rfl) (by kernel_rfl) (fun _ _ _ h => absurd h.1 (by simp)) (yields_val (v := (.bool true)) rfl (fun _ => by go_simp)) (H.rd (s := p) (by repeat (first | exact Take.head | apply Take.tail)) int_len) ?_
        (try simp only [Act.put, List.setIfInBounds_toArray, List.set_cons_succ, List.set_cons_zero])
        refine takeH (i := 21) rfl (.there (.there (.there (.there (.there (.there (.there (.there (.there (.there (.there (.there (.there (.there (.there (.there (.there (.there (.there (.there (.there .here))))))))))))))))))))) (by kernel_rfl) (by kernel_rfl) (by kernel_rfl) (fun _ _ _ h => absurd h.1 (by simp)) (yields_val (v := (.int .i64 (x : Int))) rfl (fun _ => by go_simp)) (H.rd (s := p) (by repeat (first | exact Take.head | apply Take.tail)) int_len) ?_
        (try simp only [Act.put, List.setIfInBounds_toArray, List.set_cons_succ, List.set_cons_zero])
        refine takeH (i := 23) rfl (.there (.there (.there (.there (.there (.there (.there (.there (.there (.there (.there (.there (.there (.there (.there (.there (.there (.there (.there (.there (.there (.there (.there .here))))))))))))))))))))))) (by kernel_rfl) (by kernel_rfl) (by kernel_rfl) (fun _ _ _ h => absurd h.1 (by simp)) (yields_val (v := (.int .i64 (y : Int))) rfl (fun _ => by go_simp)) (H.rd (s := p) (by repeat (first | exact Take.head | apply Take.tail)) int_len) ?_
        (try simp only [Act.put, List.setIfInBounds_toArray, List.set_cons_succ, List.set_cons_zero])
        refine takeH (i := 26) rfl (.there (.there (.there (.there (.there (.there (.there (.there (.there (.there (.there (.there (.there (.there (.there (.there (.there (.there (.there (.there (.there (.there (.there (.there (.there (.there .here)))))))))))))))))))))))))) (by kernel_rfl) (by kernel_rfl) (by kernel_rfl) (fun _ _ _ h => absurd h.1 (by simp)) (yields_val (v := (.slice p.A p.xs.length p.c)) rfl (fun _ => by go_simp)) (H.rd (s := p) (by repeat (first | exact Take.head | apply Take.tail)) int_len) ?_
        (try simp only [Act.put, List.setIfInBounds_toArray, List.set_cons_succ, List.set_cons_zero])
        refine takeH (i := 27) rfl (.there (.there (.there (.there (.there (.there (.there (.there (.there (.there (.there (.there (.there (.there (.there (.there (.there (.there (.there (.there (.there (.there (.there (.there (.there (.there (.there .here))))))))))))))))))))))))))) (by kernel_rfl) (by kernel_rfl) (by kernel_rfl) (fun _ _ _ h => absurd h.1 (by simp)) (yields_index_nn rfl rfl (k := 1) p (fun _ hS => hS) rfl rfl rfl h1p) (H.rd (s := p) (by repeat (first | exact Take.head | apply Take.tail)) int_len) ?_
        (try simp only [Act.put, List.setIfInBounds_toArray, List.set_cons_succ, List.set_cons_zero])
        refine takeH (i := 28) rfl (.there (.there (.there (.there (.there (.there (.there (.there (.there (.there (.there (.there (.there (.there (.there (.there (.there (.there (.there (.there (.there (.there (.there (.there (.there (.there (.there (.there .here)))))))))))))))))))))))))))) (by kernel_rfl) (by kernel_rfl) (by kernel_rfl) (fun _ _ _ h => absurd h.1 (by simp)) (yields_load_rdd rfl rfl p (fun _ hS => hS) rfl p1 HP1.out (by first | exact rfl | exact (Nat.add_zero _).symm) rfl) (H.rd (s := p) (by repeat (first | exact Take.head | apply Take.tail)) int_len) ?_
        (try simp only [Act.put, List.setIfInBounds_toArray, List.set_cons_succ, List.set_cons_zero])
        refine takeH (i := 29) rfl (.there (.there (.there (.there (.there (.there (.there (.there (.there (.there (.there (.there (.there (.there (.there (.there (.there (.there (.there (.there (.there (.there (.there (.there (.there (.there (.there (.there (.there .here))))))))))))))))))))))))))))) (by kernel_rfl) (by kernel_rfl) (by kernel_rfl) (fun _ _ _ h => absurd h.1 (by simp)) (yields_val (v := (.int .i64 (a : Int))) rfl (fun _ => by (first | (go_simp; done) | (go_simp; rw [EA.out]) | (rw [← EA.out]; go_simp) | (go_simp; omega)))) (H.rd (s := p) (by repeat (first | exact Take.head | apply Take.tail)) int_len) ?_
        (try simp only [Act.put, List.setIfInBounds_toArray, List.set_cons_succ, List.set_cons_zero])
        refine anyH_1 (i := 22) (by kernel_rfl) ?_
        refine wpOp_at rfl (.there (.there (.there (.there (.there (.there (.there (.there (.there (.there (.there (.there (.there (.there (.there (.there (.there (.there (.there (.there (.there (.there .here)))))))))))))))))))))) rfl ?_
        refine wp_call_H Try.f16 rfl rfl Try.func16 (by kernel_rfl) rfl rfl (val_H H ((irqCount_any (x : Int) _).mono fun _ _ ⟨he, hw⟩ => ⟨he, hw ▸ Hp.start _⟩)) ?_
        clear H
        rintro _ w ⟨rfl, H⟩
        refine ⟨(H.rd (s := p) (by repeat (first | exact Take.head | apply Take.tail)) int_len), ?_⟩
        (try simp only [Act.put, List.setIfInBounds_toArray, List.set_cons_succ, List.set_cons_zero])
        refine anyH_1 (i := 24) (by kernel_rfl) ?_
        refine wpOp_at rfl (.there (.there (.there (.there (.there (.there (.there (.there (.there (.there (.there (.there (.there (.there (.there (.there (.there (.there (.there (.there (.there (.there (.there (.there .here)))))))))))))))))))))))) rfl ?_
        refine wp_call_H Try.f16 rfl rfl Try.func16 (by kernel_rfl) rfl rfl (val_H H ((irqCount_any (y : Int) _).mono fun _ _ ⟨he, hw⟩ => ⟨he, hw ▸ Hp.start _⟩)) ?_
        clear H
        rintro _ w ⟨rfl, H⟩
        refine ⟨(H.rd (s := p) (by repeat (first | exact Take.head | apply Take.tail)) int_len), ?_⟩
        (try simp only [Act.put, List.setIfInBounds_toArray, List.set_cons_succ, List.set_cons_zero])
        refine takeH (i := 25) rfl (.there (.there (.there (.there (.there (.there (.there (.there (.there (.there (.there (.there (.there (.there (.there (.there (.there (.there (.there (.there (.there (.there (.there (.there (.there .here))))))))))))))))))))))))) (by kernel_rfl) (by kernel_rfl) (by kernel_rfl) (fun _ _ _ h => absurd h.1 (by simp)) (yields_val (v := (.int .i64 (cntI (a : Int)))) rfl (fun _ => by (first | (go_simp; done) | (go_simp; rw [HC.out]) | (rw [← HC.out]; go_simp) | (go_simp; omega)))) (H.rd (s := p) (by repeat (first | exact Take.head | apply Take.tail)) int_len) ?_
        (try simp only [Act.put, List.setIfInBounds_toArray, List.set_cons_succ, List.set_cons_zero])
        refine anyH_1 (i := 30) (by kernel_rfl) ?_
        refine wpOp_at rfl (.there (.there (.there (.there (.there (.there (.there (.there (.there (.there (.there (.there (.there (.there (.there (.there (.there (.there (.there (.there (.there (.there (.there (.there (.there (.there (.there (.there (.there (.there .here)))))))))))))))))))))))))))))) rfl ?_
        refine wp_call_H Try.f16 rfl rfl Try.func16 (by kernel_rfl) rfl rfl (val_H H ((irqCount_any (a : Int) _).mono fun _ _ ⟨he, hw⟩ => ⟨he, hw ▸ Hp.start _⟩)) ?_
        clear H
        rintro _ w ⟨rfl, H⟩
        refine ⟨(H.rd (s := p) (by repeat (first | exact Take.head | apply Take.tail)) int_len), ?_⟩
        (try simp only [Act.put, List.setIfInBounds_toArray, List.set_cons_succ, List.set_cons_zero])
        refine takeH (i := 31) rfl (.there (.there (.there (.there (.there (.there (.there (.there (.there (.there (.there (.there (.there (.there (.there (.there (.there (.there (.there (.there (.there (.there (.there (.there (.there (.there (.there (.there (.there (.there (.there .here))))))))))))))))))))))))))))))) (by kernel_rfl) (by kernel_rfl) (by kernel_rfl) (fun _ _ _ h => absurd h.1 (by simp)) (yields_val (v := (.bool true)) rfl (fun _ => by go_simp)) (H.rd (s := p) (by repeat (first | exact Take.head | apply Take.tail)) int_len) ?_
        (try simp only [Act.put, List.setIfInBounds_toArray, List.set_cons_succ, List.set_cons_zero])
        refine takeH (i := 32) rfl (.there (.there (.there (.there (.there (.there (.there (.there (.there (.there (.there (.there (.there (.there (.there (.there (.there (.there (.there (.there (.there (.there (.there (.there (.there (.there (.there (.there (.there (.there (.there (.there .here)))))))))))))))))))))))))))))))) (by kernel_rfl) (by kernel_rfl) (by kernel_rfl) (fun _ _ _ h => absurd h.1 (by simp)) (yields_val (v := (.bool true)) rfl (fun _ => by go_simp)) (H.rd (s := p) (by repeat (first | exact Take.head | apply Take.tail)) int_len) ?_
        (try simp only [Act.put, List.setIfInBounds_toArray, List.set_cons_succ, List.set_cons_zero])
        refine takeH (i := 33) rfl (.there (.there (.there (.there (.there (.there (.there (.there (.there (.there (.there (.there (.there (.there (.there (.there (.there (.there (.there (.there (.there (.there (.there (.there (.there (.there (.there (.there (.there (.there (.there (.there (.there .here))))))))))))))))))))))))))))))))) (by kernel_rfl) (by kernel_rfl) (by kernel_rfl) (fun _ _ _ h => absurd h.1 (by simp)) (yields_val (v := (.bool true)) rfl (fun _ => by go_simp)) (H.rd (s := p) (by repeat (first | exact Take.head | apply Take.tail)) int_len) ?_
        (try simp only [Act.put, List.setIfInBounds_toArray, List.set_cons_succ, List.set_cons_zero])
        refine wpAnyH_done (by kernel_rfl) ?_ _
        exact ⟨rfl, (), H.pick (.cons (by repeat (first | exact Take.head | apply Take.tail)) .nil), by first | (simp only [puts_cons, puts_nil, Act.put, List.setIfInBounds_toArray, List.set_cons_succ, List.set_cons_zero]; done) | (simp only [puts_cons, puts_nil, Act.put, List.setIfInBounds_toArray, List.set_cons_succ, List.set_cons_zero]; rfl)⟩
      clear H
      rintro u w ⟨_, H, rfl⟩
      simp only [puts_cons, puts_nil, Act.put, List.setIfInBounds_toArray, List.set_cons_succ, List.set_cons_zero]
      go_wp2
      go_ret
      exact ⟨rfl, H.below⟩
end Go.Proofs.Ytedjbholpdinkaa
