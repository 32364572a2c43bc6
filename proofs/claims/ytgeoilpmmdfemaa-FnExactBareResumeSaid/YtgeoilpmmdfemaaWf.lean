/- Walks of the exact laws FnExactWithGuest. No condition but that the arguments lie in memory. -/
import Derived.Test.YtgeoilpmmdfemaaBh
import Derived.Test.YtgeoilpmmdfemaaBp
import Derived.Test.YtgeoilpmmdfemaaBm
namespace Go.Proofs.Ytgeoilpmmdfemaa
set_option linter.unusedSimpArgs false
set_option linter.unusedVariables false
open Go.RowKit
attribute [local go_sem ↓] Go.wp_at_zero Go.wp_at_succ
theorem withGuestM_size (m : MB) (g : Int) (x : MG) : (withGuestM m g x).size ≤ m.size + x.size := by
  unfold withGuestM; split
  · have h : ∀ (l : List MG) (k : Nat), ((l.set k x).map MG.size).sum ≤ (l.map MG.size).sum + x.size := by
      intro l
      induction l with
      | nil => intro k; simp
      | cons y l ih => intro k; cases k with
        | zero => simp; omega
        | succ k => have := ih k; simp only [List.set_cons_succ, List.map_cons, List.sum_cons]; omega
    have h1 := h m.guests g.toNat
    unfold MB.size gsSize
    simp only [List.length_set]
    omega
  · omega
theorem markG2_H (g : GV) (k : Int) {w0 w : World} {L L' : List En} (H : Hp w0 w L) (t : Take L (.gst g) L') (hz : GBig g) (h0 : 0 ≤ k) (h1 : k ≤ 10000000000) : Calls Try.prog 42 #[g.val, .int .i64 k] w fun e w' => e = .returned (.int .i64 (g.markEnd k)) ∧ Hp w0 w' (.gst (g.marked k) :: L') :=
  (markGuest_any g 0 k w ((H.gown t).mono (Nat.zero_le _)) hz h0 (by omega)).mono fun _ _ ⟨he, ho, ht⟩ => ⟨he, H.swap t ht ho rfl⟩
theorem markEnd_pos2 (g : GV) (k : Int) (h : 0 ≤ k) : 0 ≤ g.markEnd k := by unfold GV.markEnd; omega
theorem markB_le {B : BV} (Z : BBig B) : B.markEnd 1 ≤ 10000000000 := by
  have h1 := Z.sums.1; have h2 := Z.sums.2; have h3 := Z.outs
  unfold BV.markEnd BV.k2 BV.k1; omega
set_option linter.unusedSimpArgs false in
set_option linter.unusedVariables false in
set_option maxRecDepth 100000 in
set_option maxHeartbeats 8000000 in
theorem walk_fnExactWithGuest (A : BV) (g : Int) (X : GV) (W0 : World) (ra : BRd W0 A ∧ BWide A) (rx : GRd W0 X ∧ GWide X) : Calls Try.prog 12 #[A.val, .int .i64 g, X.val] W0 fun e w' => e = .returned (.bool true) ∧ Below W0.heap.size W0 w' := by
  obtain ⟨R, Wd⟩ := ra
  obtain ⟨RX, WX⟩ := rx
  have H := Hp.start W0
  obtain ⟨l1, hl1⟩ : ∃ l1 : Int, l1 = szM 1048576 A.m.size := ⟨_, rfl⟩
  have E1 : Hid (szM 1048576 A.m.size = l1) := hl1.symm
  have q1 : l1 ≤ 1048576 := by rw [hl1]; unfold szM; split <;> omega
  have hl1n : 0 ≤ l1 → A.m.size ≤ 1048576 := by rw [hl1]; unfold szM; intro h; split at h <;> omega
  clear hl1
  by_cases hneg : l1 < 0
  · go_enter Try.func12, Try.ntmps12
    go_wp2_with (first
      | go_skip
      | ((with_reducible refine at_box ?_); first | (refine wpList_box_H (cs := (barr A).toList) rfl rfl H rfl CellsOf.agg ?_; clear H; intro bA w H) | (refine wpList_box_H (cs := (garr X).toList) rfl rfl H rfl CellsOf.agg ?_; clear H; intro bY w H) | (refine wpList_box_H rfl rfl H rfl (by first | exact CellsOf.agg | exact CellsOf.int | exact CellsOf.bool | exact CellsOf.slice | exact CellsOf.string | exact CellsOf.pointer | exact CellsOf.func) ?_; clear H; intro bQ w H))
      | ((with_reducible refine at_alloc ?_); first | (refine wpList_alloc_H rfl rfl H ?_; clear H; intro b w H))
      | ((with_reducible refine at_load ?_); first | (refine wpList_load_H rfl rfl H rfl (by repeat (first | exact LoadAt.here rfl | apply LoadAt.there)) ?_) | (refine wpList_loads_H rfl rfl H rfl (by repeat (first | (apply LoadsAt.here; repeat (first | exact GetsAt.nil | apply GetsAt.here | apply GetsAt.there)) | apply LoadsAt.there)) ?_))
      | ((with_reducible refine at_store ?_); first | (refine wpList_store_H rfl rfl H rfl rfl (by repeat (first | (apply StoreAt.here; (first | exact CellsOf.agg | exact CellsOf.int | exact CellsOf.bool | exact CellsOf.slice | exact CellsOf.string | exact CellsOf.pointer | exact CellsOf.func); (repeat (first | exact SetsAt.nil | apply SetsAt.here | apply SetsAt.there)); exact rfl; exact rfl) | apply StoreAt.there)) ?_; clear H; intro w H)))
    go_at_call 21
    refine (szB_H A H R Wd).mono ?_
    clear H
    rintro e w ⟨he, H⟩
    rw [E1.out] at he
    subst he
    go_wp2_with (first
      | go_skip
      | ((with_reducible refine at_box ?_); first | (refine wpList_box_H (cs := (barr A).toList) rfl rfl H rfl CellsOf.agg ?_; clear H; intro bA w H) | (refine wpList_box_H (cs := (garr X).toList) rfl rfl H rfl CellsOf.agg ?_; clear H; intro bY w H) | (refine wpList_box_H rfl rfl H rfl (by first | exact CellsOf.agg | exact CellsOf.int | exact CellsOf.bool | exact CellsOf.slice | exact CellsOf.string | exact CellsOf.pointer | exact CellsOf.func) ?_; clear H; intro bQ w H))
      | ((with_reducible refine at_alloc ?_); first | (refine wpList_alloc_H rfl rfl H ?_; clear H; intro b w H))
      | ((with_reducible refine at_load ?_); first | (refine wpList_load_H rfl rfl H rfl (by repeat (first | exact LoadAt.here rfl | apply LoadAt.there)) ?_) | (refine wpList_loads_H rfl rfl H rfl (by repeat (first | (apply LoadsAt.here; repeat (first | exact GetsAt.nil | apply GetsAt.here | apply GetsAt.there)) | apply LoadsAt.there)) ?_))
      | ((with_reducible refine at_store ?_); first | (refine wpList_store_H rfl rfl H rfl rfl (by repeat (first | (apply StoreAt.here; (first | exact CellsOf.agg | exact CellsOf.int | exact CellsOf.bool | exact CellsOf.slice | exact CellsOf.string | exact CellsOf.pointer | exact CellsOf.func); (repeat (first | exact SetsAt.nil | apply SetsAt.here | apply SetsAt.there)); exact rfl; exact rfl) | apply StoreAt.there)) ?_; clear H; intro w H)))
    go_ret
    exact ⟨rfl, H.below⟩
  have p1 : 0 ≤ l1 := by omega
  have hsz := hl1n p1
  clear hl1n hneg
  have Z : BBig A := by unfold BBig; omega
  by_cases hneg : szG l1 X.m < 0
  · go_enter Try.func12, Try.ntmps12
    go_wp2_with (first
      | go_skip
      | ((with_reducible refine at_box ?_); first | (refine wpList_box_H (cs := (barr A).toList) rfl rfl H rfl CellsOf.agg ?_; clear H; intro bA w H) | (refine wpList_box_H (cs := (garr X).toList) rfl rfl H rfl CellsOf.agg ?_; clear H; intro bY w H) | (refine wpList_box_H rfl rfl H rfl (by first | exact CellsOf.agg | exact CellsOf.int | exact CellsOf.bool | exact CellsOf.slice | exact CellsOf.string | exact CellsOf.pointer | exact CellsOf.func) ?_; clear H; intro bQ w H))
      | ((with_reducible refine at_alloc ?_); first | (refine wpList_alloc_H rfl rfl H ?_; clear H; intro b w H))
      | ((with_reducible refine at_load ?_); first | (refine wpList_load_H rfl rfl H rfl (by repeat (first | exact LoadAt.here rfl | apply LoadAt.there)) ?_) | (refine wpList_loads_H rfl rfl H rfl (by repeat (first | (apply LoadsAt.here; repeat (first | exact GetsAt.nil | apply GetsAt.here | apply GetsAt.there)) | apply LoadsAt.there)) ?_))
      | ((with_reducible refine at_store ?_); first | (refine wpList_store_H rfl rfl H rfl rfl (by repeat (first | (apply StoreAt.here; (first | exact CellsOf.agg | exact CellsOf.int | exact CellsOf.bool | exact CellsOf.slice | exact CellsOf.string | exact CellsOf.pointer | exact CellsOf.func); (repeat (first | exact SetsAt.nil | apply SetsAt.here | apply SetsAt.there)); exact rfl; exact rfl) | apply StoreAt.there)) ?_; clear H; intro w H)))
    go_at_call 21
    refine (szB_H A H R Wd).mono ?_
    clear H
    rintro e w ⟨he, H⟩
    rw [E1.out] at he
    subst he
    go_wp2_with (first
      | go_skip
      | ((with_reducible refine at_box ?_); first | (refine wpList_box_H (cs := (barr A).toList) rfl rfl H rfl CellsOf.agg ?_; clear H; intro bA w H) | (refine wpList_box_H (cs := (garr X).toList) rfl rfl H rfl CellsOf.agg ?_; clear H; intro bY w H) | (refine wpList_box_H rfl rfl H rfl (by first | exact CellsOf.agg | exact CellsOf.int | exact CellsOf.bool | exact CellsOf.slice | exact CellsOf.string | exact CellsOf.pointer | exact CellsOf.func) ?_; clear H; intro bQ w H))
      | ((with_reducible refine at_alloc ?_); first | (refine wpList_alloc_H rfl rfl H ?_; clear H; intro b w H))
      | ((with_reducible refine at_load ?_); first | (refine wpList_load_H rfl rfl H rfl (by repeat (first | exact LoadAt.here rfl | apply LoadAt.there)) ?_) | (refine wpList_loads_H rfl rfl H rfl (by repeat (first | (apply LoadsAt.here; repeat (first | exact GetsAt.nil | apply GetsAt.here | apply GetsAt.there)) | apply LoadsAt.there)) ?_))
      | ((with_reducible refine at_store ?_); first | (refine wpList_store_H rfl rfl H rfl rfl (by repeat (first | (apply StoreAt.here; (first | exact CellsOf.agg | exact CellsOf.int | exact CellsOf.bool | exact CellsOf.slice | exact CellsOf.string | exact CellsOf.pointer | exact CellsOf.func); (repeat (first | exact SetsAt.nil | apply SetsAt.here | apply SetsAt.there)); exact rfl; exact rfl) | apply StoreAt.there)) ?_; clear H; intro w H)))
    go_at_call 55
    refine (szGuest_any X l1 _ WX p1 q1).mono ?_
    rintro e w ⟨rfl, hb⟩
    replace H := H.still hb
    clear hb
    go_wp2_with (first
      | go_skip
      | ((with_reducible refine at_box ?_); first | (refine wpList_box_H (cs := (barr A).toList) rfl rfl H rfl CellsOf.agg ?_; clear H; intro bA w H) | (refine wpList_box_H (cs := (garr X).toList) rfl rfl H rfl CellsOf.agg ?_; clear H; intro bY w H) | (refine wpList_box_H rfl rfl H rfl (by first | exact CellsOf.agg | exact CellsOf.int | exact CellsOf.bool | exact CellsOf.slice | exact CellsOf.string | exact CellsOf.pointer | exact CellsOf.func) ?_; clear H; intro bQ w H))
      | ((with_reducible refine at_alloc ?_); first | (refine wpList_alloc_H rfl rfl H ?_; clear H; intro b w H))
      | ((with_reducible refine at_load ?_); first | (refine wpList_load_H rfl rfl H rfl (by repeat (first | exact LoadAt.here rfl | apply LoadAt.there)) ?_) | (refine wpList_loads_H rfl rfl H rfl (by repeat (first | (apply LoadsAt.here; repeat (first | exact GetsAt.nil | apply GetsAt.here | apply GetsAt.there)) | apply LoadsAt.there)) ?_))
      | ((with_reducible refine at_store ?_); first | (refine wpList_store_H rfl rfl H rfl rfl (by repeat (first | (apply StoreAt.here; (first | exact CellsOf.agg | exact CellsOf.int | exact CellsOf.bool | exact CellsOf.slice | exact CellsOf.string | exact CellsOf.pointer | exact CellsOf.func); (repeat (first | exact SetsAt.nil | apply SetsAt.here | apply SetsAt.there)); exact rfl; exact rfl) | apply StoreAt.there)) ?_; clear H; intro w H)))
    go_ret
    exact ⟨rfl, H.below⟩
  have hfit := szG_fit l1 X.m hneg
  have hpos : 0 ≤ szG l1 X.m := by omega
  have ZX : GBig X := by unfold GBig big; simp only [GV.m] at hfit; omega
  have sX : X.m.size ≤ 1048576 := by unfold MG.size; omega
  obtain ⟨m, hm⟩ : ∃ m, m = withGuestM A.m g X.m := ⟨_, rfl⟩
  have MB : m.size ≤ 4194304 := by rw [hm]; exact Nat.le_trans (withGuestM_size _ _ _) (by omega)
  have HM := Lib.hid hm; clear hm
  clear hfit sX
  go_enter Try.func12, Try.ntmps12
  go_wp2_with (first
    | go_skip
    | ((with_reducible refine at_box ?_); first | (refine wpList_box_H (cs := (barr A).toList) rfl rfl H rfl CellsOf.agg ?_; clear H; intro bA w H) | (refine wpList_box_H (cs := (garr X).toList) rfl rfl H rfl CellsOf.agg ?_; clear H; intro bY w H) | (refine wpList_box_H rfl rfl H rfl (by first | exact CellsOf.agg | exact CellsOf.int | exact CellsOf.bool | exact CellsOf.slice | exact CellsOf.string | exact CellsOf.pointer | exact CellsOf.func) ?_; clear H; intro bQ w H))
    | ((with_reducible refine at_alloc ?_); first | (refine wpList_alloc_H rfl rfl H ?_; clear H; intro b w H))
    | ((with_reducible refine at_load ?_); first | (refine wpList_load_H rfl rfl H rfl (by repeat (first | exact LoadAt.here rfl | apply LoadAt.there)) ?_) | (refine wpList_loads_H rfl rfl H rfl (by repeat (first | (apply LoadsAt.here; repeat (first | exact GetsAt.nil | apply GetsAt.here | apply GetsAt.there)) | apply LoadsAt.there)) ?_))
    | ((with_reducible refine at_store ?_); first | (refine wpList_store_H rfl rfl H rfl rfl (by repeat (first | (apply StoreAt.here; (first | exact CellsOf.agg | exact CellsOf.int | exact CellsOf.bool | exact CellsOf.slice | exact CellsOf.string | exact CellsOf.pointer | exact CellsOf.func); (repeat (first | exact SetsAt.nil | apply SetsAt.here | apply SetsAt.there)); exact rfl; exact rfl) | apply StoreAt.there)) ?_; clear H; intro w H)))
  go_at_call 21
  refine (szB_H A H R Wd).mono ?_
  clear H
  rintro e w ⟨he, H⟩
  rw [E1.out] at he
  subst he
  go_wp2_with (first
    | go_skip
    | ((with_reducible refine at_box ?_); first | (refine wpList_box_H (cs := (barr A).toList) rfl rfl H rfl CellsOf.agg ?_; clear H; intro bA w H) | (refine wpList_box_H (cs := (garr X).toList) rfl rfl H rfl CellsOf.agg ?_; clear H; intro bY w H) | (refine wpList_box_H rfl rfl H rfl (by first | exact CellsOf.agg | exact CellsOf.int | exact CellsOf.bool | exact CellsOf.slice | exact CellsOf.string | exact CellsOf.pointer | exact CellsOf.func) ?_; clear H; intro bQ w H))
    | ((with_reducible refine at_alloc ?_); first | (refine wpList_alloc_H rfl rfl H ?_; clear H; intro b w H))
    | ((with_reducible refine at_load ?_); first | (refine wpList_load_H rfl rfl H rfl (by repeat (first | exact LoadAt.here rfl | apply LoadAt.there)) ?_) | (refine wpList_loads_H rfl rfl H rfl (by repeat (first | (apply LoadsAt.here; repeat (first | exact GetsAt.nil | apply GetsAt.here | apply GetsAt.there)) | apply LoadsAt.there)) ?_))
    | ((with_reducible refine at_store ?_); first | (refine wpList_store_H rfl rfl H rfl rfl (by repeat (first | (apply StoreAt.here; (first | exact CellsOf.agg | exact CellsOf.int | exact CellsOf.bool | exact CellsOf.slice | exact CellsOf.string | exact CellsOf.pointer | exact CellsOf.func); (repeat (first | exact SetsAt.nil | apply SetsAt.here | apply SetsAt.there)); exact rfl; exact rfl) | apply StoreAt.there)) ?_; clear H; intro w H)))
  go_at_call 55
  refine (szGuest_any X l1 _ WX p1 q1).mono ?_
  rintro e w ⟨rfl, hb⟩
  replace H := H.still hb
  clear hb
  go_wp2_with (first
    | go_skip
    | ((with_reducible refine at_box ?_); first | (refine wpList_box_H (cs := (barr A).toList) rfl rfl H rfl CellsOf.agg ?_; clear H; intro bA w H) | (refine wpList_box_H (cs := (garr X).toList) rfl rfl H rfl CellsOf.agg ?_; clear H; intro bY w H) | (refine wpList_box_H rfl rfl H rfl (by first | exact CellsOf.agg | exact CellsOf.int | exact CellsOf.bool | exact CellsOf.slice | exact CellsOf.string | exact CellsOf.pointer | exact CellsOf.func) ?_; clear H; intro bQ w H))
    | ((with_reducible refine at_alloc ?_); first | (refine wpList_alloc_H rfl rfl H ?_; clear H; intro b w H))
    | ((with_reducible refine at_load ?_); first | (refine wpList_load_H rfl rfl H rfl (by repeat (first | exact LoadAt.here rfl | apply LoadAt.there)) ?_) | (refine wpList_loads_H rfl rfl H rfl (by repeat (first | (apply LoadsAt.here; repeat (first | exact GetsAt.nil | apply GetsAt.here | apply GetsAt.there)) | apply LoadsAt.there)) ?_))
    | ((with_reducible refine at_store ?_); first | (refine wpList_store_H rfl rfl H rfl rfl (by repeat (first | (apply StoreAt.here; (first | exact CellsOf.agg | exact CellsOf.int | exact CellsOf.bool | exact CellsOf.slice | exact CellsOf.string | exact CellsOf.pointer | exact CellsOf.func); (repeat (first | exact SetsAt.nil | apply SetsAt.here | apply SetsAt.there)); exact rfl; exact rfl) | apply StoreAt.there)) ?_; clear H; intro w H)))
  clear hneg hpos
  refine wp_cut (fun u a' w' => ∃ (d0 : BV) (c0 : GV) (s0 : BV) (bW : Nat), Hid (s0.m = m) ∧ Hp W0 w' [.box bW 33 (barr s0).toList, .bare s0, .box bY 70 (garr X).toList, .box bA 26 (barr A).toList] ∧ a' = puts u [(26, A.val), (27, d0.val), (28, (.int .i64 g)), (29, X.val), (30, c0.val), (31, s0.val), (8, .pointer (some ⟨bW, 0, none⟩))]) ?_ ?_
  · refine wp_region_held (S := (fun w' => Rw w' bA 26 (barr A) ∧ Rw w' bY 70 (garr X))) (by kernel_rfl) ?_
    replace H := H.drew
    refine takeH (i := 0) rfl .here (by kernel_rfl) (by kernel_rfl) (by kernel_rfl) (fun _ _ _ h => absurd h.1 (by simp)) (yields_loads_R rfl rfl rfl (fun _ hS => hS.1) (by repeat (first | exact GetsAt.nil | apply GetsAt.here | apply GetsAt.there))) ⟨H.rw_ (by repeat (first | exact Take.head | apply Take.tail)), H.rw_ (by repeat (first | exact Take.head | apply Take.tail))⟩ ?_
    (try simp only [Act.put, List.setIfInBounds_toArray, List.set_cons_succ, List.set_cons_zero])
    refine takeH (i := 2) rfl (.there (.there .here)) (by kernel_rfl) (by kernel_rfl) (by kernel_rfl) (fun _ _ _ h => absurd h.1 (by simp)) (yields_val (v := (.int .i64 g)) rfl (fun _ => by go_simp)) ⟨H.rw_ (by repeat (first | exact Take.head | apply Take.tail)), H.rw_ (by repeat (first | exact Take.head | apply Take.tail))⟩ ?_
    (try simp only [Act.put, List.setIfInBounds_toArray, List.set_cons_succ, List.set_cons_zero])
    refine takeH (i := 3) rfl (.there (.there (.there .here))) (by kernel_rfl) (by kernel_rfl) (by kernel_rfl) (fun _ _ _ h => absurd h.1 (by simp)) (yields_loads_R rfl rfl rfl (fun _ hS => hS.2) (by repeat (first | exact GetsAt.nil | apply GetsAt.here | apply GetsAt.there))) ⟨H.rw_ (by repeat (first | exact Take.head | apply Take.tail)), H.rw_ (by repeat (first | exact Take.head | apply Take.tail))⟩ ?_
    (try simp only [Act.put, List.setIfInBounds_toArray, List.set_cons_succ, List.set_cons_zero])
    refine anyH_2 (i := 1) (j := 6) (by kernel_rfl) ?_ ?_
    · refine wpOp_at rfl (.there .here) rfl ?_
      refine wp_call_H Try.f23 rfl rfl Try.func23 (by kernel_rfl) rfl rfl (calls_ex (toB_H A H R Z)) ?_
      clear H
      rintro _ w ⟨d0, rfl, Hd0, H⟩
      have Zd0 := bbig_m Z Hd0
      refine ⟨⟨H.rw_ (by repeat (first | exact Take.head | apply Take.tail)), H.rw_ (by repeat (first | exact Take.head | apply Take.tail))⟩, ?_⟩
      (try simp only [Act.put, List.setIfInBounds_toArray, List.set_cons_succ, List.set_cons_zero])
      refine anyH_2 (i := 4) (j := 6) (by kernel_rfl) ?_ ?_
      · refine wpOp_at rfl (.there (.there (.there (.there .here)))) rfl ?_
        refine wp_call_H Try.f57 rfl rfl Try.func57 (by kernel_rfl) rfl rfl (calls_ex (toG_H X H RX ZX)) ?_
        clear H
        rintro _ w ⟨c0, rfl, Hc0, H⟩
        have Zc0 := gbig_m ZX Hc0
        refine ⟨⟨H.rw_ (by repeat (first | exact Take.head | apply Take.tail)), H.rw_ (by repeat (first | exact Take.head | apply Take.tail))⟩, ?_⟩
        (try simp only [Act.put, List.setIfInBounds_toArray, List.set_cons_succ, List.set_cons_zero])
        refine anyH_2 (i := 5) (j := 6) (by kernel_rfl) ?_ ?_
        · refine wpOp_at rfl (.there (.there (.there (.there (.there .here))))) rfl ?_
          refine wp_call_H Try.f56 rfl rfl Try.func56 (by kernel_rfl) rfl rfl (made_H H (specWithGuest_c d0 g c0 _ (H.brd (by repeat (first | exact Take.head | apply Take.tail))) Zd0 (H.grd1 (by repeat (first | exact Take.head | apply Take.tail))) Zc0)) ?_
          clear H
          rintro _ w ⟨s0, rfl, Hs0, H⟩
          refine ⟨⟨H.rw_ (by repeat (first | exact Take.head | apply Take.tail)), H.rw_ (by repeat (first | exact Take.head | apply Take.tail))⟩, ?_⟩
          (try simp only [Act.put, List.setIfInBounds_toArray, List.set_cons_succ, List.set_cons_zero])
          refine anyH_1 (i := 6) (by kernel_rfl) ?_
          refine wpOp_at rfl (.there (.there (.there (.there (.there (.there .here)))))) rfl ?_
          refine wp_alloc_H rfl H ?_
          clear H
          intro bW w H
          refine ⟨⟨H.rw_ (by repeat (first | exact Take.head | apply Take.tail)), H.rw_ (by repeat (first | exact Take.head | apply Take.tail))⟩, ?_⟩
          (try simp only [Act.put, List.setIfInBounds_toArray, List.set_cons_succ, List.set_cons_zero])
          refine anyH_1 (i := 7) (by kernel_rfl) ?_
          refine wpOp_at rfl (.there (.there (.there (.there (.there (.there (.there .here))))))) rfl ?_
          refine wp_store_H rfl H rfl rfl (by repeat (first | (apply StoreAt.here; (first | exact CellsOf.agg | exact CellsOf.int | exact CellsOf.bool | exact CellsOf.slice | exact CellsOf.string | exact CellsOf.pointer | exact CellsOf.func); (repeat (first | exact SetsAt.nil | apply SetsAt.here | apply SetsAt.there)); exact rfl; exact rfl) | apply StoreAt.there)) ?_
          clear H
          intro w H
          refine ⟨⟨H.rw_ (by repeat (first | exact Take.head | apply Take.tail)), H.rw_ (by repeat (first | exact Take.head | apply Take.tail))⟩, ?_⟩
          (try simp only [Act.put, List.setIfInBounds_toArray, List.set_cons_succ, List.set_cons_zero])
          refine wpAnyH_done (by kernel_rfl) ?_ _
          exact ⟨rfl, d0, c0, s0, bW, (by show _ = _; rw [Hs0.out, Hd0.out, Hc0.out]; exact HM.out.symm), H.pick (.cons (by repeat (first | exact Take.head | apply Take.tail)) (.cons (by repeat (first | exact Take.head | apply Take.tail)) (.cons (by repeat (first | exact Take.head | apply Take.tail)) (.cons (by repeat (first | exact Take.head | apply Take.tail)) .nil)))), by first | (simp only [puts_cons, puts_nil, Act.put, List.setIfInBounds_toArray, List.set_cons_succ, List.set_cons_zero]; done) | (simp only [puts_cons, puts_nil, Act.put, List.setIfInBounds_toArray, List.set_cons_succ, List.set_cons_zero]; rfl)⟩
        · refine wpOp_at rfl (.there (.there (.there (.there (.there (.there .here)))))) rfl ?_
          refine wp_alloc_H rfl H ?_
          clear H
          intro bW w H
          refine ⟨⟨H.rw_ (by repeat (first | exact Take.head | apply Take.tail)), H.rw_ (by repeat (first | exact Take.head | apply Take.tail))⟩, ?_⟩
          (try simp only [Act.put, List.setIfInBounds_toArray, List.set_cons_succ, List.set_cons_zero])
          refine anyH_1 (i := 5) (by kernel_rfl) ?_
          refine wpOp_at rfl (.there (.there (.there (.there (.there .here))))) rfl ?_
          refine wp_call_H Try.f56 rfl rfl Try.func56 (by kernel_rfl) rfl rfl (made_H H (specWithGuest_c d0 g c0 _ (H.brd (by repeat (first | exact Take.head | apply Take.tail))) Zd0 (H.grd1 (by repeat (first | exact Take.head | apply Take.tail))) Zc0)) ?_
          clear H
          rintro _ w ⟨s0, rfl, Hs0, H⟩
          refine ⟨⟨H.rw_ (by repeat (first | exact Take.head | apply Take.tail)), H.rw_ (by repeat (first | exact Take.head | apply Take.tail))⟩, ?_⟩
          (try simp only [Act.put, List.setIfInBounds_toArray, List.set_cons_succ, List.set_cons_zero])
          refine anyH_1 (i := 7) (by kernel_rfl) ?_
          refine wpOp_at rfl (.there (.there (.there (.there (.there (.there (.there .here))))))) rfl ?_
          refine wp_store_H rfl H rfl rfl (by repeat (first | (apply StoreAt.here; (first | exact CellsOf.agg | exact CellsOf.int | exact CellsOf.bool | exact CellsOf.slice | exact CellsOf.string | exact CellsOf.pointer | exact CellsOf.func); (repeat (first | exact SetsAt.nil | apply SetsAt.here | apply SetsAt.there)); exact rfl; exact rfl) | apply StoreAt.there)) ?_
          clear H
          intro w H
          refine ⟨⟨H.rw_ (by repeat (first | exact Take.head | apply Take.tail)), H.rw_ (by repeat (first | exact Take.head | apply Take.tail))⟩, ?_⟩
          (try simp only [Act.put, List.setIfInBounds_toArray, List.set_cons_succ, List.set_cons_zero])
          refine wpAnyH_done (by kernel_rfl) ?_ _
          exact ⟨rfl, d0, c0, s0, bW, (by show _ = _; rw [Hs0.out, Hd0.out, Hc0.out]; exact HM.out.symm), H.pick (.cons (by repeat (first | exact Take.head | apply Take.tail)) (.cons (by repeat (first | exact Take.head | apply Take.tail)) (.cons (by repeat (first | exact Take.head | apply Take.tail)) (.cons (by repeat (first | exact Take.head | apply Take.tail)) .nil)))), by first | (simp only [puts_cons, puts_nil, Act.put, List.setIfInBounds_toArray, List.set_cons_succ, List.set_cons_zero]; done) | (simp only [puts_cons, puts_nil, Act.put, List.setIfInBounds_toArray, List.set_cons_succ, List.set_cons_zero]; rfl)⟩
      · refine wpOp_at rfl (.there (.there (.there (.there (.there (.there .here)))))) rfl ?_
        refine wp_alloc_H rfl H ?_
        clear H
        intro bW w H
        refine ⟨⟨H.rw_ (by repeat (first | exact Take.head | apply Take.tail)), H.rw_ (by repeat (first | exact Take.head | apply Take.tail))⟩, ?_⟩
        (try simp only [Act.put, List.setIfInBounds_toArray, List.set_cons_succ, List.set_cons_zero])
        refine anyH_1 (i := 4) (by kernel_rfl) ?_
        refine wpOp_at rfl (.there (.there (.there (.there .here)))) rfl ?_
        refine wp_call_H Try.f57 rfl rfl Try.func57 (by kernel_rfl) rfl rfl (calls_ex (toG_H X H RX ZX)) ?_
        clear H
        rintro _ w ⟨c0, rfl, Hc0, H⟩
        have Zc0 := gbig_m ZX Hc0
        refine ⟨⟨H.rw_ (by repeat (first | exact Take.head | apply Take.tail)), H.rw_ (by repeat (first | exact Take.head | apply Take.tail))⟩, ?_⟩
        (try simp only [Act.put, List.setIfInBounds_toArray, List.set_cons_succ, List.set_cons_zero])
        refine anyH_1 (i := 5) (by kernel_rfl) ?_
        refine wpOp_at rfl (.there (.there (.there (.there (.there .here))))) rfl ?_
        refine wp_call_H Try.f56 rfl rfl Try.func56 (by kernel_rfl) rfl rfl (made_H H (specWithGuest_c d0 g c0 _ (H.brd (by repeat (first | exact Take.head | apply Take.tail))) Zd0 (H.grd1 (by repeat (first | exact Take.head | apply Take.tail))) Zc0)) ?_
        clear H
        rintro _ w ⟨s0, rfl, Hs0, H⟩
        refine ⟨⟨H.rw_ (by repeat (first | exact Take.head | apply Take.tail)), H.rw_ (by repeat (first | exact Take.head | apply Take.tail))⟩, ?_⟩
        (try simp only [Act.put, List.setIfInBounds_toArray, List.set_cons_succ, List.set_cons_zero])
        refine anyH_1 (i := 7) (by kernel_rfl) ?_
        refine wpOp_at rfl (.there (.there (.there (.there (.there (.there (.there .here))))))) rfl ?_
        refine wp_store_H rfl H rfl rfl (by repeat (first | (apply StoreAt.here; (first | exact CellsOf.agg | exact CellsOf.int | exact CellsOf.bool | exact CellsOf.slice | exact CellsOf.string | exact CellsOf.pointer | exact CellsOf.func); (repeat (first | exact SetsAt.nil | apply SetsAt.here | apply SetsAt.there)); exact rfl; exact rfl) | apply StoreAt.there)) ?_
        clear H
        intro w H
        refine ⟨⟨H.rw_ (by repeat (first | exact Take.head | apply Take.tail)), H.rw_ (by repeat (first | exact Take.head | apply Take.tail))⟩, ?_⟩
        (try simp only [Act.put, List.setIfInBounds_toArray, List.set_cons_succ, List.set_cons_zero])
        refine wpAnyH_done (by kernel_rfl) ?_ _
        exact ⟨rfl, d0, c0, s0, bW, (by show _ = _; rw [Hs0.out, Hd0.out, Hc0.out]; exact HM.out.symm), H.pick (.cons (by repeat (first | exact Take.head | apply Take.tail)) (.cons (by repeat (first | exact Take.head | apply Take.tail)) (.cons (by repeat (first | exact Take.head | apply Take.tail)) (.cons (by repeat (first | exact Take.head | apply Take.tail)) .nil)))), by first | (simp only [puts_cons, puts_nil, Act.put, List.setIfInBounds_toArray, List.set_cons_succ, List.set_cons_zero]; done) | (simp only [puts_cons, puts_nil, Act.put, List.setIfInBounds_toArray, List.set_cons_succ, List.set_cons_zero]; rfl)⟩
    · refine wpOp_at rfl (.there (.there (.there (.there (.there (.there .here)))))) rfl ?_
      refine wp_alloc_H rfl H ?_
      clear H
      intro bW w H
      refine ⟨⟨H.rw_ (by repeat (first | exact Take.head | apply Take.tail)), H.rw_ (by repeat (first | exact Take.head | apply Take.tail))⟩, ?_⟩
      (try simp only [Act.put, List.setIfInBounds_toArray, List.set_cons_succ, List.set_cons_zero])
      refine anyH_1 (i := 1) (by kernel_rfl) ?_
      refine wpOp_at rfl (.there .here) rfl ?_
      refine wp_call_H Try.f23 rfl rfl Try.func23 (by kernel_rfl) rfl rfl (calls_ex (toB_H A H R Z)) ?_
      clear H
      rintro _ w ⟨d0, rfl, Hd0, H⟩
      have Zd0 := bbig_m Z Hd0
      refine ⟨⟨H.rw_ (by repeat (first | exact Take.head | apply Take.tail)), H.rw_ (by repeat (first | exact Take.head | apply Take.tail))⟩, ?_⟩
      (try simp only [Act.put, List.setIfInBounds_toArray, List.set_cons_succ, List.set_cons_zero])
      refine anyH_1 (i := 4) (by kernel_rfl) ?_
      refine wpOp_at rfl (.there (.there (.there (.there .here)))) rfl ?_
      refine wp_call_H Try.f57 rfl rfl Try.func57 (by kernel_rfl) rfl rfl (calls_ex (toG_H X H RX ZX)) ?_
      clear H
      rintro _ w ⟨c0, rfl, Hc0, H⟩
      have Zc0 := gbig_m ZX Hc0
      refine ⟨⟨H.rw_ (by repeat (first | exact Take.head | apply Take.tail)), H.rw_ (by repeat (first | exact Take.head | apply Take.tail))⟩, ?_⟩
      (try simp only [Act.put, List.setIfInBounds_toArray, List.set_cons_succ, List.set_cons_zero])
      refine anyH_1 (i := 5) (by kernel_rfl) ?_
      refine wpOp_at rfl (.there (.there (.there (.there (.there .here))))) rfl ?_
      refine wp_call_H Try.f56 rfl rfl Try.func56 (by kernel_rfl) rfl rfl (made_H H (specWithGuest_c d0 g c0 _ (H.brd (by repeat (first | exact Take.head | apply Take.tail))) Zd0 (H.grd1 (by repeat (first | exact Take.head | apply Take.tail))) Zc0)) ?_
      clear H
      rintro _ w ⟨s0, rfl, Hs0, H⟩
      refine ⟨⟨H.rw_ (by repeat (first | exact Take.head | apply Take.tail)), H.rw_ (by repeat (first | exact Take.head | apply Take.tail))⟩, ?_⟩
      (try simp only [Act.put, List.setIfInBounds_toArray, List.set_cons_succ, List.set_cons_zero])
      refine anyH_1 (i := 7) (by kernel_rfl) ?_
      refine wpOp_at rfl (.there (.there (.there (.there (.there (.there (.there .here))))))) rfl ?_
      refine wp_store_H rfl H rfl rfl (by repeat (first | (apply StoreAt.here; (first | exact CellsOf.agg | exact CellsOf.int | exact CellsOf.bool | exact CellsOf.slice | exact CellsOf.string | exact CellsOf.pointer | exact CellsOf.func); (repeat (first | exact SetsAt.nil | apply SetsAt.here | apply SetsAt.there)); exact rfl; exact rfl) | apply StoreAt.there)) ?_
      clear H
      intro w H
      refine ⟨⟨H.rw_ (by repeat (first | exact Take.head | apply Take.tail)), H.rw_ (by repeat (first | exact Take.head | apply Take.tail))⟩, ?_⟩
      (try simp only [Act.put, List.setIfInBounds_toArray, List.set_cons_succ, List.set_cons_zero])
      refine wpAnyH_done (by kernel_rfl) ?_ _
      exact ⟨rfl, d0, c0, s0, bW, (by show _ = _; rw [Hs0.out, Hd0.out, Hc0.out]; exact HM.out.symm), H.pick (.cons (by repeat (first | exact Take.head | apply Take.tail)) (.cons (by repeat (first | exact Take.head | apply Take.tail)) (.cons (by repeat (first | exact Take.head | apply Take.tail)) (.cons (by repeat (first | exact Take.head | apply Take.tail)) .nil)))), by first | (simp only [puts_cons, puts_nil, Act.put, List.setIfInBounds_toArray, List.set_cons_succ, List.set_cons_zero]; done) | (simp only [puts_cons, puts_nil, Act.put, List.setIfInBounds_toArray, List.set_cons_succ, List.set_cons_zero]; rfl)⟩
  clear H
  rintro u w ⟨d0, c0, s0, bW, Hs0, H, rfl⟩
  simp only [puts_cons, puts_nil, Act.put, List.setIfInBounds_toArray, List.set_cons_succ, List.set_cons_zero]
  have Zs0 := bbig_mm MB Hs0
  go_wp2_with (first
    | go_skip
    | ((with_reducible refine at_box ?_); first | (refine wpList_box_H (cs := (barr A).toList) rfl rfl H rfl CellsOf.agg ?_; clear H; intro bA w H) | (refine wpList_box_H (cs := (garr X).toList) rfl rfl H rfl CellsOf.agg ?_; clear H; intro bY w H) | (refine wpList_box_H rfl rfl H rfl (by first | exact CellsOf.agg | exact CellsOf.int | exact CellsOf.bool | exact CellsOf.slice | exact CellsOf.string | exact CellsOf.pointer | exact CellsOf.func) ?_; clear H; intro bQ w H))
    | ((with_reducible refine at_alloc ?_); first | (refine wpList_alloc_H rfl rfl H ?_; clear H; intro b w H))
    | ((with_reducible refine at_load ?_); first | (refine wpList_load_H rfl rfl H rfl (by repeat (first | exact LoadAt.here rfl | apply LoadAt.there)) ?_) | (refine wpList_loads_H rfl rfl H rfl (by repeat (first | (apply LoadsAt.here; repeat (first | exact GetsAt.nil | apply GetsAt.here | apply GetsAt.there)) | apply LoadsAt.there)) ?_))
    | ((with_reducible refine at_store ?_); first | (refine wpList_store_H rfl rfl H rfl rfl (by repeat (first | (apply StoreAt.here; (first | exact CellsOf.agg | exact CellsOf.int | exact CellsOf.bool | exact CellsOf.slice | exact CellsOf.string | exact CellsOf.pointer | exact CellsOf.func); (repeat (first | exact SetsAt.nil | apply SetsAt.here | apply SetsAt.there)); exact rfl; exact rfl) | apply StoreAt.there)) ?_; clear H; intro w H)))
  go_at_call 23
  refine (toB_H A H R Z).mono ?_
  clear H
  rintro e w ⟨x0, rfl, Hx0, H⟩
  have Zx0 := bbig_m Z Hx0
  go_wp2_with (first
    | go_skip
    | ((with_reducible refine at_box ?_); first | (refine wpList_box_H (cs := (barr A).toList) rfl rfl H rfl CellsOf.agg ?_; clear H; intro bA w H) | (refine wpList_box_H (cs := (garr X).toList) rfl rfl H rfl CellsOf.agg ?_; clear H; intro bY w H) | (refine wpList_box_H rfl rfl H rfl (by first | exact CellsOf.agg | exact CellsOf.int | exact CellsOf.bool | exact CellsOf.slice | exact CellsOf.string | exact CellsOf.pointer | exact CellsOf.func) ?_; clear H; intro bQ w H))
    | ((with_reducible refine at_alloc ?_); first | (refine wpList_alloc_H rfl rfl H ?_; clear H; intro bX w H))
    | ((with_reducible refine at_load ?_); first | (refine wpList_load_H rfl rfl H rfl (by repeat (first | exact LoadAt.here rfl | apply LoadAt.there)) ?_) | (refine wpList_loads_H rfl rfl H rfl (by repeat (first | (apply LoadsAt.here; repeat (first | exact GetsAt.nil | apply GetsAt.here | apply GetsAt.there)) | apply LoadsAt.there)) ?_))
    | ((with_reducible refine at_store ?_); first | (refine wpList_store_H rfl rfl H rfl rfl (by repeat (first | (apply StoreAt.here; (first | exact CellsOf.agg | exact CellsOf.int | exact CellsOf.bool | exact CellsOf.slice | exact CellsOf.string | exact CellsOf.pointer | exact CellsOf.func); (repeat (first | exact SetsAt.nil | apply SetsAt.here | apply SetsAt.there)); exact rfl; exact rfl) | apply StoreAt.there)) ?_; clear H; intro w H)))
  go_at_call 57
  refine (toG_H X H RX ZX).mono ?_
  clear H
  rintro e w ⟨x2, rfl, Hx2, H⟩
  have Zx2 := gbig_m ZX Hx2
  go_wp2_with (first
    | go_skip
    | ((with_reducible refine at_box ?_); first | (refine wpList_box_H (cs := (barr A).toList) rfl rfl H rfl CellsOf.agg ?_; clear H; intro bA w H) | (refine wpList_box_H (cs := (garr X).toList) rfl rfl H rfl CellsOf.agg ?_; clear H; intro bY w H) | (refine wpList_box_H rfl rfl H rfl (by first | exact CellsOf.agg | exact CellsOf.int | exact CellsOf.bool | exact CellsOf.slice | exact CellsOf.string | exact CellsOf.pointer | exact CellsOf.func) ?_; clear H; intro bQ w H))
    | ((with_reducible refine at_alloc ?_); first | (refine wpList_alloc_H rfl rfl H ?_; clear H; intro bX2 w H))
    | ((with_reducible refine at_load ?_); first | (refine wpList_load_H rfl rfl H rfl (by repeat (first | exact LoadAt.here rfl | apply LoadAt.there)) ?_) | (refine wpList_loads_H rfl rfl H rfl (by repeat (first | (apply LoadsAt.here; repeat (first | exact GetsAt.nil | apply GetsAt.here | apply GetsAt.there)) | apply LoadsAt.there)) ?_))
    | ((with_reducible refine at_store ?_); first | (refine wpList_store_H rfl rfl H rfl rfl (by repeat (first | (apply StoreAt.here; (first | exact CellsOf.agg | exact CellsOf.int | exact CellsOf.bool | exact CellsOf.slice | exact CellsOf.string | exact CellsOf.pointer | exact CellsOf.func); (repeat (first | exact SetsAt.nil | apply SetsAt.here | apply SetsAt.there)); exact rfl; exact rfl) | apply StoreAt.there)) ?_; clear H; intro w H)))
  go_at_call 58
  refine (withGuest_c x0 g x2 _ (H.brd (by repeat (first | exact Take.head | apply Take.tail))) Zx0 (H.grd1 (by repeat (first | exact Take.head | apply Take.tail))) Zx2).mono ?_
  rintro e w ⟨g0, rfl, x1, K⟩
  have Hg0 : Hid (g0.m = m) := by show _ = _; rw [x1, Hx0.out, Hx2.out]; exact HM.out.symm
  clear x1
  replace H := H.add_all K
  clear K
  have Zg0 := bbig_mm MB Hg0
  go_wp2_with (first
    | go_skip
    | ((with_reducible refine at_box ?_); first | (refine wpList_box_H (cs := (barr A).toList) rfl rfl H rfl CellsOf.agg ?_; clear H; intro bA w H) | (refine wpList_box_H (cs := (garr X).toList) rfl rfl H rfl CellsOf.agg ?_; clear H; intro bY w H) | (refine wpList_box_H rfl rfl H rfl (by first | exact CellsOf.agg | exact CellsOf.int | exact CellsOf.bool | exact CellsOf.slice | exact CellsOf.string | exact CellsOf.pointer | exact CellsOf.func) ?_; clear H; intro bQ w H))
    | ((with_reducible refine at_alloc ?_); first | (refine wpList_alloc_H rfl rfl H ?_; clear H; intro bG w H))
    | ((with_reducible refine at_load ?_); first | (refine wpList_load_H rfl rfl H rfl (by repeat (first | exact LoadAt.here rfl | apply LoadAt.there)) ?_) | (refine wpList_loads_H rfl rfl H rfl (by repeat (first | (apply LoadsAt.here; repeat (first | exact GetsAt.nil | apply GetsAt.here | apply GetsAt.there)) | apply LoadsAt.there)) ?_))
    | ((with_reducible refine at_store ?_); first | (refine wpList_store_H rfl rfl H rfl rfl (by repeat (first | (apply StoreAt.here; (first | exact CellsOf.agg | exact CellsOf.int | exact CellsOf.bool | exact CellsOf.slice | exact CellsOf.string | exact CellsOf.pointer | exact CellsOf.func); (repeat (first | exact SetsAt.nil | apply SetsAt.here | apply SetsAt.there)); exact rfl; exact rfl) | apply StoreAt.there)) ?_; clear H; intro w H)))
  go_at_call 26
  refine (eqB_H g0 s0 H (by repeat (first | exact Take.head | apply Take.tail)) (by repeat (first | exact Take.head | apply Take.tail)) Zg0 (Hg0.out.trans Hs0.out.symm)).mono ?_
  clear H
  rintro e w ⟨rfl, H⟩
  go_wp2_with (first
    | go_skip
    | ((with_reducible refine at_box ?_); first | (refine wpList_box_H (cs := (barr A).toList) rfl rfl H rfl CellsOf.agg ?_; clear H; intro bA w H) | (refine wpList_box_H (cs := (garr X).toList) rfl rfl H rfl CellsOf.agg ?_; clear H; intro bY w H) | (refine wpList_box_H rfl rfl H rfl (by first | exact CellsOf.agg | exact CellsOf.int | exact CellsOf.bool | exact CellsOf.slice | exact CellsOf.string | exact CellsOf.pointer | exact CellsOf.func) ?_; clear H; intro bQ w H))
    | ((with_reducible refine at_alloc ?_); first | (refine wpList_alloc_H rfl rfl H ?_; clear H; intro b w H))
    | ((with_reducible refine at_load ?_); first | (refine wpList_load_H rfl rfl H rfl (by repeat (first | exact LoadAt.here rfl | apply LoadAt.there)) ?_) | (refine wpList_loads_H rfl rfl H rfl (by repeat (first | (apply LoadsAt.here; repeat (first | exact GetsAt.nil | apply GetsAt.here | apply GetsAt.there)) | apply LoadsAt.there)) ?_))
    | ((with_reducible refine at_store ?_); first | (refine wpList_store_H rfl rfl H rfl rfl (by repeat (first | (apply StoreAt.here; (first | exact CellsOf.agg | exact CellsOf.int | exact CellsOf.bool | exact CellsOf.slice | exact CellsOf.string | exact CellsOf.pointer | exact CellsOf.func); (repeat (first | exact SetsAt.nil | apply SetsAt.here | apply SetsAt.there)); exact rfl; exact rfl) | apply StoreAt.there)) ?_; clear H; intro w H)))
  go_region_held3 (fun w' => (∀ o, w'.cell? ⟨bX, o, none⟩ = (barr x0)[o]?) ∧ (∀ o, w'.cell? ⟨bA, o, none⟩ = (barr A)[o]?)) (exact ⟨H.cells (by repeat (first | exact Take.head | apply Take.tail)), H.cells (by repeat (first | exact Take.head | apply Take.tail))⟩)
    ((first | (go_at_call 23; refine (toB_H A H.drew R Z).mono ?_; clear H; rintro e w ⟨t0, rfl, Ht0, H⟩) | (go_at_call 26; refine (eqB_H x0 t0 H (by repeat (first | exact Take.head | apply Take.tail)) (by repeat (first | exact Take.head | apply Take.tail)) Zx0 (Hx0.out.trans Ht0.out.symm)).mono ?_; clear H; rintro e w ⟨rfl, H⟩)))
  go_wp2_with (first
    | go_skip
    | ((with_reducible refine at_box ?_); first | (refine wpList_box_H (cs := (barr A).toList) rfl rfl H rfl CellsOf.agg ?_; clear H; intro bA w H) | (refine wpList_box_H (cs := (garr X).toList) rfl rfl H rfl CellsOf.agg ?_; clear H; intro bY w H) | (refine wpList_box_H rfl rfl H rfl (by first | exact CellsOf.agg | exact CellsOf.int | exact CellsOf.bool | exact CellsOf.slice | exact CellsOf.string | exact CellsOf.pointer | exact CellsOf.func) ?_; clear H; intro bQ w H))
    | ((with_reducible refine at_alloc ?_); first | (refine wpList_alloc_H rfl rfl H ?_; clear H; intro b w H))
    | ((with_reducible refine at_load ?_); first | (refine wpList_load_H rfl rfl H rfl (by repeat (first | exact LoadAt.here rfl | apply LoadAt.there)) ?_) | (refine wpList_loads_H rfl rfl H rfl (by repeat (first | (apply LoadsAt.here; repeat (first | exact GetsAt.nil | apply GetsAt.here | apply GetsAt.there)) | apply LoadsAt.there)) ?_))
    | ((with_reducible refine at_store ?_); first | (refine wpList_store_H rfl rfl H rfl rfl (by repeat (first | (apply StoreAt.here; (first | exact CellsOf.agg | exact CellsOf.int | exact CellsOf.bool | exact CellsOf.slice | exact CellsOf.string | exact CellsOf.pointer | exact CellsOf.func); (repeat (first | exact SetsAt.nil | apply SetsAt.here | apply SetsAt.there)); exact rfl; exact rfl) | apply StoreAt.there)) ?_; clear H; intro w H)))
  go_region_held3 (fun w' => (∀ o, w'.cell? ⟨bX2, o, none⟩ = (garr x2)[o]?) ∧ (∀ o, w'.cell? ⟨bY, o, none⟩ = (garr X)[o]?)) (exact ⟨H.cells (by repeat (first | exact Take.head | apply Take.tail)), H.cells (by repeat (first | exact Take.head | apply Take.tail))⟩)
    ((first | (go_at_call 57; refine (toG_H X H.drew RX ZX).mono ?_; clear H; rintro e w ⟨t2, rfl, Ht2, H⟩) | (go_at_call 41; refine (eqG_H x2 t2 H (by repeat (first | exact Take.head | apply Take.tail)) (by repeat (first | exact Take.head | apply Take.tail)) Zx2 (Hx2.out.trans Ht2.out.symm)).mono ?_; clear H; rintro e w ⟨rfl, H⟩)))
  go_wp2_with (first
    | go_skip
    | ((with_reducible refine at_box ?_); first | (refine wpList_box_H (cs := (barr A).toList) rfl rfl H rfl CellsOf.agg ?_; clear H; intro bA w H) | (refine wpList_box_H (cs := (garr X).toList) rfl rfl H rfl CellsOf.agg ?_; clear H; intro bY w H) | (refine wpList_box_H rfl rfl H rfl (by first | exact CellsOf.agg | exact CellsOf.int | exact CellsOf.bool | exact CellsOf.slice | exact CellsOf.string | exact CellsOf.pointer | exact CellsOf.func) ?_; clear H; intro bQ w H))
    | ((with_reducible refine at_alloc ?_); first | (refine wpList_alloc_H rfl rfl H ?_; clear H; intro b w H))
    | ((with_reducible refine at_load ?_); first | (refine wpList_load_H rfl rfl H rfl (by repeat (first | exact LoadAt.here rfl | apply LoadAt.there)) ?_) | (refine wpList_loads_H rfl rfl H rfl (by repeat (first | (apply LoadsAt.here; repeat (first | exact GetsAt.nil | apply GetsAt.here | apply GetsAt.there)) | apply LoadsAt.there)) ?_))
    | ((with_reducible refine at_store ?_); first | (refine wpList_store_H rfl rfl H rfl rfl (by repeat (first | (apply StoreAt.here; (first | exact CellsOf.agg | exact CellsOf.int | exact CellsOf.bool | exact CellsOf.slice | exact CellsOf.string | exact CellsOf.pointer | exact CellsOf.func); (repeat (first | exact SetsAt.nil | apply SetsAt.here | apply SetsAt.there)); exact rfl; exact rfl) | apply StoreAt.there)) ?_; clear H; intro w H)))
  go_at_call 32
  refine (markB_H x0 H (by repeat (first | exact Take.head | apply Take.tail)) Zx0).mono ?_
  clear H
  rintro e w ⟨rfl, H⟩
  have ex0 := x0.markEnd_pos
  have ex0l := markB_le Zx0
  go_wp2_with (first
    | go_skip
    | ((with_reducible refine at_box ?_); first | (refine wpList_box_H (cs := (barr A).toList) rfl rfl H rfl CellsOf.agg ?_; clear H; intro bA w H) | (refine wpList_box_H (cs := (garr X).toList) rfl rfl H rfl CellsOf.agg ?_; clear H; intro bY w H) | (refine wpList_box_H rfl rfl H rfl (by first | exact CellsOf.agg | exact CellsOf.int | exact CellsOf.bool | exact CellsOf.slice | exact CellsOf.string | exact CellsOf.pointer | exact CellsOf.func) ?_; clear H; intro bQ w H))
    | ((with_reducible refine at_alloc ?_); first | (refine wpList_alloc_H rfl rfl H ?_; clear H; intro b w H))
    | ((with_reducible refine at_load ?_); first | (refine wpList_load_H rfl rfl H rfl (by repeat (first | exact LoadAt.here rfl | apply LoadAt.there)) ?_) | (refine wpList_loads_H rfl rfl H rfl (by repeat (first | (apply LoadsAt.here; repeat (first | exact GetsAt.nil | apply GetsAt.here | apply GetsAt.there)) | apply LoadsAt.there)) ?_))
    | ((with_reducible refine at_store ?_); first | (refine wpList_store_H rfl rfl H rfl rfl (by repeat (first | (apply StoreAt.here; (first | exact CellsOf.agg | exact CellsOf.int | exact CellsOf.bool | exact CellsOf.slice | exact CellsOf.string | exact CellsOf.pointer | exact CellsOf.func); (repeat (first | exact SetsAt.nil | apply SetsAt.here | apply SetsAt.there)); exact rfl; exact rfl) | apply StoreAt.there)) ?_; clear H; intro w H)))
  go_at_call 42
  refine (markG2_H x2 (x0.markEnd 1) H (by repeat (first | exact Take.head | apply Take.tail)) Zx2 ex0 ex0l).mono ?_
  clear H
  rintro e w ⟨rfl, H⟩
  have ex2 := markEnd_pos2 x2 _ ex0
  go_wp2_with (first
    | go_skip
    | ((with_reducible refine at_box ?_); first | (refine wpList_box_H (cs := (barr A).toList) rfl rfl H rfl CellsOf.agg ?_; clear H; intro bA w H) | (refine wpList_box_H (cs := (garr X).toList) rfl rfl H rfl CellsOf.agg ?_; clear H; intro bY w H) | (refine wpList_box_H rfl rfl H rfl (by first | exact CellsOf.agg | exact CellsOf.int | exact CellsOf.bool | exact CellsOf.slice | exact CellsOf.string | exact CellsOf.pointer | exact CellsOf.func) ?_; clear H; intro bQ w H))
    | ((with_reducible refine at_alloc ?_); first | (refine wpList_alloc_H rfl rfl H ?_; clear H; intro b w H))
    | ((with_reducible refine at_load ?_); first | (refine wpList_load_H rfl rfl H rfl (by repeat (first | exact LoadAt.here rfl | apply LoadAt.there)) ?_) | (refine wpList_loads_H rfl rfl H rfl (by repeat (first | (apply LoadsAt.here; repeat (first | exact GetsAt.nil | apply GetsAt.here | apply GetsAt.there)) | apply LoadsAt.there)) ?_))
    | ((with_reducible refine at_store ?_); first | (refine wpList_store_H rfl rfl H rfl rfl (by repeat (first | (apply StoreAt.here; (first | exact CellsOf.agg | exact CellsOf.int | exact CellsOf.bool | exact CellsOf.slice | exact CellsOf.string | exact CellsOf.pointer | exact CellsOf.func); (repeat (first | exact SetsAt.nil | apply SetsAt.here | apply SetsAt.there)); exact rfl; exact rfl) | apply StoreAt.there)) ?_; clear H; intro w H)))
  go_at_call 26
  refine (eqB_H g0 s0 H (by repeat (first | exact Take.head | apply Take.tail)) (by repeat (first | exact Take.head | apply Take.tail)) Zg0 (Hg0.out.trans Hs0.out.symm)).mono ?_
  clear H
  rintro e w ⟨rfl, H⟩
  go_wp2_with (first
    | go_skip
    | ((with_reducible refine at_box ?_); first | (refine wpList_box_H (cs := (barr A).toList) rfl rfl H rfl CellsOf.agg ?_; clear H; intro bA w H) | (refine wpList_box_H (cs := (garr X).toList) rfl rfl H rfl CellsOf.agg ?_; clear H; intro bY w H) | (refine wpList_box_H rfl rfl H rfl (by first | exact CellsOf.agg | exact CellsOf.int | exact CellsOf.bool | exact CellsOf.slice | exact CellsOf.string | exact CellsOf.pointer | exact CellsOf.func) ?_; clear H; intro bQ w H))
    | ((with_reducible refine at_alloc ?_); first | (refine wpList_alloc_H rfl rfl H ?_; clear H; intro b w H))
    | ((with_reducible refine at_load ?_); first | (refine wpList_load_H rfl rfl H rfl (by repeat (first | exact LoadAt.here rfl | apply LoadAt.there)) ?_) | (refine wpList_loads_H rfl rfl H rfl (by repeat (first | (apply LoadsAt.here; repeat (first | exact GetsAt.nil | apply GetsAt.here | apply GetsAt.there)) | apply LoadsAt.there)) ?_))
    | ((with_reducible refine at_store ?_); first | (refine wpList_store_H rfl rfl H rfl rfl (by repeat (first | (apply StoreAt.here; (first | exact CellsOf.agg | exact CellsOf.int | exact CellsOf.bool | exact CellsOf.slice | exact CellsOf.string | exact CellsOf.pointer | exact CellsOf.func); (repeat (first | exact SetsAt.nil | apply SetsAt.here | apply SetsAt.there)); exact rfl; exact rfl) | apply StoreAt.there)) ?_; clear H; intro w H)))
  go_at_call 32
  refine (markB_H g0 H (by repeat (first | exact Take.head | apply Take.tail)) Zg0).mono ?_
  clear H
  rintro e w ⟨rfl, H⟩
  have eg0 := g0.markEnd_pos
  go_wp2_with (first
    | go_skip
    | ((with_reducible refine at_box ?_); first | (refine wpList_box_H (cs := (barr A).toList) rfl rfl H rfl CellsOf.agg ?_; clear H; intro bA w H) | (refine wpList_box_H (cs := (garr X).toList) rfl rfl H rfl CellsOf.agg ?_; clear H; intro bY w H) | (refine wpList_box_H rfl rfl H rfl (by first | exact CellsOf.agg | exact CellsOf.int | exact CellsOf.bool | exact CellsOf.slice | exact CellsOf.string | exact CellsOf.pointer | exact CellsOf.func) ?_; clear H; intro bQ w H))
    | ((with_reducible refine at_alloc ?_); first | (refine wpList_alloc_H rfl rfl H ?_; clear H; intro b w H))
    | ((with_reducible refine at_load ?_); first | (refine wpList_load_H rfl rfl H rfl (by repeat (first | exact LoadAt.here rfl | apply LoadAt.there)) ?_) | (refine wpList_loads_H rfl rfl H rfl (by repeat (first | (apply LoadsAt.here; repeat (first | exact GetsAt.nil | apply GetsAt.here | apply GetsAt.there)) | apply LoadsAt.there)) ?_))
    | ((with_reducible refine at_store ?_); first | (refine wpList_store_H rfl rfl H rfl rfl (by repeat (first | (apply StoreAt.here; (first | exact CellsOf.agg | exact CellsOf.int | exact CellsOf.bool | exact CellsOf.slice | exact CellsOf.string | exact CellsOf.pointer | exact CellsOf.func); (repeat (first | exact SetsAt.nil | apply SetsAt.here | apply SetsAt.there)); exact rfl; exact rfl) | apply StoreAt.there)) ?_; clear H; intro w H)))
  go_at_call 52
  refine (heldB_H g0 H (by repeat (first | exact Take.head | apply Take.tail)) Zg0).mono ?_
  clear H
  rintro e w ⟨rfl, H⟩
  go_wp2_with (first
    | go_skip
    | ((with_reducible refine at_box ?_); first | (refine wpList_box_H (cs := (barr A).toList) rfl rfl H rfl CellsOf.agg ?_; clear H; intro bA w H) | (refine wpList_box_H (cs := (garr X).toList) rfl rfl H rfl CellsOf.agg ?_; clear H; intro bY w H) | (refine wpList_box_H rfl rfl H rfl (by first | exact CellsOf.agg | exact CellsOf.int | exact CellsOf.bool | exact CellsOf.slice | exact CellsOf.string | exact CellsOf.pointer | exact CellsOf.func) ?_; clear H; intro bQ w H))
    | ((with_reducible refine at_alloc ?_); first | (refine wpList_alloc_H rfl rfl H ?_; clear H; intro b w H))
    | ((with_reducible refine at_load ?_); first | (refine wpList_load_H rfl rfl H rfl (by repeat (first | exact LoadAt.here rfl | apply LoadAt.there)) ?_) | (refine wpList_loads_H rfl rfl H rfl (by repeat (first | (apply LoadsAt.here; repeat (first | exact GetsAt.nil | apply GetsAt.here | apply GetsAt.there)) | apply LoadsAt.there)) ?_))
    | ((with_reducible refine at_store ?_); first | (refine wpList_store_H rfl rfl H rfl rfl (by repeat (first | (apply StoreAt.here; (first | exact CellsOf.agg | exact CellsOf.int | exact CellsOf.bool | exact CellsOf.slice | exact CellsOf.string | exact CellsOf.pointer | exact CellsOf.func); (repeat (first | exact SetsAt.nil | apply SetsAt.here | apply SetsAt.there)); exact rfl; exact rfl) | apply StoreAt.there)) ?_; clear H; intro w H)))
  refine wp_cut (fun u a' w' => ∃ (y0 : BV) (y2 : GV) (h0 : BV) (bH : Nat), Hid (h0.m = m) ∧ Hp W0 w' [.box bH 33 (barr h0).toList, .bare h0, .box bG 33 (barr g0).toList, .bare (g0.marked 1), .box bW 33 (barr s0).toList, .bare s0, .box bY 70 (garr X).toList, .box bA 26 (barr A).toList] ∧ a' = puts u [(79, A.val), (80, y0.val), (81, (.int .i64 g)), (82, X.val), (83, y2.val), (84, h0.val), (15, .pointer (some ⟨bH, 0, none⟩))]) ?_ ?_
  · refine wp_region_held (S := (fun w' => Rw w' bA 26 (barr A) ∧ Rw w' bY 70 (garr X))) (by kernel_rfl) ?_
    replace H := H.drew
    refine takeH (i := 0) rfl .here (by kernel_rfl) (by kernel_rfl) (by kernel_rfl) (fun _ _ _ h => absurd h.1 (by simp)) (yields_loads_R rfl rfl rfl (fun _ hS => hS.1) (by repeat (first | exact GetsAt.nil | apply GetsAt.here | apply GetsAt.there))) ⟨H.rw_ (by repeat (first | exact Take.head | apply Take.tail)), H.rw_ (by repeat (first | exact Take.head | apply Take.tail))⟩ ?_
    (try simp only [Act.put, List.setIfInBounds_toArray, List.set_cons_succ, List.set_cons_zero])
    refine takeH (i := 2) rfl (.there (.there .here)) (by kernel_rfl) (by kernel_rfl) (by kernel_rfl) (fun _ _ _ h => absurd h.1 (by simp)) (yields_val (v := (.int .i64 g)) rfl (fun _ => by go_simp)) ⟨H.rw_ (by repeat (first | exact Take.head | apply Take.tail)), H.rw_ (by repeat (first | exact Take.head | apply Take.tail))⟩ ?_
    (try simp only [Act.put, List.setIfInBounds_toArray, List.set_cons_succ, List.set_cons_zero])
    refine takeH (i := 3) rfl (.there (.there (.there .here))) (by kernel_rfl) (by kernel_rfl) (by kernel_rfl) (fun _ _ _ h => absurd h.1 (by simp)) (yields_loads_R rfl rfl rfl (fun _ hS => hS.2) (by repeat (first | exact GetsAt.nil | apply GetsAt.here | apply GetsAt.there))) ⟨H.rw_ (by repeat (first | exact Take.head | apply Take.tail)), H.rw_ (by repeat (first | exact Take.head | apply Take.tail))⟩ ?_
    (try simp only [Act.put, List.setIfInBounds_toArray, List.set_cons_succ, List.set_cons_zero])
    refine anyH_2 (i := 1) (j := 6) (by kernel_rfl) ?_ ?_
    · refine wpOp_at rfl (.there .here) rfl ?_
      refine wp_call_H Try.f23 rfl rfl Try.func23 (by kernel_rfl) rfl rfl (calls_ex (toB_H A H R Z)) ?_
      clear H
      rintro _ w ⟨y0, rfl, Hy0, H⟩
      have Zy0 := bbig_m Z Hy0
      refine ⟨⟨H.rw_ (by repeat (first | exact Take.head | apply Take.tail)), H.rw_ (by repeat (first | exact Take.head | apply Take.tail))⟩, ?_⟩
      (try simp only [Act.put, List.setIfInBounds_toArray, List.set_cons_succ, List.set_cons_zero])
      refine anyH_2 (i := 4) (j := 6) (by kernel_rfl) ?_ ?_
      · refine wpOp_at rfl (.there (.there (.there (.there .here)))) rfl ?_
        refine wp_call_H Try.f57 rfl rfl Try.func57 (by kernel_rfl) rfl rfl (calls_ex (toG_H X H RX ZX)) ?_
        clear H
        rintro _ w ⟨y2, rfl, Hy2, H⟩
        have Zy2 := gbig_m ZX Hy2
        refine ⟨⟨H.rw_ (by repeat (first | exact Take.head | apply Take.tail)), H.rw_ (by repeat (first | exact Take.head | apply Take.tail))⟩, ?_⟩
        (try simp only [Act.put, List.setIfInBounds_toArray, List.set_cons_succ, List.set_cons_zero])
        refine anyH_2 (i := 5) (j := 6) (by kernel_rfl) ?_ ?_
        · refine wpOp_at rfl (.there (.there (.there (.there (.there .here))))) rfl ?_
          refine wp_call_H Try.f58 rfl rfl Try.func58 (by kernel_rfl) rfl rfl (made_H H (withGuest_c y0 g y2 _ (H.brd (by repeat (first | exact Take.head | apply Take.tail))) Zy0 (H.grd1 (by repeat (first | exact Take.head | apply Take.tail))) Zy2)) ?_
          clear H
          rintro _ w ⟨h0, rfl, Hh0, H⟩
          refine ⟨⟨H.rw_ (by repeat (first | exact Take.head | apply Take.tail)), H.rw_ (by repeat (first | exact Take.head | apply Take.tail))⟩, ?_⟩
          (try simp only [Act.put, List.setIfInBounds_toArray, List.set_cons_succ, List.set_cons_zero])
          refine anyH_1 (i := 6) (by kernel_rfl) ?_
          refine wpOp_at rfl (.there (.there (.there (.there (.there (.there .here)))))) rfl ?_
          refine wp_alloc_H rfl H ?_
          clear H
          intro bH w H
          refine ⟨⟨H.rw_ (by repeat (first | exact Take.head | apply Take.tail)), H.rw_ (by repeat (first | exact Take.head | apply Take.tail))⟩, ?_⟩
          (try simp only [Act.put, List.setIfInBounds_toArray, List.set_cons_succ, List.set_cons_zero])
          refine anyH_1 (i := 7) (by kernel_rfl) ?_
          refine wpOp_at rfl (.there (.there (.there (.there (.there (.there (.there .here))))))) rfl ?_
          refine wp_store_H rfl H rfl rfl (by repeat (first | (apply StoreAt.here; (first | exact CellsOf.agg | exact CellsOf.int | exact CellsOf.bool | exact CellsOf.slice | exact CellsOf.string | exact CellsOf.pointer | exact CellsOf.func); (repeat (first | exact SetsAt.nil | apply SetsAt.here | apply SetsAt.there)); exact rfl; exact rfl) | apply StoreAt.there)) ?_
          clear H
          intro w H
          refine ⟨⟨H.rw_ (by repeat (first | exact Take.head | apply Take.tail)), H.rw_ (by repeat (first | exact Take.head | apply Take.tail))⟩, ?_⟩
          (try simp only [Act.put, List.setIfInBounds_toArray, List.set_cons_succ, List.set_cons_zero])
          refine wpAnyH_done (by kernel_rfl) ?_ _
          exact ⟨rfl, y0, y2, h0, bH, (by show _ = _; rw [Hh0.out, Hy0.out, Hy2.out]; exact HM.out.symm), H.pick (.cons (by repeat (first | exact Take.head | apply Take.tail)) (.cons (by repeat (first | exact Take.head | apply Take.tail)) (.cons (by repeat (first | exact Take.head | apply Take.tail)) (.cons (by repeat (first | exact Take.head | apply Take.tail)) (.cons (by repeat (first | exact Take.head | apply Take.tail)) (.cons (by repeat (first | exact Take.head | apply Take.tail)) (.cons (by repeat (first | exact Take.head | apply Take.tail)) (.cons (by repeat (first | exact Take.head | apply Take.tail)) .nil)))))))), by first | (simp only [puts_cons, puts_nil, Act.put, List.setIfInBounds_toArray, List.set_cons_succ, List.set_cons_zero]; done) | (simp only [puts_cons, puts_nil, Act.put, List.setIfInBounds_toArray, List.set_cons_succ, List.set_cons_zero]; rfl)⟩
        · refine wpOp_at rfl (.there (.there (.there (.there (.there (.there .here)))))) rfl ?_
          refine wp_alloc_H rfl H ?_
          clear H
          intro bH w H
          refine ⟨⟨H.rw_ (by repeat (first | exact Take.head | apply Take.tail)), H.rw_ (by repeat (first | exact Take.head | apply Take.tail))⟩, ?_⟩
          (try simp only [Act.put, List.setIfInBounds_toArray, List.set_cons_succ, List.set_cons_zero])
          refine anyH_1 (i := 5) (by kernel_rfl) ?_
          refine wpOp_at rfl (.there (.there (.there (.there (.there .here))))) rfl ?_
          refine wp_call_H Try.f58 rfl rfl Try.func58 (by kernel_rfl) rfl rfl (made_H H (withGuest_c y0 g y2 _ (H.brd (by repeat (first | exact Take.head | apply Take.tail))) Zy0 (H.grd1 (by repeat (first | exact Take.head | apply Take.tail))) Zy2)) ?_
          clear H
          rintro _ w ⟨h0, rfl, Hh0, H⟩
          refine ⟨⟨H.rw_ (by repeat (first | exact Take.head | apply Take.tail)), H.rw_ (by repeat (first | exact Take.head | apply Take.tail))⟩, ?_⟩
          (try simp only [Act.put, List.setIfInBounds_toArray, List.set_cons_succ, List.set_cons_zero])
          refine anyH_1 (i := 7) (by kernel_rfl) ?_
          refine wpOp_at rfl (.there (.there (.there (.there (.there (.there (.there .here))))))) rfl ?_
          refine wp_store_H rfl H rfl rfl (by repeat (first | (apply StoreAt.here; (first | exact CellsOf.agg | exact CellsOf.int | exact CellsOf.bool | exact CellsOf.slice | exact CellsOf.string | exact CellsOf.pointer | exact CellsOf.func); (repeat (first | exact SetsAt.nil | apply SetsAt.here | apply SetsAt.there)); exact rfl; exact rfl) | apply StoreAt.there)) ?_
          clear H
          intro w H
          refine ⟨⟨H.rw_ (by repeat (first | exact Take.head | apply Take.tail)), H.rw_ (by repeat (first | exact Take.head | apply Take.tail))⟩, ?_⟩
          (try simp only [Act.put, List.setIfInBounds_toArray, List.set_cons_succ, List.set_cons_zero])
          refine wpAnyH_done (by kernel_rfl) ?_ _
          exact ⟨rfl, y0, y2, h0, bH, (by show _ = _; rw [Hh0.out, Hy0.out, Hy2.out]; exact HM.out.symm), H.pick (.cons (by repeat (first | exact Take.head | apply Take.tail)) (.cons (by repeat (first | exact Take.head | apply Take.tail)) (.cons (by repeat (first | exact Take.head | apply Take.tail)) (.cons (by repeat (first | exact Take.head | apply Take.tail)) (.cons (by repeat (first | exact Take.head | apply Take.tail)) (.cons (by repeat (first | exact Take.head | apply Take.tail)) (.cons (by repeat (first | exact Take.head | apply Take.tail)) (.cons (by repeat (first | exact Take.head | apply Take.tail)) .nil)))))))), by first | (simp only [puts_cons, puts_nil, Act.put, List.setIfInBounds_toArray, List.set_cons_succ, List.set_cons_zero]; done) | (simp only [puts_cons, puts_nil, Act.put, List.setIfInBounds_toArray, List.set_cons_succ, List.set_cons_zero]; rfl)⟩
      · refine wpOp_at rfl (.there (.there (.there (.there (.there (.there .here)))))) rfl ?_
        refine wp_alloc_H rfl H ?_
        clear H
        intro bH w H
        refine ⟨⟨H.rw_ (by repeat (first | exact Take.head | apply Take.tail)), H.rw_ (by repeat (first | exact Take.head | apply Take.tail))⟩, ?_⟩
        (try simp only [Act.put, List.setIfInBounds_toArray, List.set_cons_succ, List.set_cons_zero])
        refine anyH_1 (i := 4) (by kernel_rfl) ?_
        refine wpOp_at rfl (.there (.there (.there (.there .here)))) rfl ?_
        refine wp_call_H Try.f57 rfl rfl Try.func57 (by kernel_rfl) rfl rfl (calls_ex (toG_H X H RX ZX)) ?_
        clear H
        rintro _ w ⟨y2, rfl, Hy2, H⟩
        have Zy2 := gbig_m ZX Hy2
        refine ⟨⟨H.rw_ (by repeat (first | exact Take.head | apply Take.tail)), H.rw_ (by repeat (first | exact Take.head | apply Take.tail))⟩, ?_⟩
        (try simp only [Act.put, List.setIfInBounds_toArray, List.set_cons_succ, List.set_cons_zero])
        refine anyH_1 (i := 5) (by kernel_rfl) ?_
        refine wpOp_at rfl (.there (.there (.there (.there (.there .here))))) rfl ?_
        refine wp_call_H Try.f58 rfl rfl Try.func58 (by kernel_rfl) rfl rfl (made_H H (withGuest_c y0 g y2 _ (H.brd (by repeat (first | exact Take.head | apply Take.tail))) Zy0 (H.grd1 (by repeat (first | exact Take.head | apply Take.tail))) Zy2)) ?_
        clear H
        rintro _ w ⟨h0, rfl, Hh0, H⟩
        refine ⟨⟨H.rw_ (by repeat (first | exact Take.head | apply Take.tail)), H.rw_ (by repeat (first | exact Take.head | apply Take.tail))⟩, ?_⟩
        (try simp only [Act.put, List.setIfInBounds_toArray, List.set_cons_succ, List.set_cons_zero])
        refine anyH_1 (i := 7) (by kernel_rfl) ?_
        refine wpOp_at rfl (.there (.there (.there (.there (.there (.there (.there .here))))))) rfl ?_
        refine wp_store_H rfl H rfl rfl (by repeat (first | (apply StoreAt.here; (first | exact CellsOf.agg | exact CellsOf.int | exact CellsOf.bool | exact CellsOf.slice | exact CellsOf.string | exact CellsOf.pointer | exact CellsOf.func); (repeat (first | exact SetsAt.nil | apply SetsAt.here | apply SetsAt.there)); exact rfl; exact rfl) | apply StoreAt.there)) ?_
        clear H
        intro w H
        refine ⟨⟨H.rw_ (by repeat (first | exact Take.head | apply Take.tail)), H.rw_ (by repeat (first | exact Take.head | apply Take.tail))⟩, ?_⟩
        (try simp only [Act.put, List.setIfInBounds_toArray, List.set_cons_succ, List.set_cons_zero])
        refine wpAnyH_done (by kernel_rfl) ?_ _
        exact ⟨rfl, y0, y2, h0, bH, (by show _ = _; rw [Hh0.out, Hy0.out, Hy2.out]; exact HM.out.symm), H.pick (.cons (by repeat (first | exact Take.head | apply Take.tail)) (.cons (by repeat (first | exact Take.head | apply Take.tail)) (.cons (by repeat (first | exact Take.head | apply Take.tail)) (.cons (by repeat (first | exact Take.head | apply Take.tail)) (.cons (by repeat (first | exact Take.head | apply Take.tail)) (.cons (by repeat (first | exact Take.head | apply Take.tail)) (.cons (by repeat (first | exact Take.head | apply Take.tail)) (.cons (by repeat (first | exact Take.head | apply Take.tail)) .nil)))))))), by first | (simp only [puts_cons, puts_nil, Act.put, List.setIfInBounds_toArray, List.set_cons_succ, List.set_cons_zero]; done) | (simp only [puts_cons, puts_nil, Act.put, List.setIfInBounds_toArray, List.set_cons_succ, List.set_cons_zero]; rfl)⟩
    · refine wpOp_at rfl (.there (.there (.there (.there (.there (.there .here)))))) rfl ?_
      refine wp_alloc_H rfl H ?_
      clear H
      intro bH w H
      refine ⟨⟨H.rw_ (by repeat (first | exact Take.head | apply Take.tail)), H.rw_ (by repeat (first | exact Take.head | apply Take.tail))⟩, ?_⟩
      (try simp only [Act.put, List.setIfInBounds_toArray, List.set_cons_succ, List.set_cons_zero])
      refine anyH_1 (i := 1) (by kernel_rfl) ?_
      refine wpOp_at rfl (.there .here) rfl ?_
      refine wp_call_H Try.f23 rfl rfl Try.func23 (by kernel_rfl) rfl rfl (calls_ex (toB_H A H R Z)) ?_
      clear H
      rintro _ w ⟨y0, rfl, Hy0, H⟩
      have Zy0 := bbig_m Z Hy0
      refine ⟨⟨H.rw_ (by repeat (first | exact Take.head | apply Take.tail)), H.rw_ (by repeat (first | exact Take.head | apply Take.tail))⟩, ?_⟩
      (try simp only [Act.put, List.setIfInBounds_toArray, List.set_cons_succ, List.set_cons_zero])
      refine anyH_1 (i := 4) (by kernel_rfl) ?_
      refine wpOp_at rfl (.there (.there (.there (.there .here)))) rfl ?_
      refine wp_call_H Try.f57 rfl rfl Try.func57 (by kernel_rfl) rfl rfl (calls_ex (toG_H X H RX ZX)) ?_
      clear H
      rintro _ w ⟨y2, rfl, Hy2, H⟩
      have Zy2 := gbig_m ZX Hy2
      refine ⟨⟨H.rw_ (by repeat (first | exact Take.head | apply Take.tail)), H.rw_ (by repeat (first | exact Take.head | apply Take.tail))⟩, ?_⟩
      (try simp only [Act.put, List.setIfInBounds_toArray, List.set_cons_succ, List.set_cons_zero])
      refine anyH_1 (i := 5) (by kernel_rfl) ?_
      refine wpOp_at rfl (.there (.there (.there (.there (.there .here))))) rfl ?_
      refine wp_call_H Try.f58 rfl rfl Try.func58 (by kernel_rfl) rfl rfl (made_H H (withGuest_c y0 g y2 _ (H.brd (by repeat (first | exact Take.head | apply Take.tail))) Zy0 (H.grd1 (by repeat (first | exact Take.head | apply Take.tail))) Zy2)) ?_
      clear H
      rintro _ w ⟨h0, rfl, Hh0, H⟩
      refine ⟨⟨H.rw_ (by repeat (first | exact Take.head | apply Take.tail)), H.rw_ (by repeat (first | exact Take.head | apply Take.tail))⟩, ?_⟩
      (try simp only [Act.put, List.setIfInBounds_toArray, List.set_cons_succ, List.set_cons_zero])
      refine anyH_1 (i := 7) (by kernel_rfl) ?_
      refine wpOp_at rfl (.there (.there (.there (.there (.there (.there (.there .here))))))) rfl ?_
      refine wp_store_H rfl H rfl rfl (by repeat (first | (apply StoreAt.here; (first | exact CellsOf.agg | exact CellsOf.int | exact CellsOf.bool | exact CellsOf.slice | exact CellsOf.string | exact CellsOf.pointer | exact CellsOf.func); (repeat (first | exact SetsAt.nil | apply SetsAt.here | apply SetsAt.there)); exact rfl; exact rfl) | apply StoreAt.there)) ?_
      clear H
      intro w H
      refine ⟨⟨H.rw_ (by repeat (first | exact Take.head | apply Take.tail)), H.rw_ (by repeat (first | exact Take.head | apply Take.tail))⟩, ?_⟩
      (try simp only [Act.put, List.setIfInBounds_toArray, List.set_cons_succ, List.set_cons_zero])
      refine wpAnyH_done (by kernel_rfl) ?_ _
      exact ⟨rfl, y0, y2, h0, bH, (by show _ = _; rw [Hh0.out, Hy0.out, Hy2.out]; exact HM.out.symm), H.pick (.cons (by repeat (first | exact Take.head | apply Take.tail)) (.cons (by repeat (first | exact Take.head | apply Take.tail)) (.cons (by repeat (first | exact Take.head | apply Take.tail)) (.cons (by repeat (first | exact Take.head | apply Take.tail)) (.cons (by repeat (first | exact Take.head | apply Take.tail)) (.cons (by repeat (first | exact Take.head | apply Take.tail)) (.cons (by repeat (first | exact Take.head | apply Take.tail)) (.cons (by repeat (first | exact Take.head | apply Take.tail)) .nil)))))))), by first | (simp only [puts_cons, puts_nil, Act.put, List.setIfInBounds_toArray, List.set_cons_succ, List.set_cons_zero]; done) | (simp only [puts_cons, puts_nil, Act.put, List.setIfInBounds_toArray, List.set_cons_succ, List.set_cons_zero]; rfl)⟩
  clear H
  rintro u w ⟨y0, y2, h0, bH, Hh0, H, rfl⟩
  simp only [puts_cons, puts_nil, Act.put, List.setIfInBounds_toArray, List.set_cons_succ, List.set_cons_zero]
  have Zh0 := bbig_mm MB Hh0
  go_wp2_with (first
    | go_skip
    | ((with_reducible refine at_box ?_); first | (refine wpList_box_H (cs := (barr A).toList) rfl rfl H rfl CellsOf.agg ?_; clear H; intro bA w H) | (refine wpList_box_H (cs := (garr X).toList) rfl rfl H rfl CellsOf.agg ?_; clear H; intro bY w H) | (refine wpList_box_H rfl rfl H rfl (by first | exact CellsOf.agg | exact CellsOf.int | exact CellsOf.bool | exact CellsOf.slice | exact CellsOf.string | exact CellsOf.pointer | exact CellsOf.func) ?_; clear H; intro bQ w H))
    | ((with_reducible refine at_alloc ?_); first | (refine wpList_alloc_H rfl rfl H ?_; clear H; intro b w H))
    | ((with_reducible refine at_load ?_); first | (refine wpList_load_H rfl rfl H rfl (by repeat (first | exact LoadAt.here rfl | apply LoadAt.there)) ?_) | (refine wpList_loads_H rfl rfl H rfl (by repeat (first | (apply LoadsAt.here; repeat (first | exact GetsAt.nil | apply GetsAt.here | apply GetsAt.there)) | apply LoadsAt.there)) ?_))
    | ((with_reducible refine at_store ?_); first | (refine wpList_store_H rfl rfl H rfl rfl (by repeat (first | (apply StoreAt.here; (first | exact CellsOf.agg | exact CellsOf.int | exact CellsOf.bool | exact CellsOf.slice | exact CellsOf.string | exact CellsOf.pointer | exact CellsOf.func); (repeat (first | exact SetsAt.nil | apply SetsAt.here | apply SetsAt.there)); exact rfl; exact rfl) | apply StoreAt.there)) ?_; clear H; intro w H)))
  go_at_call 26
  refine (eqB_H h0 s0 H (by repeat (first | exact Take.head | apply Take.tail)) (by repeat (first | exact Take.head | apply Take.tail)) Zh0 (Hh0.out.trans Hs0.out.symm)).mono ?_
  clear H
  rintro e w ⟨rfl, H⟩
  go_wp2_with (first
    | go_skip
    | ((with_reducible refine at_box ?_); first | (refine wpList_box_H (cs := (barr A).toList) rfl rfl H rfl CellsOf.agg ?_; clear H; intro bA w H) | (refine wpList_box_H (cs := (garr X).toList) rfl rfl H rfl CellsOf.agg ?_; clear H; intro bY w H) | (refine wpList_box_H rfl rfl H rfl (by first | exact CellsOf.agg | exact CellsOf.int | exact CellsOf.bool | exact CellsOf.slice | exact CellsOf.string | exact CellsOf.pointer | exact CellsOf.func) ?_; clear H; intro bQ w H))
    | ((with_reducible refine at_alloc ?_); first | (refine wpList_alloc_H rfl rfl H ?_; clear H; intro b w H))
    | ((with_reducible refine at_load ?_); first | (refine wpList_load_H rfl rfl H rfl (by repeat (first | exact LoadAt.here rfl | apply LoadAt.there)) ?_) | (refine wpList_loads_H rfl rfl H rfl (by repeat (first | (apply LoadsAt.here; repeat (first | exact GetsAt.nil | apply GetsAt.here | apply GetsAt.there)) | apply LoadsAt.there)) ?_))
    | ((with_reducible refine at_store ?_); first | (refine wpList_store_H rfl rfl H rfl rfl (by repeat (first | (apply StoreAt.here; (first | exact CellsOf.agg | exact CellsOf.int | exact CellsOf.bool | exact CellsOf.slice | exact CellsOf.string | exact CellsOf.pointer | exact CellsOf.func); (repeat (first | exact SetsAt.nil | apply SetsAt.here | apply SetsAt.there)); exact rfl; exact rfl) | apply StoreAt.there)) ?_; clear H; intro w H)))
  go_at_call 52
  refine (heldB_H g0 H (by repeat (first | exact Take.head | apply Take.tail)) Zg0).mono ?_
  clear H
  rintro e w ⟨rfl, H⟩
  go_wp2_with (first
    | go_skip
    | ((with_reducible refine at_box ?_); first | (refine wpList_box_H (cs := (barr A).toList) rfl rfl H rfl CellsOf.agg ?_; clear H; intro bA w H) | (refine wpList_box_H (cs := (garr X).toList) rfl rfl H rfl CellsOf.agg ?_; clear H; intro bY w H) | (refine wpList_box_H rfl rfl H rfl (by first | exact CellsOf.agg | exact CellsOf.int | exact CellsOf.bool | exact CellsOf.slice | exact CellsOf.string | exact CellsOf.pointer | exact CellsOf.func) ?_; clear H; intro bQ w H))
    | ((with_reducible refine at_alloc ?_); first | (refine wpList_alloc_H rfl rfl H ?_; clear H; intro b w H))
    | ((with_reducible refine at_load ?_); first | (refine wpList_load_H rfl rfl H rfl (by repeat (first | exact LoadAt.here rfl | apply LoadAt.there)) ?_) | (refine wpList_loads_H rfl rfl H rfl (by repeat (first | (apply LoadsAt.here; repeat (first | exact GetsAt.nil | apply GetsAt.here | apply GetsAt.there)) | apply LoadsAt.there)) ?_))
    | ((with_reducible refine at_store ?_); first | (refine wpList_store_H rfl rfl H rfl rfl (by repeat (first | (apply StoreAt.here; (first | exact CellsOf.agg | exact CellsOf.int | exact CellsOf.bool | exact CellsOf.slice | exact CellsOf.string | exact CellsOf.pointer | exact CellsOf.func); (repeat (first | exact SetsAt.nil | apply SetsAt.here | apply SetsAt.there)); exact rfl; exact rfl) | apply StoreAt.there)) ?_; clear H; intro w H)))
  go_ret
  exact ⟨rfl, H.below⟩
end Go.Proofs.Ytgeoilpmmdfemaa
