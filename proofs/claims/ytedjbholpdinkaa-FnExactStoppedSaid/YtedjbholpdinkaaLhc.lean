/- Walks of the exact laws whose functions hand back a bool. No condition but that the arguments lie in memory. -/
import Derived.Test.YtedjbholpdinkaaLh
import Derived.Test.YtedjbholpdinkaaDr
namespace Go.Proofs.Ytedjbholpdinkaa
open Go.RowKit
attribute [local go_sem ↓] Go.wp_at_zero Go.wp_at_succ
set_option linter.unusedSimpArgs false in
set_option maxRecDepth 100000 in
set_option maxHeartbeats 4000000 in
theorem walk_fnExactStopped (a : GV) (x : Exit) (W0 : World) (ra : GRd W0 a ∧ GWide a) : Calls Try.prog 9 #[a.val, x.val] W0 fun e w' => e = .returned (.bool true) ∧ Below W0.heap.size W0 w' := by
  obtain ⟨R, W⟩ := ra
  have H := Hp.start W0
  obtain ⟨m, hm⟩ : ∃ m, m = stoppedM a.m x := ⟨_, rfl⟩
  have HM := Lib.hid hm; clear hm
  by_cases hneg : szG 1048576 a.m < 0
  · go_enter Try.func9, Try.ntmps9
    go_wp2_with (first
      | (refine wpList_box_H (cs := (garr a).toList) rfl rfl H rfl CellsOf.agg ?_; clear H; intro bA w H)
      | (refine wpList_box_H rfl rfl H rfl (by first | exact CellsOf.agg | exact CellsOf.int | exact CellsOf.bool | exact CellsOf.slice | exact CellsOf.string | exact CellsOf.pointer | exact CellsOf.func) ?_; clear H; intro bE w H)
      | (refine wpList_alloc_H rfl rfl H ?_; clear H; intro bE w H)
      | (refine wpList_load_H rfl rfl H rfl (by repeat (first | exact LoadAt.here rfl | apply LoadAt.there)) ?_)
      | (refine wpList_loads_H rfl rfl H rfl (by repeat (first | (apply LoadsAt.here; repeat (first | exact GetsAt.nil | apply GetsAt.here | apply GetsAt.there)) | apply LoadsAt.there)) ?_)
      | (refine wpList_store_H rfl rfl H rfl rfl (by repeat (first | (apply StoreAt.here; (first | exact CellsOf.agg | exact CellsOf.int | exact CellsOf.bool | exact CellsOf.slice | exact CellsOf.string | exact CellsOf.pointer | exact CellsOf.func); (repeat (first | exact SetsAt.nil | apply SetsAt.here | apply SetsAt.there)); exact rfl; exact rfl) | apply StoreAt.there)) ?_; clear H; intro w H))
    go_at_call 34
    refine (szGuest_any a 1048576 _ W (by omega) (by omega)).mono ?_
    rintro e w ⟨rfl, hb⟩
    replace H := H.still hb
    clear hb
    go_wp2_with (first
      | (refine wpList_box_H rfl rfl H rfl (by first | exact CellsOf.agg | exact CellsOf.int | exact CellsOf.bool | exact CellsOf.slice | exact CellsOf.string | exact CellsOf.pointer | exact CellsOf.func) ?_; clear H; intro b w H)
      | (refine wpList_alloc_H rfl rfl H ?_; clear H; intro b w H)
      | (refine wpList_load_H rfl rfl H rfl (by repeat (first | exact LoadAt.here rfl | apply LoadAt.there)) ?_)
      | (refine wpList_loads_H rfl rfl H rfl (by repeat (first | (apply LoadsAt.here; repeat (first | exact GetsAt.nil | apply GetsAt.here | apply GetsAt.there)) | apply LoadsAt.there)) ?_)
      | (refine wpList_store_H rfl rfl H rfl rfl (by repeat (first | (apply StoreAt.here; (first | exact CellsOf.agg | exact CellsOf.int | exact CellsOf.bool | exact CellsOf.slice | exact CellsOf.string | exact CellsOf.pointer | exact CellsOf.func); (repeat (first | exact SetsAt.nil | apply SetsAt.here | apply SetsAt.there)); exact rfl; exact rfl) | apply StoreAt.there)) ?_; clear H; intro w H))
    go_ret
    exact ⟨rfl, H.below⟩
  have hpos : 0 ≤ szG 1048576 a.m := by omega
  have hfit := szG_fit 1048576 a.m hneg
  have Z : GBig a := by unfold GBig big; simp only [GV.m] at hfit; omega
  have MB : MBig m := by rw [HM.out]; exact Z.m
  go_enter Try.func9, Try.ntmps9
  go_wp2_with (first
    | (refine wpList_box_H (cs := (garr a).toList) rfl rfl H rfl CellsOf.agg ?_; clear H; intro bA w H)
    | (refine wpList_box_H rfl rfl H rfl (by first | exact CellsOf.agg | exact CellsOf.int | exact CellsOf.bool | exact CellsOf.slice | exact CellsOf.string | exact CellsOf.pointer | exact CellsOf.func) ?_; clear H; intro bE w H)
    | (refine wpList_alloc_H rfl rfl H ?_; clear H; intro bE w H)
    | (refine wpList_load_H rfl rfl H rfl (by repeat (first | exact LoadAt.here rfl | apply LoadAt.there)) ?_)
    | (refine wpList_loads_H rfl rfl H rfl (by repeat (first | (apply LoadsAt.here; repeat (first | exact GetsAt.nil | apply GetsAt.here | apply GetsAt.there)) | apply LoadsAt.there)) ?_)
    | (refine wpList_store_H rfl rfl H rfl rfl (by repeat (first | (apply StoreAt.here; (first | exact CellsOf.agg | exact CellsOf.int | exact CellsOf.bool | exact CellsOf.slice | exact CellsOf.string | exact CellsOf.pointer | exact CellsOf.func); (repeat (first | exact SetsAt.nil | apply SetsAt.here | apply SetsAt.there)); exact rfl; exact rfl) | apply StoreAt.there)) ?_; clear H; intro w H))
  go_at_call 34
  refine (szGuest_any a 1048576 _ W (by omega) (by omega)).mono ?_
  rintro e w ⟨rfl, hb⟩
  replace H := H.still hb
  clear hb
  go_wp2_with (first
    | (refine wpList_box_H rfl rfl H rfl (by first | exact CellsOf.agg | exact CellsOf.int | exact CellsOf.bool | exact CellsOf.slice | exact CellsOf.string | exact CellsOf.pointer | exact CellsOf.func) ?_; clear H; intro b w H)
    | (refine wpList_alloc_H rfl rfl H ?_; clear H; intro b w H)
    | (refine wpList_load_H rfl rfl H rfl (by repeat (first | exact LoadAt.here rfl | apply LoadAt.there)) ?_)
    | (refine wpList_loads_H rfl rfl H rfl (by repeat (first | (apply LoadsAt.here; repeat (first | exact GetsAt.nil | apply GetsAt.here | apply GetsAt.there)) | apply LoadsAt.there)) ?_)
    | (refine wpList_store_H rfl rfl H rfl rfl (by repeat (first | (apply StoreAt.here; (first | exact CellsOf.agg | exact CellsOf.int | exact CellsOf.bool | exact CellsOf.slice | exact CellsOf.string | exact CellsOf.pointer | exact CellsOf.func); (repeat (first | exact SetsAt.nil | apply SetsAt.here | apply SetsAt.there)); exact rfl; exact rfl) | apply StoreAt.there)) ?_; clear H; intro w H))
  clear hneg hfit hpos
  refine wp_cut (fun u a' w' => ∃ (d0 s0 : GV) (bW : Nat), Hid (d0.m = a.m) ∧ Hid (s0.m = m) ∧ Hp W0 w' [.box bW 33 (garr s0).toList, .gst s0, .box bE 54 [.int .i64 x.kind, .int .i64 x.page, .bool x.write, .int .i64 x.n], .box bA 56 (garr a).toList] ∧ a' = puts u [(18, .agg (garr a)), (19, d0.val), (20, (.agg #[.int .i64 x.kind, .int .i64 x.page, .bool x.write, .int .i64 x.n])), (21, (.agg #[.int .i64 x.kind, .int .i64 x.page, .bool x.write, .int .i64 x.n])), (22, s0.val), (6, .pointer (some ⟨bW, 0, none⟩))]) ?_ ?_
  · refine wp_region_held (S := (fun w' => Rw w' bA 56 (garr a) ∧ Rw w' bE 54 ([.int .i64 x.kind, .int .i64 x.page, .bool x.write, .int .i64 x.n] : List Value).toArray)) (by kernel_rfl) ?_
    replace H := H.drew
    refine takeH (i := 0) rfl .here (by kernel_rfl) (by kernel_rfl) (by kernel_rfl) (fun _ _ _ h => absurd h.1 (by simp)) (yields_loads_R rfl rfl rfl (fun _ hS => hS.1) (by repeat (first | exact GetsAt.nil | apply GetsAt.here | apply GetsAt.there))) ⟨H.rw_ (by repeat (first | exact Take.head | apply Take.tail)), H.rw_ (by repeat (first | exact Take.head | apply Take.tail))⟩ ?_
    (try simp only [Act.put, List.setIfInBounds_toArray, List.set_cons_succ, List.set_cons_zero])
    refine takeH (i := 2) rfl (.there (.there .here)) (by kernel_rfl) (by kernel_rfl) (by kernel_rfl) (fun _ _ _ h => absurd h.1 (by simp)) (yields_loads_R rfl rfl rfl (fun _ hS => hS.2) (by repeat (first | exact GetsAt.nil | apply GetsAt.here | apply GetsAt.there))) ⟨H.rw_ (by repeat (first | exact Take.head | apply Take.tail)), H.rw_ (by repeat (first | exact Take.head | apply Take.tail))⟩ ?_
    (try simp only [Act.put, List.setIfInBounds_toArray, List.set_cons_succ, List.set_cons_zero])
    refine anyH_2 (i := 1) (j := 5) (by kernel_rfl) ?_ ?_
    · refine wpOp_at rfl (.there .here) rfl ?_
      refine wp_call_H Try.f36 rfl rfl Try.func36 (by kernel_rfl) rfl rfl (calls_ex (toG_H a H R Z)) ?_
      clear H
      rintro _ w ⟨d0, rfl, Hd0, H⟩
      refine ⟨⟨H.rw_ (by repeat (first | exact Take.head | apply Take.tail)), H.rw_ (by repeat (first | exact Take.head | apply Take.tail))⟩, ?_⟩
      (try simp only [Act.put, List.setIfInBounds_toArray, List.set_cons_succ, List.set_cons_zero])
      refine anyH_2 (i := 3) (j := 5) (by kernel_rfl) ?_ ?_
      · refine wpOp_at rfl (.there (.there (.there .here))) rfl ?_
        refine wp_call_H Try.f47 rfl rfl Try.func47 (by kernel_rfl) rfl rfl (calls_v (exit_H x H)) ?_
        clear H
        rintro _ w ⟨rfl, H⟩
        refine ⟨⟨H.rw_ (by repeat (first | exact Take.head | apply Take.tail)), H.rw_ (by repeat (first | exact Take.head | apply Take.tail))⟩, ?_⟩
        (try simp only [Act.put, List.setIfInBounds_toArray, List.set_cons_succ, List.set_cons_zero])
        refine anyH_2 (i := 4) (j := 5) (by kernel_rfl) ?_ ?_
        · refine wpOp_at rfl (.there (.there (.there (.there .here)))) rfl ?_
          refine wp_call_H Try.f46 rfl rfl Try.func46 (by kernel_rfl) rfl rfl (calls_ex (mkG_H H (specStopped_c d0 x m (by rw [Hd0.out]; exact HM.out) _ (H.gown (by repeat (first | exact Take.head | apply Take.tail))).rd (gbig_m Z Hd0)))) ?_
          clear H
          rintro _ w ⟨s0, rfl, Hs0, H⟩
          refine ⟨⟨H.rw_ (by repeat (first | exact Take.head | apply Take.tail)), H.rw_ (by repeat (first | exact Take.head | apply Take.tail))⟩, ?_⟩
          (try simp only [Act.put, List.setIfInBounds_toArray, List.set_cons_succ, List.set_cons_zero])
          refine anyH_1 (i := 5) (by kernel_rfl) ?_
          refine wpOp_at rfl (.there (.there (.there (.there (.there .here))))) rfl ?_
          refine wp_alloc_H rfl H ?_
          clear H
          intro bW w H
          refine ⟨⟨H.rw_ (by repeat (first | exact Take.head | apply Take.tail)), H.rw_ (by repeat (first | exact Take.head | apply Take.tail))⟩, ?_⟩
          (try simp only [Act.put, List.setIfInBounds_toArray, List.set_cons_succ, List.set_cons_zero])
          refine anyH_1 (i := 6) (by kernel_rfl) ?_
          refine wpOp_at rfl (.there (.there (.there (.there (.there (.there .here)))))) rfl ?_
          refine wp_store_H rfl H rfl rfl (by repeat (first | (apply StoreAt.here; (first | exact CellsOf.agg | exact CellsOf.int | exact CellsOf.bool | exact CellsOf.slice | exact CellsOf.string | exact CellsOf.pointer | exact CellsOf.func); (repeat (first | exact SetsAt.nil | apply SetsAt.here | apply SetsAt.there)); exact rfl; exact rfl) | apply StoreAt.there)) ?_
          clear H
          intro w H
          refine ⟨⟨H.rw_ (by repeat (first | exact Take.head | apply Take.tail)), H.rw_ (by repeat (first | exact Take.head | apply Take.tail))⟩, ?_⟩
          (try simp only [Act.put, List.setIfInBounds_toArray, List.set_cons_succ, List.set_cons_zero])
          refine wpAnyH_done (by kernel_rfl) ?_ _
          exact ⟨rfl, d0, s0, bW, Hd0, Hs0, H.pick (.cons (by repeat (first | exact Take.head | apply Take.tail)) (.cons (by repeat (first | exact Take.head | apply Take.tail)) (.cons (by repeat (first | exact Take.head | apply Take.tail)) (.cons (by repeat (first | exact Take.head | apply Take.tail)) .nil)))), by first | (simp only [puts_cons, puts_nil, Act.put, List.setIfInBounds_toArray, List.set_cons_succ, List.set_cons_zero]; done) | (simp only [puts_cons, puts_nil, Act.put, List.setIfInBounds_toArray, List.set_cons_succ, List.set_cons_zero]; rfl)⟩
        · refine wpOp_at rfl (.there (.there (.there (.there (.there .here))))) rfl ?_
          refine wp_alloc_H rfl H ?_
          clear H
          intro bW w H
          refine ⟨⟨H.rw_ (by repeat (first | exact Take.head | apply Take.tail)), H.rw_ (by repeat (first | exact Take.head | apply Take.tail))⟩, ?_⟩
          (try simp only [Act.put, List.setIfInBounds_toArray, List.set_cons_succ, List.set_cons_zero])
          refine anyH_1 (i := 4) (by kernel_rfl) ?_
          refine wpOp_at rfl (.there (.there (.there (.there .here)))) rfl ?_
          refine wp_call_H Try.f46 rfl rfl Try.func46 (by kernel_rfl) rfl rfl (calls_ex (mkG_H H (specStopped_c d0 x m (by rw [Hd0.out]; exact HM.out) _ (H.gown (by repeat (first | exact Take.head | apply Take.tail))).rd (gbig_m Z Hd0)))) ?_
          clear H
          rintro _ w ⟨s0, rfl, Hs0, H⟩
          refine ⟨⟨H.rw_ (by repeat (first | exact Take.head | apply Take.tail)), H.rw_ (by repeat (first | exact Take.head | apply Take.tail))⟩, ?_⟩
          (try simp only [Act.put, List.setIfInBounds_toArray, List.set_cons_succ, List.set_cons_zero])
          refine anyH_1 (i := 6) (by kernel_rfl) ?_
          refine wpOp_at rfl (.there (.there (.there (.there (.there (.there .here)))))) rfl ?_
          refine wp_store_H rfl H rfl rfl (by repeat (first | (apply StoreAt.here; (first | exact CellsOf.agg | exact CellsOf.int | exact CellsOf.bool | exact CellsOf.slice | exact CellsOf.string | exact CellsOf.pointer | exact CellsOf.func); (repeat (first | exact SetsAt.nil | apply SetsAt.here | apply SetsAt.there)); exact rfl; exact rfl) | apply StoreAt.there)) ?_
          clear H
          intro w H
          refine ⟨⟨H.rw_ (by repeat (first | exact Take.head | apply Take.tail)), H.rw_ (by repeat (first | exact Take.head | apply Take.tail))⟩, ?_⟩
          (try simp only [Act.put, List.setIfInBounds_toArray, List.set_cons_succ, List.set_cons_zero])
          refine wpAnyH_done (by kernel_rfl) ?_ _
          exact ⟨rfl, d0, s0, bW, Hd0, Hs0, H.pick (.cons (by repeat (first | exact Take.head | apply Take.tail)) (.cons (by repeat (first | exact Take.head | apply Take.tail)) (.cons (by repeat (first | exact Take.head | apply Take.tail)) (.cons (by repeat (first | exact Take.head | apply Take.tail)) .nil)))), by first | (simp only [puts_cons, puts_nil, Act.put, List.setIfInBounds_toArray, List.set_cons_succ, List.set_cons_zero]; done) | (simp only [puts_cons, puts_nil, Act.put, List.setIfInBounds_toArray, List.set_cons_succ, List.set_cons_zero]; rfl)⟩
      · refine wpOp_at rfl (.there (.there (.there (.there (.there .here))))) rfl ?_
        refine wp_alloc_H rfl H ?_
        clear H
        intro bW w H
        refine ⟨⟨H.rw_ (by repeat (first | exact Take.head | apply Take.tail)), H.rw_ (by repeat (first | exact Take.head | apply Take.tail))⟩, ?_⟩
        (try simp only [Act.put, List.setIfInBounds_toArray, List.set_cons_succ, List.set_cons_zero])
        refine anyH_1 (i := 3) (by kernel_rfl) ?_
        refine wpOp_at rfl (.there (.there (.there .here))) rfl ?_
        refine wp_call_H Try.f47 rfl rfl Try.func47 (by kernel_rfl) rfl rfl (calls_v (exit_H x H)) ?_
        clear H
        rintro _ w ⟨rfl, H⟩
        refine ⟨⟨H.rw_ (by repeat (first | exact Take.head | apply Take.tail)), H.rw_ (by repeat (first | exact Take.head | apply Take.tail))⟩, ?_⟩
        (try simp only [Act.put, List.setIfInBounds_toArray, List.set_cons_succ, List.set_cons_zero])
        refine anyH_1 (i := 4) (by kernel_rfl) ?_
        refine wpOp_at rfl (.there (.there (.there (.there .here)))) rfl ?_
        refine wp_call_H Try.f46 rfl rfl Try.func46 (by kernel_rfl) rfl rfl (calls_ex (mkG_H H (specStopped_c d0 x m (by rw [Hd0.out]; exact HM.out) _ (H.gown (by repeat (first | exact Take.head | apply Take.tail))).rd (gbig_m Z Hd0)))) ?_
        clear H
        rintro _ w ⟨s0, rfl, Hs0, H⟩
        refine ⟨⟨H.rw_ (by repeat (first | exact Take.head | apply Take.tail)), H.rw_ (by repeat (first | exact Take.head | apply Take.tail))⟩, ?_⟩
        (try simp only [Act.put, List.setIfInBounds_toArray, List.set_cons_succ, List.set_cons_zero])
        refine anyH_1 (i := 6) (by kernel_rfl) ?_
        refine wpOp_at rfl (.there (.there (.there (.there (.there (.there .here)))))) rfl ?_
        refine wp_store_H rfl H rfl rfl (by repeat (first | (apply StoreAt.here; (first | exact CellsOf.agg | exact CellsOf.int | exact CellsOf.bool | exact CellsOf.slice | exact CellsOf.string | exact CellsOf.pointer | exact CellsOf.func); (repeat (first | exact SetsAt.nil | apply SetsAt.here | apply SetsAt.there)); exact rfl; exact rfl) | apply StoreAt.there)) ?_
        clear H
        intro w H
        refine ⟨⟨H.rw_ (by repeat (first | exact Take.head | apply Take.tail)), H.rw_ (by repeat (first | exact Take.head | apply Take.tail))⟩, ?_⟩
        (try simp only [Act.put, List.setIfInBounds_toArray, List.set_cons_succ, List.set_cons_zero])
        refine wpAnyH_done (by kernel_rfl) ?_ _
        exact ⟨rfl, d0, s0, bW, Hd0, Hs0, H.pick (.cons (by repeat (first | exact Take.head | apply Take.tail)) (.cons (by repeat (first | exact Take.head | apply Take.tail)) (.cons (by repeat (first | exact Take.head | apply Take.tail)) (.cons (by repeat (first | exact Take.head | apply Take.tail)) .nil)))), by first | (simp only [puts_cons, puts_nil, Act.put, List.setIfInBounds_toArray, List.set_cons_succ, List.set_cons_zero]; done) | (simp only [puts_cons, puts_nil, Act.put, List.setIfInBounds_toArray, List.set_cons_succ, List.set_cons_zero]; rfl)⟩
    · refine wpOp_at rfl (.there (.there (.there (.there (.there .here))))) rfl ?_
      refine wp_alloc_H rfl H ?_
      clear H
      intro bW w H
      refine ⟨⟨H.rw_ (by repeat (first | exact Take.head | apply Take.tail)), H.rw_ (by repeat (first | exact Take.head | apply Take.tail))⟩, ?_⟩
      (try simp only [Act.put, List.setIfInBounds_toArray, List.set_cons_succ, List.set_cons_zero])
      refine anyH_1 (i := 1) (by kernel_rfl) ?_
      refine wpOp_at rfl (.there .here) rfl ?_
      refine wp_call_H Try.f36 rfl rfl Try.func36 (by kernel_rfl) rfl rfl (calls_ex (toG_H a H R Z)) ?_
      clear H
      rintro _ w ⟨d0, rfl, Hd0, H⟩
      refine ⟨⟨H.rw_ (by repeat (first | exact Take.head | apply Take.tail)), H.rw_ (by repeat (first | exact Take.head | apply Take.tail))⟩, ?_⟩
      (try simp only [Act.put, List.setIfInBounds_toArray, List.set_cons_succ, List.set_cons_zero])
      refine anyH_1 (i := 3) (by kernel_rfl) ?_
      refine wpOp_at rfl (.there (.there (.there .here))) rfl ?_
      refine wp_call_H Try.f47 rfl rfl Try.func47 (by kernel_rfl) rfl rfl (calls_v (exit_H x H)) ?_
      clear H
      rintro _ w ⟨rfl, H⟩
      refine ⟨⟨H.rw_ (by repeat (first | exact Take.head | apply Take.tail)), H.rw_ (by repeat (first | exact Take.head | apply Take.tail))⟩, ?_⟩
      (try simp only [Act.put, List.setIfInBounds_toArray, List.set_cons_succ, List.set_cons_zero])
      refine anyH_1 (i := 4) (by kernel_rfl) ?_
      refine wpOp_at rfl (.there (.there (.there (.there .here)))) rfl ?_
      refine wp_call_H Try.f46 rfl rfl Try.func46 (by kernel_rfl) rfl rfl (calls_ex (mkG_H H (specStopped_c d0 x m (by rw [Hd0.out]; exact HM.out) _ (H.gown (by repeat (first | exact Take.head | apply Take.tail))).rd (gbig_m Z Hd0)))) ?_
      clear H
      rintro _ w ⟨s0, rfl, Hs0, H⟩
      refine ⟨⟨H.rw_ (by repeat (first | exact Take.head | apply Take.tail)), H.rw_ (by repeat (first | exact Take.head | apply Take.tail))⟩, ?_⟩
      (try simp only [Act.put, List.setIfInBounds_toArray, List.set_cons_succ, List.set_cons_zero])
      refine anyH_1 (i := 6) (by kernel_rfl) ?_
      refine wpOp_at rfl (.there (.there (.there (.there (.there (.there .here)))))) rfl ?_
      refine wp_store_H rfl H rfl rfl (by repeat (first | (apply StoreAt.here; (first | exact CellsOf.agg | exact CellsOf.int | exact CellsOf.bool | exact CellsOf.slice | exact CellsOf.string | exact CellsOf.pointer | exact CellsOf.func); (repeat (first | exact SetsAt.nil | apply SetsAt.here | apply SetsAt.there)); exact rfl; exact rfl) | apply StoreAt.there)) ?_
      clear H
      intro w H
      refine ⟨⟨H.rw_ (by repeat (first | exact Take.head | apply Take.tail)), H.rw_ (by repeat (first | exact Take.head | apply Take.tail))⟩, ?_⟩
      (try simp only [Act.put, List.setIfInBounds_toArray, List.set_cons_succ, List.set_cons_zero])
      refine wpAnyH_done (by kernel_rfl) ?_ _
      exact ⟨rfl, d0, s0, bW, Hd0, Hs0, H.pick (.cons (by repeat (first | exact Take.head | apply Take.tail)) (.cons (by repeat (first | exact Take.head | apply Take.tail)) (.cons (by repeat (first | exact Take.head | apply Take.tail)) (.cons (by repeat (first | exact Take.head | apply Take.tail)) .nil)))), by first | (simp only [puts_cons, puts_nil, Act.put, List.setIfInBounds_toArray, List.set_cons_succ, List.set_cons_zero]; done) | (simp only [puts_cons, puts_nil, Act.put, List.setIfInBounds_toArray, List.set_cons_succ, List.set_cons_zero]; rfl)⟩
  clear H
  rintro u w ⟨d0, s0, bW, Hd0, Hs0, H, rfl⟩
  simp only [puts_cons, puts_nil, Act.put, List.setIfInBounds_toArray, List.set_cons_succ, List.set_cons_zero]
  have Zd0 := gbig_m Z Hd0
  have Zs0 := gbig_mm MB Hs0
  go_wp2_with (first
    | (refine wpList_box_H rfl rfl H rfl (by first | exact CellsOf.agg | exact CellsOf.int | exact CellsOf.bool | exact CellsOf.slice | exact CellsOf.string | exact CellsOf.pointer | exact CellsOf.func) ?_; clear H; intro b w H)
    | (refine wpList_alloc_H rfl rfl H ?_; clear H; intro b w H)
    | (refine wpList_load_H rfl rfl H rfl (by repeat (first | exact LoadAt.here rfl | apply LoadAt.there)) ?_)
    | (refine wpList_loads_H rfl rfl H rfl (by repeat (first | (apply LoadsAt.here; repeat (first | exact GetsAt.nil | apply GetsAt.here | apply GetsAt.there)) | apply LoadsAt.there)) ?_)
    | (refine wpList_store_H rfl rfl H rfl rfl (by repeat (first | (apply StoreAt.here; (first | exact CellsOf.agg | exact CellsOf.int | exact CellsOf.bool | exact CellsOf.slice | exact CellsOf.string | exact CellsOf.pointer | exact CellsOf.func); (repeat (first | exact SetsAt.nil | apply SetsAt.here | apply SetsAt.there)); exact rfl; exact rfl) | apply StoreAt.there)) ?_; clear H; intro w H))
  go_at_call 36
  refine (toG_H a H R Z).mono ?_
  clear H
  rintro e w ⟨x0, rfl, Hx0, H⟩
  have Zx0 := gbig_m Z Hx0
  go_wp2_with (first
    | (refine wpList_box_H rfl rfl H rfl (by first | exact CellsOf.agg | exact CellsOf.int | exact CellsOf.bool | exact CellsOf.slice | exact CellsOf.string | exact CellsOf.pointer | exact CellsOf.func) ?_; clear H; intro bX w H)
    | (refine wpList_alloc_H rfl rfl H ?_; clear H; intro bX w H)
    | (refine wpList_load_H rfl rfl H rfl (by repeat (first | exact LoadAt.here rfl | apply LoadAt.there)) ?_)
    | (refine wpList_loads_H rfl rfl H rfl (by repeat (first | (apply LoadsAt.here; repeat (first | exact GetsAt.nil | apply GetsAt.here | apply GetsAt.there)) | apply LoadsAt.there)) ?_)
    | (refine wpList_store_H rfl rfl H rfl rfl (by repeat (first | (apply StoreAt.here; (first | exact CellsOf.agg | exact CellsOf.int | exact CellsOf.bool | exact CellsOf.slice | exact CellsOf.string | exact CellsOf.pointer | exact CellsOf.func); (repeat (first | exact SetsAt.nil | apply SetsAt.here | apply SetsAt.there)); exact rfl; exact rfl) | apply StoreAt.there)) ?_; clear H; intro w H))
  refine wp_cut (fun u a' w' => ∃ (g0 : GV) (bG : Nat), Hid (g0.m = m) ∧ Hp W0 w' [.box bG 33 (garr g0).toList, .gst g0, .box bX 33 (garr x0).toList, .gst x0, .box bW 33 (garr s0).toList, .gst s0, .box bE 54 [.int .i64 x.kind, .int .i64 x.page, .bool x.write, .int .i64 x.n], .box bA 56 (garr a).toList] ∧ a' = puts u [(25, .agg (garr x0)), (26, (.agg #[.int .i64 x.kind, .int .i64 x.page, .bool x.write, .int .i64 x.n])), (27, (.agg #[.int .i64 x.kind, .int .i64 x.page, .bool x.write, .int .i64 x.n])), (28, g0.val), (8, .pointer (some ⟨bG, 0, none⟩))]) ?_ ?_
  · refine wp_region_held (S := (fun w' => Rw w' bX 33 (garr x0) ∧ Rw w' bE 54 ([.int .i64 x.kind, .int .i64 x.page, .bool x.write, .int .i64 x.n] : List Value).toArray)) (by kernel_rfl) ?_
    replace H := H.drew
    refine takeH (i := 0) rfl .here (by kernel_rfl) (by kernel_rfl) (by kernel_rfl) (fun _ _ _ h => absurd h.1 (by simp)) (yields_loads_R rfl rfl rfl (fun _ hS => hS.1) (by repeat (first | exact GetsAt.nil | apply GetsAt.here | apply GetsAt.there))) ⟨H.rw_ (by repeat (first | exact Take.head | apply Take.tail)), H.rw_ (by repeat (first | exact Take.head | apply Take.tail))⟩ ?_
    (try simp only [Act.put, List.setIfInBounds_toArray, List.set_cons_succ, List.set_cons_zero])
    refine takeH (i := 1) rfl (.there .here) (by kernel_rfl) (by kernel_rfl) (by kernel_rfl) (fun _ _ _ h => absurd h.1 (by simp)) (yields_loads_R rfl rfl rfl (fun _ hS => hS.2) (by repeat (first | exact GetsAt.nil | apply GetsAt.here | apply GetsAt.there))) ⟨H.rw_ (by repeat (first | exact Take.head | apply Take.tail)), H.rw_ (by repeat (first | exact Take.head | apply Take.tail))⟩ ?_
    (try simp only [Act.put, List.setIfInBounds_toArray, List.set_cons_succ, List.set_cons_zero])
    refine anyH_2 (i := 2) (j := 4) (by kernel_rfl) ?_ ?_
    · refine wpOp_at rfl (.there (.there .here)) rfl ?_
      refine wp_call_H Try.f47 rfl rfl Try.func47 (by kernel_rfl) rfl rfl (calls_v (exit_H x H)) ?_
      clear H
      rintro _ w ⟨rfl, H⟩
      refine ⟨⟨H.rw_ (by repeat (first | exact Take.head | apply Take.tail)), H.rw_ (by repeat (first | exact Take.head | apply Take.tail))⟩, ?_⟩
      (try simp only [Act.put, List.setIfInBounds_toArray, List.set_cons_succ, List.set_cons_zero])
      refine anyH_2 (i := 3) (j := 4) (by kernel_rfl) ?_ ?_
      · refine wpOp_at rfl (.there (.there (.there .here))) rfl ?_
        refine wp_call_H Try.f48 rfl rfl Try.func48 (by kernel_rfl) rfl rfl (calls_ex (mkG_H H (stopped_c x0 x m (by rw [Hx0.out]; exact HM.out) _ (H.gown (by repeat (first | exact Take.head | apply Take.tail))).rd (gbig_m Z Hx0)))) ?_
        clear H
        rintro _ w ⟨g0, rfl, Hg0, H⟩
        refine ⟨⟨H.rw_ (by repeat (first | exact Take.head | apply Take.tail)), H.rw_ (by repeat (first | exact Take.head | apply Take.tail))⟩, ?_⟩
        (try simp only [Act.put, List.setIfInBounds_toArray, List.set_cons_succ, List.set_cons_zero])
        refine anyH_1 (i := 4) (by kernel_rfl) ?_
        refine wpOp_at rfl (.there (.there (.there (.there .here)))) rfl ?_
        refine wp_alloc_H rfl H ?_
        clear H
        intro bG w H
        refine ⟨⟨H.rw_ (by repeat (first | exact Take.head | apply Take.tail)), H.rw_ (by repeat (first | exact Take.head | apply Take.tail))⟩, ?_⟩
        (try simp only [Act.put, List.setIfInBounds_toArray, List.set_cons_succ, List.set_cons_zero])
        refine anyH_1 (i := 5) (by kernel_rfl) ?_
        refine wpOp_at rfl (.there (.there (.there (.there (.there .here))))) rfl ?_
        refine wp_store_H rfl H rfl rfl (by repeat (first | (apply StoreAt.here; (first | exact CellsOf.agg | exact CellsOf.int | exact CellsOf.bool | exact CellsOf.slice | exact CellsOf.string | exact CellsOf.pointer | exact CellsOf.func); (repeat (first | exact SetsAt.nil | apply SetsAt.here | apply SetsAt.there)); exact rfl; exact rfl) | apply StoreAt.there)) ?_
        clear H
        intro w H
        refine ⟨⟨H.rw_ (by repeat (first | exact Take.head | apply Take.tail)), H.rw_ (by repeat (first | exact Take.head | apply Take.tail))⟩, ?_⟩
        (try simp only [Act.put, List.setIfInBounds_toArray, List.set_cons_succ, List.set_cons_zero])
        refine wpAnyH_done (by kernel_rfl) ?_ _
        exact ⟨rfl, g0, bG, Hg0, H.pick (.cons (by repeat (first | exact Take.head | apply Take.tail)) (.cons (by repeat (first | exact Take.head | apply Take.tail)) (.cons (by repeat (first | exact Take.head | apply Take.tail)) (.cons (by repeat (first | exact Take.head | apply Take.tail)) (.cons (by repeat (first | exact Take.head | apply Take.tail)) (.cons (by repeat (first | exact Take.head | apply Take.tail)) (.cons (by repeat (first | exact Take.head | apply Take.tail)) (.cons (by repeat (first | exact Take.head | apply Take.tail)) .nil)))))))), by first | (simp only [puts_cons, puts_nil, Act.put, List.setIfInBounds_toArray, List.set_cons_succ, List.set_cons_zero]; done) | (simp only [puts_cons, puts_nil, Act.put, List.setIfInBounds_toArray, List.set_cons_succ, List.set_cons_zero]; rfl)⟩
      · refine wpOp_at rfl (.there (.there (.there (.there .here)))) rfl ?_
        refine wp_alloc_H rfl H ?_
        clear H
        intro bG w H
        refine ⟨⟨H.rw_ (by repeat (first | exact Take.head | apply Take.tail)), H.rw_ (by repeat (first | exact Take.head | apply Take.tail))⟩, ?_⟩
        (try simp only [Act.put, List.setIfInBounds_toArray, List.set_cons_succ, List.set_cons_zero])
        refine anyH_1 (i := 3) (by kernel_rfl) ?_
        refine wpOp_at rfl (.there (.there (.there .here))) rfl ?_
        refine wp_call_H Try.f48 rfl rfl Try.func48 (by kernel_rfl) rfl rfl (calls_ex (mkG_H H (stopped_c x0 x m (by rw [Hx0.out]; exact HM.out) _ (H.gown (by repeat (first | exact Take.head | apply Take.tail))).rd (gbig_m Z Hx0)))) ?_
        clear H
        rintro _ w ⟨g0, rfl, Hg0, H⟩
        refine ⟨⟨H.rw_ (by repeat (first | exact Take.head | apply Take.tail)), H.rw_ (by repeat (first | exact Take.head | apply Take.tail))⟩, ?_⟩
        (try simp only [Act.put, List.setIfInBounds_toArray, List.set_cons_succ, List.set_cons_zero])
        refine anyH_1 (i := 5) (by kernel_rfl) ?_
        refine wpOp_at rfl (.there (.there (.there (.there (.there .here))))) rfl ?_
        refine wp_store_H rfl H rfl rfl (by repeat (first | (apply StoreAt.here; (first | exact CellsOf.agg | exact CellsOf.int | exact CellsOf.bool | exact CellsOf.slice | exact CellsOf.string | exact CellsOf.pointer | exact CellsOf.func); (repeat (first | exact SetsAt.nil | apply SetsAt.here | apply SetsAt.there)); exact rfl; exact rfl) | apply StoreAt.there)) ?_
        clear H
        intro w H
        refine ⟨⟨H.rw_ (by repeat (first | exact Take.head | apply Take.tail)), H.rw_ (by repeat (first | exact Take.head | apply Take.tail))⟩, ?_⟩
        (try simp only [Act.put, List.setIfInBounds_toArray, List.set_cons_succ, List.set_cons_zero])
        refine wpAnyH_done (by kernel_rfl) ?_ _
        exact ⟨rfl, g0, bG, Hg0, H.pick (.cons (by repeat (first | exact Take.head | apply Take.tail)) (.cons (by repeat (first | exact Take.head | apply Take.tail)) (.cons (by repeat (first | exact Take.head | apply Take.tail)) (.cons (by repeat (first | exact Take.head | apply Take.tail)) (.cons (by repeat (first | exact Take.head | apply Take.tail)) (.cons (by repeat (first | exact Take.head | apply Take.tail)) (.cons (by repeat (first | exact Take.head | apply Take.tail)) (.cons (by repeat (first | exact Take.head | apply Take.tail)) .nil)))))))), by first | (simp only [puts_cons, puts_nil, Act.put, List.setIfInBounds_toArray, List.set_cons_succ, List.set_cons_zero]; done) | (simp only [puts_cons, puts_nil, Act.put, List.setIfInBounds_toArray, List.set_cons_succ, List.set_cons_zero]; rfl)⟩
    · refine wpOp_at rfl (.there (.there (.there (.there .here)))) rfl ?_
      refine wp_alloc_H rfl H ?_
      clear H
      intro bG w H
      refine ⟨⟨H.rw_ (by repeat (first | exact Take.head | apply Take.tail)), H.rw_ (by repeat (first | exact Take.head | apply Take.tail))⟩, ?_⟩
      (try simp only [Act.put, List.setIfInBounds_toArray, List.set_cons_succ, List.set_cons_zero])
      refine anyH_1 (i := 2) (by kernel_rfl) ?_
      refine wpOp_at rfl (.there (.there .here)) rfl ?_
      refine wp_call_H Try.f47 rfl rfl Try.func47 (by kernel_rfl) rfl rfl (calls_v (exit_H x H)) ?_
      clear H
      rintro _ w ⟨rfl, H⟩
      refine ⟨⟨H.rw_ (by repeat (first | exact Take.head | apply Take.tail)), H.rw_ (by repeat (first | exact Take.head | apply Take.tail))⟩, ?_⟩
      (try simp only [Act.put, List.setIfInBounds_toArray, List.set_cons_succ, List.set_cons_zero])
      refine anyH_1 (i := 3) (by kernel_rfl) ?_
      refine wpOp_at rfl (.there (.there (.there .here))) rfl ?_
      refine wp_call_H Try.f48 rfl rfl Try.func48 (by kernel_rfl) rfl rfl (calls_ex (mkG_H H (stopped_c x0 x m (by rw [Hx0.out]; exact HM.out) _ (H.gown (by repeat (first | exact Take.head | apply Take.tail))).rd (gbig_m Z Hx0)))) ?_
      clear H
      rintro _ w ⟨g0, rfl, Hg0, H⟩
      refine ⟨⟨H.rw_ (by repeat (first | exact Take.head | apply Take.tail)), H.rw_ (by repeat (first | exact Take.head | apply Take.tail))⟩, ?_⟩
      (try simp only [Act.put, List.setIfInBounds_toArray, List.set_cons_succ, List.set_cons_zero])
      refine anyH_1 (i := 5) (by kernel_rfl) ?_
      refine wpOp_at rfl (.there (.there (.there (.there (.there .here))))) rfl ?_
      refine wp_store_H rfl H rfl rfl (by repeat (first | (apply StoreAt.here; (first | exact CellsOf.agg | exact CellsOf.int | exact CellsOf.bool | exact CellsOf.slice | exact CellsOf.string | exact CellsOf.pointer | exact CellsOf.func); (repeat (first | exact SetsAt.nil | apply SetsAt.here | apply SetsAt.there)); exact rfl; exact rfl) | apply StoreAt.there)) ?_
      clear H
      intro w H
      refine ⟨⟨H.rw_ (by repeat (first | exact Take.head | apply Take.tail)), H.rw_ (by repeat (first | exact Take.head | apply Take.tail))⟩, ?_⟩
      (try simp only [Act.put, List.setIfInBounds_toArray, List.set_cons_succ, List.set_cons_zero])
      refine wpAnyH_done (by kernel_rfl) ?_ _
      exact ⟨rfl, g0, bG, Hg0, H.pick (.cons (by repeat (first | exact Take.head | apply Take.tail)) (.cons (by repeat (first | exact Take.head | apply Take.tail)) (.cons (by repeat (first | exact Take.head | apply Take.tail)) (.cons (by repeat (first | exact Take.head | apply Take.tail)) (.cons (by repeat (first | exact Take.head | apply Take.tail)) (.cons (by repeat (first | exact Take.head | apply Take.tail)) (.cons (by repeat (first | exact Take.head | apply Take.tail)) (.cons (by repeat (first | exact Take.head | apply Take.tail)) .nil)))))))), by first | (simp only [puts_cons, puts_nil, Act.put, List.setIfInBounds_toArray, List.set_cons_succ, List.set_cons_zero]; done) | (simp only [puts_cons, puts_nil, Act.put, List.setIfInBounds_toArray, List.set_cons_succ, List.set_cons_zero]; rfl)⟩
  clear H
  rintro u w ⟨g0, bG, Hg0, H, rfl⟩
  simp only [puts_cons, puts_nil, Act.put, List.setIfInBounds_toArray, List.set_cons_succ, List.set_cons_zero]
  have Zg0 := gbig_mm MB Hg0
  go_wp2_with (first
    | (refine wpList_box_H rfl rfl H rfl (by first | exact CellsOf.agg | exact CellsOf.int | exact CellsOf.bool | exact CellsOf.slice | exact CellsOf.string | exact CellsOf.pointer | exact CellsOf.func) ?_; clear H; intro b w H)
    | (refine wpList_alloc_H rfl rfl H ?_; clear H; intro b w H)
    | (refine wpList_load_H rfl rfl H rfl (by repeat (first | exact LoadAt.here rfl | apply LoadAt.there)) ?_)
    | (refine wpList_loads_H rfl rfl H rfl (by repeat (first | (apply LoadsAt.here; repeat (first | exact GetsAt.nil | apply GetsAt.here | apply GetsAt.there)) | apply LoadsAt.there)) ?_)
    | (refine wpList_store_H rfl rfl H rfl rfl (by repeat (first | (apply StoreAt.here; (first | exact CellsOf.agg | exact CellsOf.int | exact CellsOf.bool | exact CellsOf.slice | exact CellsOf.string | exact CellsOf.pointer | exact CellsOf.func); (repeat (first | exact SetsAt.nil | apply SetsAt.here | apply SetsAt.there)); exact rfl; exact rfl) | apply StoreAt.there)) ?_; clear H; intro w H))
  go_at_call 38
  refine (eqG_H g0 s0 H (by repeat (first | exact Take.head | apply Take.tail)) (by repeat (first | exact Take.head | apply Take.tail)) Zg0 (Hg0.out.trans Hs0.out.symm)).mono ?_
  clear H
  rintro e w ⟨rfl, H⟩
  go_wp2_with (first
    | (refine wpList_box_H rfl rfl H rfl (by first | exact CellsOf.agg | exact CellsOf.int | exact CellsOf.bool | exact CellsOf.slice | exact CellsOf.string | exact CellsOf.pointer | exact CellsOf.func) ?_; clear H; intro b w H)
    | (refine wpList_alloc_H rfl rfl H ?_; clear H; intro b w H)
    | (refine wpList_load_H rfl rfl H rfl (by repeat (first | exact LoadAt.here rfl | apply LoadAt.there)) ?_)
    | (refine wpList_loads_H rfl rfl H rfl (by repeat (first | (apply LoadsAt.here; repeat (first | exact GetsAt.nil | apply GetsAt.here | apply GetsAt.there)) | apply LoadsAt.there)) ?_)
    | (refine wpList_store_H rfl rfl H rfl rfl (by repeat (first | (apply StoreAt.here; (first | exact CellsOf.agg | exact CellsOf.int | exact CellsOf.bool | exact CellsOf.slice | exact CellsOf.string | exact CellsOf.pointer | exact CellsOf.func); (repeat (first | exact SetsAt.nil | apply SetsAt.here | apply SetsAt.there)); exact rfl; exact rfl) | apply StoreAt.there)) ?_; clear H; intro w H))
  go_region_held3 (fun w' => (∀ o, w'.cell? ⟨bX, o, none⟩ = (garr x0)[o]?) ∧ (∀ o, w'.cell? ⟨bA, o, none⟩ = (garr a)[o]?)) (exact ⟨H.cells (by repeat (first | exact Take.head | apply Take.tail)), H.cells (by repeat (first | exact Take.head | apply Take.tail))⟩)
    ((first | (go_at_call 36; refine (toG_H a H.drew R Z).mono ?_; clear H; rintro e w ⟨t0, rfl, Ht0, H⟩) | (go_at_call 38; refine (eqG_H x0 t0 H (by repeat (first | exact Take.head | apply Take.tail)) (by repeat (first | exact Take.head | apply Take.tail)) Zx0 (Hx0.out.trans Ht0.out.symm)).mono ?_; clear H; rintro e w ⟨rfl, H⟩)))
  go_wp2_with (first
    | (refine wpList_box_H rfl rfl H rfl (by first | exact CellsOf.agg | exact CellsOf.int | exact CellsOf.bool | exact CellsOf.slice | exact CellsOf.string | exact CellsOf.pointer | exact CellsOf.func) ?_; clear H; intro b w H)
    | (refine wpList_alloc_H rfl rfl H ?_; clear H; intro b w H)
    | (refine wpList_load_H rfl rfl H rfl (by repeat (first | exact LoadAt.here rfl | apply LoadAt.there)) ?_)
    | (refine wpList_loads_H rfl rfl H rfl (by repeat (first | (apply LoadsAt.here; repeat (first | exact GetsAt.nil | apply GetsAt.here | apply GetsAt.there)) | apply LoadsAt.there)) ?_)
    | (refine wpList_store_H rfl rfl H rfl rfl (by repeat (first | (apply StoreAt.here; (first | exact CellsOf.agg | exact CellsOf.int | exact CellsOf.bool | exact CellsOf.slice | exact CellsOf.string | exact CellsOf.pointer | exact CellsOf.func); (repeat (first | exact SetsAt.nil | apply SetsAt.here | apply SetsAt.there)); exact rfl; exact rfl) | apply StoreAt.there)) ?_; clear H; intro w H))
  go_at_call 44
  refine (markG_H x0 H (by repeat (first | exact Take.head | apply Take.tail)) Zx0).mono ?_
  clear H
  rintro e w ⟨rfl, H⟩
  have e1 := markEnd_pos x0
  have e2 := markEnd_pos g0
  go_wp2_with (first
    | (refine wpList_box_H rfl rfl H rfl (by first | exact CellsOf.agg | exact CellsOf.int | exact CellsOf.bool | exact CellsOf.slice | exact CellsOf.string | exact CellsOf.pointer | exact CellsOf.func) ?_; clear H; intro b w H)
    | (refine wpList_alloc_H rfl rfl H ?_; clear H; intro b w H)
    | (refine wpList_load_H rfl rfl H rfl (by repeat (first | exact LoadAt.here rfl | apply LoadAt.there)) ?_)
    | (refine wpList_loads_H rfl rfl H rfl (by repeat (first | (apply LoadsAt.here; repeat (first | exact GetsAt.nil | apply GetsAt.here | apply GetsAt.there)) | apply LoadsAt.there)) ?_)
    | (refine wpList_store_H rfl rfl H rfl rfl (by repeat (first | (apply StoreAt.here; (first | exact CellsOf.agg | exact CellsOf.int | exact CellsOf.bool | exact CellsOf.slice | exact CellsOf.string | exact CellsOf.pointer | exact CellsOf.func); (repeat (first | exact SetsAt.nil | apply SetsAt.here | apply SetsAt.there)); exact rfl; exact rfl) | apply StoreAt.there)) ?_; clear H; intro w H))
  go_at_call 38
  refine (eqG_H g0 s0 H (by repeat (first | exact Take.head | apply Take.tail)) (by repeat (first | exact Take.head | apply Take.tail)) Zg0 (Hg0.out.trans Hs0.out.symm)).mono ?_
  clear H
  rintro e w ⟨rfl, H⟩
  go_wp2_with (first
    | (refine wpList_box_H rfl rfl H rfl (by first | exact CellsOf.agg | exact CellsOf.int | exact CellsOf.bool | exact CellsOf.slice | exact CellsOf.string | exact CellsOf.pointer | exact CellsOf.func) ?_; clear H; intro b w H)
    | (refine wpList_alloc_H rfl rfl H ?_; clear H; intro b w H)
    | (refine wpList_load_H rfl rfl H rfl (by repeat (first | exact LoadAt.here rfl | apply LoadAt.there)) ?_)
    | (refine wpList_loads_H rfl rfl H rfl (by repeat (first | (apply LoadsAt.here; repeat (first | exact GetsAt.nil | apply GetsAt.here | apply GetsAt.there)) | apply LoadsAt.there)) ?_)
    | (refine wpList_store_H rfl rfl H rfl rfl (by repeat (first | (apply StoreAt.here; (first | exact CellsOf.agg | exact CellsOf.int | exact CellsOf.bool | exact CellsOf.slice | exact CellsOf.string | exact CellsOf.pointer | exact CellsOf.func); (repeat (first | exact SetsAt.nil | apply SetsAt.here | apply SetsAt.there)); exact rfl; exact rfl) | apply StoreAt.there)) ?_; clear H; intro w H))
  go_at_call 44
  refine (markG_H g0 H (by repeat (first | exact Take.head | apply Take.tail)) Zg0).mono ?_
  clear H
  rintro e w ⟨rfl, H⟩
  go_wp2_with (first
    | (refine wpList_box_H rfl rfl H rfl (by first | exact CellsOf.agg | exact CellsOf.int | exact CellsOf.bool | exact CellsOf.slice | exact CellsOf.string | exact CellsOf.pointer | exact CellsOf.func) ?_; clear H; intro b w H)
    | (refine wpList_alloc_H rfl rfl H ?_; clear H; intro b w H)
    | (refine wpList_load_H rfl rfl H rfl (by repeat (first | exact LoadAt.here rfl | apply LoadAt.there)) ?_)
    | (refine wpList_loads_H rfl rfl H rfl (by repeat (first | (apply LoadsAt.here; repeat (first | exact GetsAt.nil | apply GetsAt.here | apply GetsAt.there)) | apply LoadsAt.there)) ?_)
    | (refine wpList_store_H rfl rfl H rfl rfl (by repeat (first | (apply StoreAt.here; (first | exact CellsOf.agg | exact CellsOf.int | exact CellsOf.bool | exact CellsOf.slice | exact CellsOf.string | exact CellsOf.pointer | exact CellsOf.func); (repeat (first | exact SetsAt.nil | apply SetsAt.here | apply SetsAt.there)); exact rfl; exact rfl) | apply StoreAt.there)) ?_; clear H; intro w H))
  go_at_call 45
  refine (heldG_H g0 H (by repeat (first | exact Take.head | apply Take.tail)) Zg0).mono ?_
  clear H
  rintro e w ⟨rfl, H⟩
  go_wp2_with (first
    | (refine wpList_box_H rfl rfl H rfl (by first | exact CellsOf.agg | exact CellsOf.int | exact CellsOf.bool | exact CellsOf.slice | exact CellsOf.string | exact CellsOf.pointer | exact CellsOf.func) ?_; clear H; intro b w H)
    | (refine wpList_alloc_H rfl rfl H ?_; clear H; intro b w H)
    | (refine wpList_load_H rfl rfl H rfl (by repeat (first | exact LoadAt.here rfl | apply LoadAt.there)) ?_)
    | (refine wpList_loads_H rfl rfl H rfl (by repeat (first | (apply LoadsAt.here; repeat (first | exact GetsAt.nil | apply GetsAt.here | apply GetsAt.there)) | apply LoadsAt.there)) ?_)
    | (refine wpList_store_H rfl rfl H rfl rfl (by repeat (first | (apply StoreAt.here; (first | exact CellsOf.agg | exact CellsOf.int | exact CellsOf.bool | exact CellsOf.slice | exact CellsOf.string | exact CellsOf.pointer | exact CellsOf.func); (repeat (first | exact SetsAt.nil | apply SetsAt.here | apply SetsAt.there)); exact rfl; exact rfl) | apply StoreAt.there)) ?_; clear H; intro w H))
  refine wp_cut (fun u a' w' => ∃ (y0 h0 : GV) (bH : Nat), Hid (y0.m = a.m) ∧ Hid (h0.m = m) ∧ Hp W0 w' [.box bH 33 (garr h0).toList, .gst h0, .box bG 33 (garr g0).toList, .gst (g0.marked 1), .box bW 33 (garr s0).toList, .gst s0, .box bE 54 [.int .i64 x.kind, .int .i64 x.page, .bool x.write, .int .i64 x.n], .box bA 56 (garr a).toList] ∧ a' = puts u [(60, .agg (garr a)), (61, y0.val), (62, (.agg #[.int .i64 x.kind, .int .i64 x.page, .bool x.write, .int .i64 x.n])), (63, (.agg #[.int .i64 x.kind, .int .i64 x.page, .bool x.write, .int .i64 x.n])), (64, h0.val), (12, .pointer (some ⟨bH, 0, none⟩))]) ?_ ?_
  · refine wp_region_held (S := (fun w' => Rw w' bA 56 (garr a) ∧ Rw w' bE 54 ([.int .i64 x.kind, .int .i64 x.page, .bool x.write, .int .i64 x.n] : List Value).toArray)) (by kernel_rfl) ?_
    replace H := H.drew
    refine takeH (i := 0) rfl .here (by kernel_rfl) (by kernel_rfl) (by kernel_rfl) (fun _ _ _ h => absurd h.1 (by simp)) (yields_loads_R rfl rfl rfl (fun _ hS => hS.1) (by repeat (first | exact GetsAt.nil | apply GetsAt.here | apply GetsAt.there))) ⟨H.rw_ (by repeat (first | exact Take.head | apply Take.tail)), H.rw_ (by repeat (first | exact Take.head | apply Take.tail))⟩ ?_
    (try simp only [Act.put, List.setIfInBounds_toArray, List.set_cons_succ, List.set_cons_zero])
    refine takeH (i := 2) rfl (.there (.there .here)) (by kernel_rfl) (by kernel_rfl) (by kernel_rfl) (fun _ _ _ h => absurd h.1 (by simp)) (yields_loads_R rfl rfl rfl (fun _ hS => hS.2) (by repeat (first | exact GetsAt.nil | apply GetsAt.here | apply GetsAt.there))) ⟨H.rw_ (by repeat (first | exact Take.head | apply Take.tail)), H.rw_ (by repeat (first | exact Take.head | apply Take.tail))⟩ ?_
    (try simp only [Act.put, List.setIfInBounds_toArray, List.set_cons_succ, List.set_cons_zero])
    refine anyH_2 (i := 1) (j := 5) (by kernel_rfl) ?_ ?_
    · refine wpOp_at rfl (.there .here) rfl ?_
      refine wp_call_H Try.f36 rfl rfl Try.func36 (by kernel_rfl) rfl rfl (calls_ex (toG_H a H R Z)) ?_
      clear H
      rintro _ w ⟨y0, rfl, Hy0, H⟩
      refine ⟨⟨H.rw_ (by repeat (first | exact Take.head | apply Take.tail)), H.rw_ (by repeat (first | exact Take.head | apply Take.tail))⟩, ?_⟩
      (try simp only [Act.put, List.setIfInBounds_toArray, List.set_cons_succ, List.set_cons_zero])
      refine anyH_2 (i := 3) (j := 5) (by kernel_rfl) ?_ ?_
      · refine wpOp_at rfl (.there (.there (.there .here))) rfl ?_
        refine wp_call_H Try.f47 rfl rfl Try.func47 (by kernel_rfl) rfl rfl (calls_v (exit_H x H)) ?_
        clear H
        rintro _ w ⟨rfl, H⟩
        refine ⟨⟨H.rw_ (by repeat (first | exact Take.head | apply Take.tail)), H.rw_ (by repeat (first | exact Take.head | apply Take.tail))⟩, ?_⟩
        (try simp only [Act.put, List.setIfInBounds_toArray, List.set_cons_succ, List.set_cons_zero])
        refine anyH_2 (i := 4) (j := 5) (by kernel_rfl) ?_ ?_
        · refine wpOp_at rfl (.there (.there (.there (.there .here)))) rfl ?_
          refine wp_call_H Try.f48 rfl rfl Try.func48 (by kernel_rfl) rfl rfl (calls_ex (mkG_H H (stopped_c y0 x m (by rw [Hy0.out]; exact HM.out) _ (H.gown (by repeat (first | exact Take.head | apply Take.tail))).rd (gbig_m Z Hy0)))) ?_
          clear H
          rintro _ w ⟨h0, rfl, Hh0, H⟩
          refine ⟨⟨H.rw_ (by repeat (first | exact Take.head | apply Take.tail)), H.rw_ (by repeat (first | exact Take.head | apply Take.tail))⟩, ?_⟩
          (try simp only [Act.put, List.setIfInBounds_toArray, List.set_cons_succ, List.set_cons_zero])
          refine anyH_1 (i := 5) (by kernel_rfl) ?_
          refine wpOp_at rfl (.there (.there (.there (.there (.there .here))))) rfl ?_
          refine wp_alloc_H rfl H ?_
          clear H
          intro bH w H
          refine ⟨⟨H.rw_ (by repeat (first | exact Take.head | apply Take.tail)), H.rw_ (by repeat (first | exact Take.head | apply Take.tail))⟩, ?_⟩
          (try simp only [Act.put, List.setIfInBounds_toArray, List.set_cons_succ, List.set_cons_zero])
          refine anyH_1 (i := 6) (by kernel_rfl) ?_
          refine wpOp_at rfl (.there (.there (.there (.there (.there (.there .here)))))) rfl ?_
          refine wp_store_H rfl H rfl rfl (by repeat (first | (apply StoreAt.here; (first | exact CellsOf.agg | exact CellsOf.int | exact CellsOf.bool | exact CellsOf.slice | exact CellsOf.string | exact CellsOf.pointer | exact CellsOf.func); (repeat (first | exact SetsAt.nil | apply SetsAt.here | apply SetsAt.there)); exact rfl; exact rfl) | apply StoreAt.there)) ?_
          clear H
          intro w H
          refine ⟨⟨H.rw_ (by repeat (first | exact Take.head | apply Take.tail)), H.rw_ (by repeat (first | exact Take.head | apply Take.tail))⟩, ?_⟩
          (try simp only [Act.put, List.setIfInBounds_toArray, List.set_cons_succ, List.set_cons_zero])
          refine wpAnyH_done (by kernel_rfl) ?_ _
          exact ⟨rfl, y0, h0, bH, Hy0, Hh0, H.pick (.cons (by repeat (first | exact Take.head | apply Take.tail)) (.cons (by repeat (first | exact Take.head | apply Take.tail)) (.cons (by repeat (first | exact Take.head | apply Take.tail)) (.cons (by repeat (first | exact Take.head | apply Take.tail)) (.cons (by repeat (first | exact Take.head | apply Take.tail)) (.cons (by repeat (first | exact Take.head | apply Take.tail)) (.cons (by repeat (first | exact Take.head | apply Take.tail)) (.cons (by repeat (first | exact Take.head | apply Take.tail)) .nil)))))))), by first | (simp only [puts_cons, puts_nil, Act.put, List.setIfInBounds_toArray, List.set_cons_succ, List.set_cons_zero]; done) | (simp only [puts_cons, puts_nil, Act.put, List.setIfInBounds_toArray, List.set_cons_succ, List.set_cons_zero]; rfl)⟩
        · refine wpOp_at rfl (.there (.there (.there (.there (.there .here))))) rfl ?_
          refine wp_alloc_H rfl H ?_
          clear H
          intro bH w H
          refine ⟨⟨H.rw_ (by repeat (first | exact Take.head | apply Take.tail)), H.rw_ (by repeat (first | exact Take.head | apply Take.tail))⟩, ?_⟩
          (try simp only [Act.put, List.setIfInBounds_toArray, List.set_cons_succ, List.set_cons_zero])
          refine anyH_1 (i := 4) (by kernel_rfl) ?_
          refine wpOp_at rfl (.there (.there (.there (.there .here)))) rfl ?_
          refine wp_call_H Try.f48 rfl rfl Try.func48 (by kernel_rfl) rfl rfl (calls_ex (mkG_H H (stopped_c y0 x m (by rw [Hy0.out]; exact HM.out) _ (H.gown (by repeat (first | exact Take.head | apply Take.tail))).rd (gbig_m Z Hy0)))) ?_
          clear H
          rintro _ w ⟨h0, rfl, Hh0, H⟩
          refine ⟨⟨H.rw_ (by repeat (first | exact Take.head | apply Take.tail)), H.rw_ (by repeat (first | exact Take.head | apply Take.tail))⟩, ?_⟩
          (try simp only [Act.put, List.setIfInBounds_toArray, List.set_cons_succ, List.set_cons_zero])
          refine anyH_1 (i := 6) (by kernel_rfl) ?_
          refine wpOp_at rfl (.there (.there (.there (.there (.there (.there .here)))))) rfl ?_
          refine wp_store_H rfl H rfl rfl (by repeat (first | (apply StoreAt.here; (first | exact CellsOf.agg | exact CellsOf.int | exact CellsOf.bool | exact CellsOf.slice | exact CellsOf.string | exact CellsOf.pointer | exact CellsOf.func); (repeat (first | exact SetsAt.nil | apply SetsAt.here | apply SetsAt.there)); exact rfl; exact rfl) | apply StoreAt.there)) ?_
          clear H
          intro w H
          refine ⟨⟨H.rw_ (by repeat (first | exact Take.head | apply Take.tail)), H.rw_ (by repeat (first | exact Take.head | apply Take.tail))⟩, ?_⟩
          (try simp only [Act.put, List.setIfInBounds_toArray, List.set_cons_succ, List.set_cons_zero])
          refine wpAnyH_done (by kernel_rfl) ?_ _
          exact ⟨rfl, y0, h0, bH, Hy0, Hh0, H.pick (.cons (by repeat (first | exact Take.head | apply Take.tail)) (.cons (by repeat (first | exact Take.head | apply Take.tail)) (.cons (by repeat (first | exact Take.head | apply Take.tail)) (.cons (by repeat (first | exact Take.head | apply Take.tail)) (.cons (by repeat (first | exact Take.head | apply Take.tail)) (.cons (by repeat (first | exact Take.head | apply Take.tail)) (.cons (by repeat (first | exact Take.head | apply Take.tail)) (.cons (by repeat (first | exact Take.head | apply Take.tail)) .nil)))))))), by first | (simp only [puts_cons, puts_nil, Act.put, List.setIfInBounds_toArray, List.set_cons_succ, List.set_cons_zero]; done) | (simp only [puts_cons, puts_nil, Act.put, List.setIfInBounds_toArray, List.set_cons_succ, List.set_cons_zero]; rfl)⟩
      · refine wpOp_at rfl (.there (.there (.there (.there (.there .here))))) rfl ?_
        refine wp_alloc_H rfl H ?_
        clear H
        intro bH w H
        refine ⟨⟨H.rw_ (by repeat (first | exact Take.head | apply Take.tail)), H.rw_ (by repeat (first | exact Take.head | apply Take.tail))⟩, ?_⟩
        (try simp only [Act.put, List.setIfInBounds_toArray, List.set_cons_succ, List.set_cons_zero])
        refine anyH_1 (i := 3) (by kernel_rfl) ?_
        refine wpOp_at rfl (.there (.there (.there .here))) rfl ?_
        refine wp_call_H Try.f47 rfl rfl Try.func47 (by kernel_rfl) rfl rfl (calls_v (exit_H x H)) ?_
        clear H
        rintro _ w ⟨rfl, H⟩
        refine ⟨⟨H.rw_ (by repeat (first | exact Take.head | apply Take.tail)), H.rw_ (by repeat (first | exact Take.head | apply Take.tail))⟩, ?_⟩
        (try simp only [Act.put, List.setIfInBounds_toArray, List.set_cons_succ, List.set_cons_zero])
        refine anyH_1 (i := 4) (by kernel_rfl) ?_
        refine wpOp_at rfl (.there (.there (.there (.there .here)))) rfl ?_
        refine wp_call_H Try.f48 rfl rfl Try.func48 (by kernel_rfl) rfl rfl (calls_ex (mkG_H H (stopped_c y0 x m (by rw [Hy0.out]; exact HM.out) _ (H.gown (by repeat (first | exact Take.head | apply Take.tail))).rd (gbig_m Z Hy0)))) ?_
        clear H
        rintro _ w ⟨h0, rfl, Hh0, H⟩
        refine ⟨⟨H.rw_ (by repeat (first | exact Take.head | apply Take.tail)), H.rw_ (by repeat (first | exact Take.head | apply Take.tail))⟩, ?_⟩
        (try simp only [Act.put, List.setIfInBounds_toArray, List.set_cons_succ, List.set_cons_zero])
        refine anyH_1 (i := 6) (by kernel_rfl) ?_
        refine wpOp_at rfl (.there (.there (.there (.there (.there (.there .here)))))) rfl ?_
        refine wp_store_H rfl H rfl rfl (by repeat (first | (apply StoreAt.here; (first | exact CellsOf.agg | exact CellsOf.int | exact CellsOf.bool | exact CellsOf.slice | exact CellsOf.string | exact CellsOf.pointer | exact CellsOf.func); (repeat (first | exact SetsAt.nil | apply SetsAt.here | apply SetsAt.there)); exact rfl; exact rfl) | apply StoreAt.there)) ?_
        clear H
        intro w H
        refine ⟨⟨H.rw_ (by repeat (first | exact Take.head | apply Take.tail)), H.rw_ (by repeat (first | exact Take.head | apply Take.tail))⟩, ?_⟩
        (try simp only [Act.put, List.setIfInBounds_toArray, List.set_cons_succ, List.set_cons_zero])
        refine wpAnyH_done (by kernel_rfl) ?_ _
        exact ⟨rfl, y0, h0, bH, Hy0, Hh0, H.pick (.cons (by repeat (first | exact Take.head | apply Take.tail)) (.cons (by repeat (first | exact Take.head | apply Take.tail)) (.cons (by repeat (first | exact Take.head | apply Take.tail)) (.cons (by repeat (first | exact Take.head | apply Take.tail)) (.cons (by repeat (first | exact Take.head | apply Take.tail)) (.cons (by repeat (first | exact Take.head | apply Take.tail)) (.cons (by repeat (first | exact Take.head | apply Take.tail)) (.cons (by repeat (first | exact Take.head | apply Take.tail)) .nil)))))))), by first | (simp only [puts_cons, puts_nil, Act.put, List.setIfInBounds_toArray, List.set_cons_succ, List.set_cons_zero]; done) | (simp only [puts_cons, puts_nil, Act.put, List.setIfInBounds_toArray, List.set_cons_succ, List.set_cons_zero]; rfl)⟩
    · refine wpOp_at rfl (.there (.there (.there (.there (.there .here))))) rfl ?_
      refine wp_alloc_H rfl H ?_
      clear H
      intro bH w H
      refine ⟨⟨H.rw_ (by repeat (first | exact Take.head | apply Take.tail)), H.rw_ (by repeat (first | exact Take.head | apply Take.tail))⟩, ?_⟩
      (try simp only [Act.put, List.setIfInBounds_toArray, List.set_cons_succ, List.set_cons_zero])
      refine anyH_1 (i := 1) (by kernel_rfl) ?_
      refine wpOp_at rfl (.there .here) rfl ?_
      refine wp_call_H Try.f36 rfl rfl Try.func36 (by kernel_rfl) rfl rfl (calls_ex (toG_H a H R Z)) ?_
      clear H
      rintro _ w ⟨y0, rfl, Hy0, H⟩
      refine ⟨⟨H.rw_ (by repeat (first | exact Take.head | apply Take.tail)), H.rw_ (by repeat (first | exact Take.head | apply Take.tail))⟩, ?_⟩
      (try simp only [Act.put, List.setIfInBounds_toArray, List.set_cons_succ, List.set_cons_zero])
      refine anyH_1 (i := 3) (by kernel_rfl) ?_
      refine wpOp_at rfl (.there (.there (.there .here))) rfl ?_
      refine wp_call_H Try.f47 rfl rfl Try.func47 (by kernel_rfl) rfl rfl (calls_v (exit_H x H)) ?_
      clear H
      rintro _ w ⟨rfl, H⟩
      refine ⟨⟨H.rw_ (by repeat (first | exact Take.head | apply Take.tail)), H.rw_ (by repeat (first | exact Take.head | apply Take.tail))⟩, ?_⟩
      (try simp only [Act.put, List.setIfInBounds_toArray, List.set_cons_succ, List.set_cons_zero])
      refine anyH_1 (i := 4) (by kernel_rfl) ?_
      refine wpOp_at rfl (.there (.there (.there (.there .here)))) rfl ?_
      refine wp_call_H Try.f48 rfl rfl Try.func48 (by kernel_rfl) rfl rfl (calls_ex (mkG_H H (stopped_c y0 x m (by rw [Hy0.out]; exact HM.out) _ (H.gown (by repeat (first | exact Take.head | apply Take.tail))).rd (gbig_m Z Hy0)))) ?_
      clear H
      rintro _ w ⟨h0, rfl, Hh0, H⟩
      refine ⟨⟨H.rw_ (by repeat (first | exact Take.head | apply Take.tail)), H.rw_ (by repeat (first | exact Take.head | apply Take.tail))⟩, ?_⟩
      (try simp only [Act.put, List.setIfInBounds_toArray, List.set_cons_succ, List.set_cons_zero])
      refine anyH_1 (i := 6) (by kernel_rfl) ?_
      refine wpOp_at rfl (.there (.there (.there (.there (.there (.there .here)))))) rfl ?_
      refine wp_store_H rfl H rfl rfl (by repeat (first | (apply StoreAt.here; (first | exact CellsOf.agg | exact CellsOf.int | exact CellsOf.bool | exact CellsOf.slice | exact CellsOf.string | exact CellsOf.pointer | exact CellsOf.func); (repeat (first | exact SetsAt.nil | apply SetsAt.here | apply SetsAt.there)); exact rfl; exact rfl) | apply StoreAt.there)) ?_
      clear H
      intro w H
      refine ⟨⟨H.rw_ (by repeat (first | exact Take.head | apply Take.tail)), H.rw_ (by repeat (first | exact Take.head | apply Take.tail))⟩, ?_⟩
      (try simp only [Act.put, List.setIfInBounds_toArray, List.set_cons_succ, List.set_cons_zero])
      refine wpAnyH_done (by kernel_rfl) ?_ _
      exact ⟨rfl, y0, h0, bH, Hy0, Hh0, H.pick (.cons (by repeat (first | exact Take.head | apply Take.tail)) (.cons (by repeat (first | exact Take.head | apply Take.tail)) (.cons (by repeat (first | exact Take.head | apply Take.tail)) (.cons (by repeat (first | exact Take.head | apply Take.tail)) (.cons (by repeat (first | exact Take.head | apply Take.tail)) (.cons (by repeat (first | exact Take.head | apply Take.tail)) (.cons (by repeat (first | exact Take.head | apply Take.tail)) (.cons (by repeat (first | exact Take.head | apply Take.tail)) .nil)))))))), by first | (simp only [puts_cons, puts_nil, Act.put, List.setIfInBounds_toArray, List.set_cons_succ, List.set_cons_zero]; done) | (simp only [puts_cons, puts_nil, Act.put, List.setIfInBounds_toArray, List.set_cons_succ, List.set_cons_zero]; rfl)⟩
  clear H
  rintro u w ⟨y0, h0, bH, Hy0, Hh0, H, rfl⟩
  simp only [puts_cons, puts_nil, Act.put, List.setIfInBounds_toArray, List.set_cons_succ, List.set_cons_zero]
  have Zy0 := gbig_m Z Hy0
  have Zh0 := gbig_mm MB Hh0
  go_wp2_with (first
    | (refine wpList_box_H rfl rfl H rfl (by first | exact CellsOf.agg | exact CellsOf.int | exact CellsOf.bool | exact CellsOf.slice | exact CellsOf.string | exact CellsOf.pointer | exact CellsOf.func) ?_; clear H; intro b w H)
    | (refine wpList_alloc_H rfl rfl H ?_; clear H; intro b w H)
    | (refine wpList_load_H rfl rfl H rfl (by repeat (first | exact LoadAt.here rfl | apply LoadAt.there)) ?_)
    | (refine wpList_loads_H rfl rfl H rfl (by repeat (first | (apply LoadsAt.here; repeat (first | exact GetsAt.nil | apply GetsAt.here | apply GetsAt.there)) | apply LoadsAt.there)) ?_)
    | (refine wpList_store_H rfl rfl H rfl rfl (by repeat (first | (apply StoreAt.here; (first | exact CellsOf.agg | exact CellsOf.int | exact CellsOf.bool | exact CellsOf.slice | exact CellsOf.string | exact CellsOf.pointer | exact CellsOf.func); (repeat (first | exact SetsAt.nil | apply SetsAt.here | apply SetsAt.there)); exact rfl; exact rfl) | apply StoreAt.there)) ?_; clear H; intro w H))
  go_at_call 38
  refine (eqG_H h0 s0 H (by repeat (first | exact Take.head | apply Take.tail)) (by repeat (first | exact Take.head | apply Take.tail)) Zh0 (Hh0.out.trans Hs0.out.symm)).mono ?_
  clear H
  rintro e w ⟨rfl, H⟩
  go_wp2_with (first
    | (refine wpList_box_H rfl rfl H rfl (by first | exact CellsOf.agg | exact CellsOf.int | exact CellsOf.bool | exact CellsOf.slice | exact CellsOf.string | exact CellsOf.pointer | exact CellsOf.func) ?_; clear H; intro b w H)
    | (refine wpList_alloc_H rfl rfl H ?_; clear H; intro b w H)
    | (refine wpList_load_H rfl rfl H rfl (by repeat (first | exact LoadAt.here rfl | apply LoadAt.there)) ?_)
    | (refine wpList_loads_H rfl rfl H rfl (by repeat (first | (apply LoadsAt.here; repeat (first | exact GetsAt.nil | apply GetsAt.here | apply GetsAt.there)) | apply LoadsAt.there)) ?_)
    | (refine wpList_store_H rfl rfl H rfl rfl (by repeat (first | (apply StoreAt.here; (first | exact CellsOf.agg | exact CellsOf.int | exact CellsOf.bool | exact CellsOf.slice | exact CellsOf.string | exact CellsOf.pointer | exact CellsOf.func); (repeat (first | exact SetsAt.nil | apply SetsAt.here | apply SetsAt.there)); exact rfl; exact rfl) | apply StoreAt.there)) ?_; clear H; intro w H))
  go_at_call 45
  refine (heldG_H g0 H (by repeat (first | exact Take.head | apply Take.tail)) Zg0).mono ?_
  clear H
  rintro e w ⟨rfl, H⟩
  go_wp2_with (first
    | (refine wpList_box_H rfl rfl H rfl (by first | exact CellsOf.agg | exact CellsOf.int | exact CellsOf.bool | exact CellsOf.slice | exact CellsOf.string | exact CellsOf.pointer | exact CellsOf.func) ?_; clear H; intro b w H)
    | (refine wpList_alloc_H rfl rfl H ?_; clear H; intro b w H)
    | (refine wpList_load_H rfl rfl H rfl (by repeat (first | exact LoadAt.here rfl | apply LoadAt.there)) ?_)
    | (refine wpList_loads_H rfl rfl H rfl (by repeat (first | (apply LoadsAt.here; repeat (first | exact GetsAt.nil | apply GetsAt.here | apply GetsAt.there)) | apply LoadsAt.there)) ?_)
    | (refine wpList_store_H rfl rfl H rfl rfl (by repeat (first | (apply StoreAt.here; (first | exact CellsOf.agg | exact CellsOf.int | exact CellsOf.bool | exact CellsOf.slice | exact CellsOf.string | exact CellsOf.pointer | exact CellsOf.func); (repeat (first | exact SetsAt.nil | apply SetsAt.here | apply SetsAt.there)); exact rfl; exact rfl) | apply StoreAt.there)) ?_; clear H; intro w H))
  go_ret
  exact ⟨rfl, H.below⟩
end Go.Proofs.Ytedjbholpdinkaa
