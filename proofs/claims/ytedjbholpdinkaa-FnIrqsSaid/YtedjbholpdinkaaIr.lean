/- Walk of the law FnIrqs. No condition but that the argument lies in memory. -/
import Derived.Test.YtedjbholpdinkaaIq
namespace Go.Proofs.Ytedjbholpdinkaa
open Go.RowKit
attribute [local go_sem ↓] Go.wp_at_zero Go.wp_at_succ
set_option linter.unusedSimpArgs false in
set_option linter.unusedVariables false in
set_option maxRecDepth 100000 in
set_option maxHeartbeats 8000000 in
theorem walk_fnIrqs (s : Sl Int) (W0 : World) (ra : Rd u8cell 1 W0 s ∧ s.xs.length ≤ maxLen) : Calls Try.prog 5 #[.slice s.A s.xs.length s.c] W0 fun e w' => e = .returned (.bool true) ∧ Below W0.heap.size W0 w' := by
  obtain ⟨R0, _⟩ := ra
  have R := R0
  have H := Hp.start W0
  by_cases hbig : 1048576 < s.xs.length
  · have hb : decide (1048576 < s.xs.length) = true := decide_eq_true hbig
    have HB := Lib.hid hb; clear hb
    go_enter Try.func5, Try.ntmps5
    go_wp2_with (first
      | go_skip
      | ((with_reducible refine at_box ?_); first | (refine wpList_box_H rfl rfl H rfl (by first | exact CellsOf.agg | exact CellsOf.int | exact CellsOf.bool | exact CellsOf.slice | exact CellsOf.string | exact CellsOf.pointer | exact CellsOf.func) ?_; clear H; intro bQ w H))
      | ((with_reducible refine at_alloc ?_); first | (refine wpList_alloc_H rfl rfl H ?_; clear H; intro b w H))
      | ((with_reducible refine at_load ?_); first | (refine wpList_load_H rfl rfl H rfl (by repeat (first | exact LoadAt.here rfl | apply LoadAt.there)) ?_) | (refine wpList_loads_H rfl rfl H rfl (by repeat (first | (apply LoadsAt.here; repeat (first | exact GetsAt.nil | apply GetsAt.here | apply GetsAt.there)) | apply LoadsAt.there)) ?_))
      | ((with_reducible refine at_store ?_); first | (refine wpList_store_H rfl rfl H rfl rfl (by repeat (first | (apply StoreAt.here; (first | exact CellsOf.agg | exact CellsOf.int | exact CellsOf.bool | exact CellsOf.slice | exact CellsOf.string | exact CellsOf.pointer | exact CellsOf.func); (repeat (first | exact SetsAt.nil | apply SetsAt.here | apply SetsAt.there)); exact rfl; exact rfl) | apply StoreAt.there)) ?_; clear H; intro w H)))
    go_at_call 12
    refine (big_c s _).mono ?_
    rintro e w ⟨he, K⟩
    rw [HB.out] at he
    subst he
    replace H := H.add_all K
    clear K
    go_wp2_with (first
      | go_skip
      | ((with_reducible refine at_box ?_); first | (refine wpList_box_H rfl rfl H rfl (by first | exact CellsOf.agg | exact CellsOf.int | exact CellsOf.bool | exact CellsOf.slice | exact CellsOf.string | exact CellsOf.pointer | exact CellsOf.func) ?_; clear H; intro bQ w H))
      | ((with_reducible refine at_alloc ?_); first | (refine wpList_alloc_H rfl rfl H ?_; clear H; intro b w H))
      | ((with_reducible refine at_load ?_); first | (refine wpList_load_H rfl rfl H rfl (by repeat (first | exact LoadAt.here rfl | apply LoadAt.there)) ?_) | (refine wpList_loads_H rfl rfl H rfl (by repeat (first | (apply LoadsAt.here; repeat (first | exact GetsAt.nil | apply GetsAt.here | apply GetsAt.there)) | apply LoadsAt.there)) ?_))
      | ((with_reducible refine at_store ?_); first | (refine wpList_store_H rfl rfl H rfl rfl (by repeat (first | (apply StoreAt.here; (first | exact CellsOf.agg | exact CellsOf.int | exact CellsOf.bool | exact CellsOf.slice | exact CellsOf.string | exact CellsOf.pointer | exact CellsOf.func); (repeat (first | exact SetsAt.nil | apply SetsAt.here | apply SetsAt.there)); exact rfl; exact rfl) | apply StoreAt.there)) ?_; clear H; intro w H)))
    go_ret
    exact ⟨rfl, H.below⟩
  have hb : decide (1048576 < s.xs.length) = false := decide_eq_false hbig
  have HB := Lib.hid hb; clear hb
  have Z : s.xs.length ≤ 1048576 := by omega
  clear hbig
  go_enter Try.func5, Try.ntmps5
  go_wp2_with (first
    | go_skip
    | ((with_reducible refine at_box ?_); first | (refine wpList_box_H rfl rfl H rfl (by first | exact CellsOf.agg | exact CellsOf.int | exact CellsOf.bool | exact CellsOf.slice | exact CellsOf.string | exact CellsOf.pointer | exact CellsOf.func) ?_; clear H; intro bQ w H))
    | ((with_reducible refine at_alloc ?_); first | (refine wpList_alloc_H rfl rfl H ?_; clear H; intro b w H))
    | ((with_reducible refine at_load ?_); first | (refine wpList_load_H rfl rfl H rfl (by repeat (first | exact LoadAt.here rfl | apply LoadAt.there)) ?_) | (refine wpList_loads_H rfl rfl H rfl (by repeat (first | (apply LoadsAt.here; repeat (first | exact GetsAt.nil | apply GetsAt.here | apply GetsAt.there)) | apply LoadsAt.there)) ?_))
    | ((with_reducible refine at_store ?_); first | (refine wpList_store_H rfl rfl H rfl rfl (by repeat (first | (apply StoreAt.here; (first | exact CellsOf.agg | exact CellsOf.int | exact CellsOf.bool | exact CellsOf.slice | exact CellsOf.string | exact CellsOf.pointer | exact CellsOf.func); (repeat (first | exact SetsAt.nil | apply SetsAt.here | apply SetsAt.there)); exact rfl; exact rfl) | apply StoreAt.there)) ?_; clear H; intro w H)))
  go_at_call 12
  refine (big_c s _).mono ?_
  rintro e w ⟨he, K⟩
  rw [HB.out] at he
  subst he
  replace H := H.add_all K
  clear K
  clear R
  have R : Rd u8cell 1 W0 s ∧ s.xs.length ≤ 1048576 := ⟨R0, Z⟩
  clear R0 Z
  go_wp2_with (first
    | go_skip
    | ((with_reducible refine at_box ?_); first | (refine wpList_box_H rfl rfl H rfl (by first | exact CellsOf.agg | exact CellsOf.int | exact CellsOf.bool | exact CellsOf.slice | exact CellsOf.string | exact CellsOf.pointer | exact CellsOf.func) ?_; clear H; intro bQ w H))
    | ((with_reducible refine at_alloc ?_); first | (refine wpList_alloc_H rfl rfl H ?_; clear H; intro b w H))
    | ((with_reducible refine at_load ?_); first | (refine wpList_load_H rfl rfl H rfl (by repeat (first | exact LoadAt.here rfl | apply LoadAt.there)) ?_) | (refine wpList_loads_H rfl rfl H rfl (by repeat (first | (apply LoadsAt.here; repeat (first | exact GetsAt.nil | apply GetsAt.here | apply GetsAt.there)) | apply LoadsAt.there)) ?_))
    | ((with_reducible refine at_store ?_); first | (refine wpList_store_H rfl rfl H rfl rfl (by repeat (first | (apply StoreAt.here; (first | exact CellsOf.agg | exact CellsOf.int | exact CellsOf.bool | exact CellsOf.slice | exact CellsOf.string | exact CellsOf.pointer | exact CellsOf.func); (repeat (first | exact SetsAt.nil | apply SetsAt.here | apply SetsAt.there)); exact rfl; exact rfl) | apply StoreAt.there)) ?_; clear H; intro w H)))
  go_at_call 19
  refine (drawPostIrq_c s _ ⟨R.1.at_ H, R.2⟩).mono ?_
  rintro e w ⟨p, n, rfl, K⟩
  replace H := H.add_all K
  clear K
  obtain ⟨x, hx⟩ : ∃ x, qPost p n = x := ⟨_, rfl⟩
  have PX := Lib.hid hx
  obtain ⟨cp, hcp⟩ : ∃ c, cntI p = c := ⟨_, rfl⟩
  obtain ⟨cx, hcx⟩ : ∃ c, cntI x = c := ⟨_, rfl⟩
  have CP := Lib.hid hcp
  have CX := Lib.hid hcx
  obtain ⟨ok, ho⟩ : ∃ ok, qPostOk p n = ok := ⟨_, rfl⟩
  have PO := Lib.hid ho
  have hcc : ok = true → cp ≤ cx := by intro h; subst h; subst hx; subst hcp; subst hcx; exact post_cnt ho
  clear hx hcp hcx ho
  cases ok
  all_goals
    try (have hc := hcc rfl)
    clear hcc
    go_wp2_with (first
      | go_skip
      | ((with_reducible refine at_box ?_); first | (refine wpList_box_H rfl rfl H rfl (by first | exact CellsOf.agg | exact CellsOf.int | exact CellsOf.bool | exact CellsOf.slice | exact CellsOf.string | exact CellsOf.pointer | exact CellsOf.func) ?_; clear H; intro bQ w H))
      | ((with_reducible refine at_alloc ?_); first | (refine wpList_alloc_H rfl rfl H ?_; clear H; intro b w H))
      | ((with_reducible refine at_load ?_); first | (refine wpList_load_H rfl rfl H rfl (by repeat (first | exact LoadAt.here rfl | apply LoadAt.there)) ?_) | (refine wpList_loads_H rfl rfl H rfl (by repeat (first | (apply LoadsAt.here; repeat (first | exact GetsAt.nil | apply GetsAt.here | apply GetsAt.there)) | apply LoadsAt.there)) ?_))
      | ((with_reducible refine at_store ?_); first | (refine wpList_store_H rfl rfl H rfl rfl (by repeat (first | (apply StoreAt.here; (first | exact CellsOf.agg | exact CellsOf.int | exact CellsOf.bool | exact CellsOf.slice | exact CellsOf.string | exact CellsOf.pointer | exact CellsOf.func); (repeat (first | exact SetsAt.nil | apply SetsAt.here | apply SetsAt.there)); exact rfl; exact rfl) | apply StoreAt.there)) ?_; clear H; intro w H))
      | (go_at_call 20; refine (qPost_c p n _).mono ?_; rintro e w ⟨he, K⟩; rw [PX.out, PO.out] at he; subst he; replace H := H.add_all K; clear K)
      | (go_at_call 21; refine (specQPost_c p n _).mono ?_; rintro e w ⟨he, K⟩; rw [PX.out, PO.out] at he; subst he; replace H := H.add_all K; clear K))
    go_at_call 22
    refine (drawTakeIrq_c s _ ⟨R.1.at_ H, R.2⟩).mono ?_
    rintro e w ⟨q, rfl, K⟩
    replace H := H.add_all K
    clear K
    obtain ⟨r, hr⟩ : ∃ r, tookI q = r := ⟨_, rfl⟩
    have TK2 := Lib.hid hr
    obtain ⟨tq, htq⟩ : ∃ c, topI q = c := ⟨_, rfl⟩
    obtain ⟨tr, htr⟩ : ∃ c, topI r = c := ⟨_, rfl⟩
    obtain ⟨cq, hcq⟩ : ∃ c, cntI q = c := ⟨_, rfl⟩
    obtain ⟨cr, hcr⟩ : ∃ c, cntI r = c := ⟨_, rfl⟩
    obtain ⟨pq, hpq⟩ : ∃ c, pendB q = c := ⟨_, rfl⟩
    have TQ := Lib.hid htq
    have TR := Lib.hid htr
    have CQ := Lib.hid hcq
    have CR := Lib.hid hcr
    have PQ := Lib.hid hpq
    obtain ⟨td, htd⟩ : ∃ td, decide (0 ≤ tq) = td := ⟨_, rfl⟩
    have TD := Lib.hid htd
    have hcc : td = true → cr = cq - 1 ∧ tr < tq ∧ 0 ≤ cq ∧ cq ≤ 8 := by
      intro h; subst h; subst hr; subst htq; subst htr; subst hcq; subst hcr
      exact took_facts (of_decide_eq_true htd)
    clear hr htq htr hcq hcr hpq htd
    cases td
    all_goals
      try (obtain ⟨h1, h2, h3, h4⟩ := hcc rfl; subst h1)
      try clear hcc
      go_wp2_with (first
        | go_skip
        | ((with_reducible refine at_box ?_); first | (refine wpList_box_H rfl rfl H rfl (by first | exact CellsOf.agg | exact CellsOf.int | exact CellsOf.bool | exact CellsOf.slice | exact CellsOf.string | exact CellsOf.pointer | exact CellsOf.func) ?_; clear H; intro bQ w H))
        | ((with_reducible refine at_alloc ?_); first | (refine wpList_alloc_H rfl rfl H ?_; clear H; intro b w H))
        | ((with_reducible refine at_load ?_); first | (refine wpList_load_H rfl rfl H rfl (by repeat (first | exact LoadAt.here rfl | apply LoadAt.there)) ?_) | (refine wpList_loads_H rfl rfl H rfl (by repeat (first | (apply LoadsAt.here; repeat (first | exact GetsAt.nil | apply GetsAt.here | apply GetsAt.there)) | apply LoadsAt.there)) ?_))
        | ((with_reducible refine at_store ?_); first | (refine wpList_store_H rfl rfl H rfl rfl (by repeat (first | (apply StoreAt.here; (first | exact CellsOf.agg | exact CellsOf.int | exact CellsOf.bool | exact CellsOf.slice | exact CellsOf.string | exact CellsOf.pointer | exact CellsOf.func); (repeat (first | exact SetsAt.nil | apply SetsAt.here | apply SetsAt.there)); exact rfl; exact rfl) | apply StoreAt.there)) ?_; clear H; intro w H))
        | (go_at_call 17; refine (takeIrq_any q _).mono ?_; rintro e w' ⟨he, hw⟩; subst hw; rw [TK2.out, TQ.out, TD.out] at he; subst he)
        | (go_at_call 23; refine (specTake_any q _).mono ?_; rintro e w' ⟨he, hw⟩; subst hw; rw [TK2.out, TQ.out, TD.out] at he; subst he))
      go_at_call 24
      refine (drawSplitIrqs_c s _ ⟨R.1.at_ H, R.2⟩).mono ?_
      rintro e w ⟨a, c, rfl, K⟩
      replace H := H.add_all K
      clear K
      obtain ⟨sa, hsa⟩ : ∃ x, qSplitA a c = x := ⟨_, rfl⟩
      obtain ⟨sb, hsb⟩ : ∃ x, qSplitB a c = x := ⟨_, rfl⟩
      have SA := Lib.hid hsa
      have SB := Lib.hid hsb
      clear hsa hsb
      go_wp2_with (first
        | go_skip
        | ((with_reducible refine at_box ?_); first | (refine wpList_box_H rfl rfl H rfl (by first | exact CellsOf.agg | exact CellsOf.int | exact CellsOf.bool | exact CellsOf.slice | exact CellsOf.string | exact CellsOf.pointer | exact CellsOf.func) ?_; clear H; intro bQ w H))
        | ((with_reducible refine at_alloc ?_); first | (refine wpList_alloc_H rfl rfl H ?_; clear H; intro b w H))
        | ((with_reducible refine at_load ?_); first | (refine wpList_load_H rfl rfl H rfl (by repeat (first | exact LoadAt.here rfl | apply LoadAt.there)) ?_) | (refine wpList_loads_H rfl rfl H rfl (by repeat (first | (apply LoadsAt.here; repeat (first | exact GetsAt.nil | apply GetsAt.here | apply GetsAt.there)) | apply LoadsAt.there)) ?_))
        | ((with_reducible refine at_store ?_); first | (refine wpList_store_H rfl rfl H rfl rfl (by repeat (first | (apply StoreAt.here; (first | exact CellsOf.agg | exact CellsOf.int | exact CellsOf.bool | exact CellsOf.slice | exact CellsOf.string | exact CellsOf.pointer | exact CellsOf.func); (repeat (first | exact SetsAt.nil | apply SetsAt.here | apply SetsAt.there)); exact rfl; exact rfl) | apply StoreAt.there)) ?_; clear H; intro w H))
        | (go_at_call 18; refine (qSplit_c a c _).mono ?_; rintro e w ⟨he, K⟩; rw [SA.out, SB.out] at he; subst he; replace H := H.add_all K; clear K)
        | (go_at_call 25; refine (specQSplit_c a c _).mono ?_; rintro e w ⟨he, K⟩; rw [SA.out, SB.out] at he; subst he; replace H := H.add_all K; clear K)
        | (go_at_call 16; first | ((with_reducible refine at_arg1 (.int .i64 q) ?_); refine (irqCount_any q _).mono ?_; rintro e w' ⟨he, hw⟩; subst hw; rw [CQ.out] at he; subst he) | ((with_reducible refine at_arg1 (.int .i64 r) ?_); refine (irqCount_any r _).mono ?_; rintro e w' ⟨he, hw⟩; subst hw; rw [CR.out] at he; subst he) | ((with_reducible refine at_arg1 (.int .i64 x) ?_); refine (irqCount_any x _).mono ?_; rintro e w' ⟨he, hw⟩; subst hw; rw [CX.out] at he; subst he) | ((with_reducible refine at_arg1 (.int .i64 p) ?_); refine (irqCount_any p _).mono ?_; rintro e w' ⟨he, hw⟩; subst hw; rw [CP.out] at he; subst he) | ((with_reducible refine at_arg1 (.int .i64 255) ?_); refine (irqCount_any 255 _).mono ?_; rintro e w' ⟨he, hw⟩; subst hw; rw [show cntI 255 = 8 from by decide +kernel] at he; subst he))
        | (go_at_call 28; first | ((with_reducible refine at_arg1 (.int .i64 q) ?_); refine (specCount_any q _).mono ?_; rintro e w' ⟨he, hw⟩; subst hw; rw [CQ.out] at he; subst he) | ((with_reducible refine at_arg1 (.int .i64 r) ?_); refine (specCount_any r _).mono ?_; rintro e w' ⟨he, hw⟩; subst hw; rw [CR.out] at he; subst he) | ((with_reducible refine at_arg1 (.int .i64 x) ?_); refine (specCount_any x _).mono ?_; rintro e w' ⟨he, hw⟩; subst hw; rw [CX.out] at he; subst he) | ((with_reducible refine at_arg1 (.int .i64 p) ?_); refine (specCount_any p _).mono ?_; rintro e w' ⟨he, hw⟩; subst hw; rw [CP.out] at he; subst he) | ((with_reducible refine at_arg1 (.int .i64 255) ?_); refine (specCount_any 255 _).mono ?_; rintro e w' ⟨he, hw⟩; subst hw; rw [show cntI 255 = 8 from by decide +kernel] at he; subst he))
        | (go_at_call 26; first | ((with_reducible refine at_arg1 (.int .i64 q) ?_); refine (topIrq_any q _).mono ?_; rintro e w' ⟨he, hw⟩; subst hw; rw [TQ.out] at he; subst he) | ((with_reducible refine at_arg1 (.int .i64 r) ?_); refine (topIrq_any r _).mono ?_; rintro e w' ⟨he, hw⟩; subst hw; rw [TR.out] at he; subst he) | ((with_reducible refine at_arg1 (.int .i64 5) ?_); refine (topIrq_any 5 _).mono ?_; rintro e w' ⟨he, hw⟩; subst hw; rw [show topI 5 = 2 from by decide +kernel] at he; subst he))
        | (go_at_call 27; first | ((with_reducible refine at_arg1 (.int .i64 q) ?_); refine (specTop_any q _).mono ?_; rintro e w' ⟨he, hw⟩; subst hw; rw [TQ.out] at he; subst he) | ((with_reducible refine at_arg1 (.int .i64 r) ?_); refine (specTop_any r _).mono ?_; rintro e w' ⟨he, hw⟩; subst hw; rw [TR.out] at he; subst he) | ((with_reducible refine at_arg1 (.int .i64 5) ?_); refine (specTop_any 5 _).mono ?_; rintro e w' ⟨he, hw⟩; subst hw; rw [show topI 5 = 2 from by decide +kernel] at he; subst he))
        | (go_at_call 29; first | ((with_reducible refine at_arg1 (.int .i64 q) ?_); refine (pendOk_any q _).mono ?_; rintro e w' ⟨he, hw⟩; subst hw; rw [PQ.out] at he; subst he))
        | (go_at_call 30; first | ((with_reducible refine at_arg1 (.int .i64 q) ?_); refine (specPendOk_any q _).mono ?_; rintro e w' ⟨he, hw⟩; subst hw; rw [PQ.out] at he; subst he)))
      go_ret
      exact ⟨by simp, H.below⟩
end Go.Proofs.Ytedjbholpdinkaa
