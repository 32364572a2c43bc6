/- Walk of the exact law FnExactBareNew. No condition but that the argument lies in memory. -/
import Derived.Test.YtgeoilpmmdfemaaBn
import Derived.Test.YtgeoilpmmdfemaaBm
import Derived.Test.YtgeoilpmmdfemaaBq
import Derived.Test.YtgeoilpmmdfemaaBk
namespace Go.Proofs.Ytgeoilpmmdfemaa
set_option linter.unusedSimpArgs false
set_option linter.unusedVariables false
open Go.RowKit
attribute [local go_sem ↓] Go.wp_at_zero Go.wp_at_succ
theorem many_rdP {w0 w : World} {L L' : List En} {l : List (Sl Ins)} (H : Hp w0 w L) (t : Take L (.many En.ins l) L') : ∀ x ∈ l, Rd Ins.cells 2 w x := fun x hx => by
  have h : Own Ins.cells 2 142 w 0 x := H.get t x hx
  exact h.rd ins_len
theorem ps_len {s t : Sl (Sl Ins)} (h : s.xs.map (fun x => x.xs) = t.xs.map (fun x => x.xs)) : s.xs.length = t.xs.length := by
  have := congrArg List.length h; simpa using this
theorem ps_sum {s t : Sl (Sl Ins)} (h : s.xs.map (fun x => x.xs) = t.xs.map (fun x => x.xs)) : (s.xs.map (fun x => x.xs.length)).sum = (t.xs.map (fun x => x.xs.length)).sum := by
  have := congrArg (fun l => (l.map List.length).sum) h; simpa [List.map_map, Function.comp_def] using this
theorem sum_ge {l : List (Sl Ins)} {x : Sl Ins} (h : x ∈ l) : x.xs.length ≤ (l.map (fun x => x.xs.length)).sum := by
  induction l with
  | nil => cases h
  | cons y l ih =>
    simp only [List.map_cons, List.sum_cons]
    rcases List.mem_cons.1 h with rfl | h
    · omega
    · have := ih h; omega
theorem bareNewM_size (ps : List (List Ins)) : (bareNewM ps).size ≤ 100 + (ps.map List.length).sum := by
  unfold bareNewM MB.size rowsSize gsSize
  match ps with
  | [] => simp
  | [p] => simp [guestNewM, MG.size]; omega
  | p :: q :: r => simp [guestNewM, MG.size]; omega
theorem szPS_H (s : Sl (Sl Ins)) {w0 w : World} {L : List En} (H : Hp w0 w L) (R : Rd hcells 1 w0 s) (Z : s.xs.length ≤ maxLen) (Zi : ∀ x ∈ s.xs, x.xs.length ≤ maxLen) : Calls Try.prog 46 #[.slice s.A s.xs.length s.c, .int .i64 1048576] w fun e w' => e = .returned (.int .i64 (szM 1048576 (s.xs.length + (s.xs.map (fun x => x.xs.length)).sum))) ∧ Hp w0 w' L :=
  (szInsSS_c s 1048576 w (R.at_ H) Z Zi (by omega) (by omega)).mono fun _ _ ⟨he, K⟩ => ⟨he, H.add_all K⟩
theorem toPS_H (s : Sl (Sl Ins)) {w0 w : World} {L : List En} (H : Hp w0 w L) (R : Rd hcells 1 w0 s) (Ri : ∀ x ∈ s.xs, Rd Ins.cells 2 w0 x) (Z : s.xs.length ≤ 4194304) (Zi : ∀ x ∈ s.xs, x.xs.length ≤ 4194304) : Calls Try.prog 48 #[.slice s.A s.xs.length s.c] w fun e w' => ∃ d : Sl (Sl Ins), e = .returned (.slice d.A d.xs.length d.c) ∧ Hid (d.xs.map (fun x => x.xs) = s.xs.map (fun x => x.xs)) ∧ Hp w0 w' (.irows d :: .many En.ins d.xs :: L) :=
  (toInsSS_c s w (R.at_ H) (fun x hx => (Ri x hx).at_ H) Z Zi).mono fun _ _ ⟨d, he, hx, K⟩ => ⟨d, he, hx, H.add_all K⟩
theorem eqPS_H (s t : Sl (Sl Ins)) {w0 w : World} {L L1 L2 L3 L4 : List En} (H : Hp w0 w L) (ts : Take L (.irows s) L1) (tt : Take L (.irows t) L2) (us : Take L (.many En.ins s.xs) L3) (ut : Take L (.many En.ins t.xs) L4) (Z : s.xs.length ≤ 4194304) (Zi : ∀ x ∈ s.xs, x.xs.length ≤ 4194304) (e : s.xs.map (fun x => x.xs) = t.xs.map (fun x => x.xs)) : Calls Try.prog 50 #[.slice s.A s.xs.length s.c, .slice t.A t.xs.length t.c] w fun e w' => e = .returned (.bool true) ∧ Hp w0 w' L :=
  (eqInsSS_c s t w (H.rd ts h_len) (H.rd tt h_len) (many_rdP H us) (many_rdP H ut) Z Zi).mono fun _ _ ⟨he, K⟩ => ⟨by rw [he, e]; simp, H.add_all K⟩
set_option linter.unusedSimpArgs false in
set_option linter.unusedVariables false in
set_option maxRecDepth 100000 in
set_option maxHeartbeats 8000000 in
theorem walk_fnExactBareNew (A : Sl (Sl Ins)) (W0 : World) (ra : (Rd hcells 1 W0 A ∧ ∀ x ∈ A.xs, Rd Ins.cells 2 W0 x) ∧ A.xs.length ≤ maxLen ∧ ∀ x ∈ A.xs, x.xs.length ≤ maxLen) : Calls Try.prog 10 #[.slice A.A A.xs.length A.c] W0 fun e w' => e = .returned (.bool true) ∧ Below W0.heap.size W0 w' := by
  obtain ⟨⟨R, Ri⟩, Wd, Wi⟩ := ra
  have H := Hp.start W0
  obtain ⟨l1, hl1⟩ : ∃ l1 : Int, l1 = szM 1048576 (A.xs.length + (A.xs.map (fun x => x.xs.length)).sum) := ⟨_, rfl⟩
  have E1 : Hid (szM 1048576 (A.xs.length + (A.xs.map (fun x => x.xs.length)).sum) = l1) := hl1.symm
  have hl1n : 0 ≤ l1 → A.xs.length + (A.xs.map (fun x => x.xs.length)).sum ≤ 1048576 := by rw [hl1]; unfold szM; intro h; split at h <;> omega
  clear hl1
  by_cases hneg : l1 < 0
  · go_enter Try.func10, Try.ntmps10
    go_wp2_with (first
      | go_skip
      | ((with_reducible refine at_box ?_); first | (refine wpList_box_H rfl rfl H rfl (by first | exact CellsOf.agg | exact CellsOf.int | exact CellsOf.bool | exact CellsOf.slice | exact CellsOf.string | exact CellsOf.pointer | exact CellsOf.func) ?_; clear H; intro bQ w H))
      | ((with_reducible refine at_alloc ?_); first | (refine wpList_alloc_H rfl rfl H ?_; clear H; intro b w H))
      | ((with_reducible refine at_load ?_); first | (refine wpList_load_H rfl rfl H rfl (by repeat (first | exact LoadAt.here rfl | apply LoadAt.there)) ?_) | (refine wpList_loads_H rfl rfl H rfl (by repeat (first | (apply LoadsAt.here; repeat (first | exact GetsAt.nil | apply GetsAt.here | apply GetsAt.there)) | apply LoadsAt.there)) ?_))
      | ((with_reducible refine at_store ?_); first | (refine wpList_store_H rfl rfl H rfl rfl (by repeat (first | (apply StoreAt.here; (first | exact CellsOf.agg | exact CellsOf.int | exact CellsOf.bool | exact CellsOf.slice | exact CellsOf.string | exact CellsOf.pointer | exact CellsOf.func); (repeat (first | exact SetsAt.nil | apply SetsAt.here | apply SetsAt.there)); exact rfl; exact rfl) | apply StoreAt.there)) ?_; clear H; intro w H)))
    go_at_call 46
    refine (szPS_H A H R Wd Wi).mono ?_
    clear H
    rintro e w ⟨he, H⟩
    rw [E1.out] at he
    subst he
    go_wp2_with (first
      | go_skip
      | ((with_reducible refine at_box ?_); first | (refine wpList_box_H rfl rfl H rfl (by first | exact CellsOf.agg | exact CellsOf.int | exact CellsOf.bool | exact CellsOf.slice | exact CellsOf.string | exact CellsOf.pointer | exact CellsOf.func) ?_; clear H; intro bQ w H))
      | ((with_reducible refine at_alloc ?_); first | (refine wpList_alloc_H rfl rfl H ?_; clear H; intro b w H))
      | ((with_reducible refine at_load ?_); first | (refine wpList_load_H rfl rfl H rfl (by repeat (first | exact LoadAt.here rfl | apply LoadAt.there)) ?_) | (refine wpList_loads_H rfl rfl H rfl (by repeat (first | (apply LoadsAt.here; repeat (first | exact GetsAt.nil | apply GetsAt.here | apply GetsAt.there)) | apply LoadsAt.there)) ?_))
      | ((with_reducible refine at_store ?_); first | (refine wpList_store_H rfl rfl H rfl rfl (by repeat (first | (apply StoreAt.here; (first | exact CellsOf.agg | exact CellsOf.int | exact CellsOf.bool | exact CellsOf.slice | exact CellsOf.string | exact CellsOf.pointer | exact CellsOf.func); (repeat (first | exact SetsAt.nil | apply SetsAt.here | apply SetsAt.there)); exact rfl; exact rfl) | apply StoreAt.there)) ?_; clear H; intro w H)))
    go_ret
    exact ⟨rfl, H.below⟩
  have hsz := hl1n (by omega)
  have hsm : (A.xs.map (fun x => x.xs.length)).sum ≤ 1048576 := by omega
  have Z : A.xs.length ≤ 4194304 := by omega
  have Zi : ∀ x ∈ A.xs, x.xs.length ≤ 4194304 := fun x hx => by have := sum_ge hx; omega
  obtain ⟨m, hm⟩ : ∃ m, m = bareNewM (A.xs.map (fun x => x.xs)) := ⟨_, rfl⟩
  have MB : m.size ≤ 4194304 := by
    have h1 := bareNewM_size (A.xs.map (fun x => x.xs))
    rw [List.map_map] at h1
    have h2 : ((A.xs.map (List.length ∘ fun x => x.xs))).sum ≤ 1048576 := hsm
    rw [hm]; omega
  have HM := Lib.hid hm; clear hm hl1n hsz
  go_enter Try.func10, Try.ntmps10
  go_wp2_with (first
    | go_skip
    | ((with_reducible refine at_box ?_); first | (refine wpList_box_H rfl rfl H rfl (by first | exact CellsOf.agg | exact CellsOf.int | exact CellsOf.bool | exact CellsOf.slice | exact CellsOf.string | exact CellsOf.pointer | exact CellsOf.func) ?_; clear H; intro bQ w H))
    | ((with_reducible refine at_alloc ?_); first | (refine wpList_alloc_H rfl rfl H ?_; clear H; intro b w H))
    | ((with_reducible refine at_load ?_); first | (refine wpList_load_H rfl rfl H rfl (by repeat (first | exact LoadAt.here rfl | apply LoadAt.there)) ?_) | (refine wpList_loads_H rfl rfl H rfl (by repeat (first | (apply LoadsAt.here; repeat (first | exact GetsAt.nil | apply GetsAt.here | apply GetsAt.there)) | apply LoadsAt.there)) ?_))
    | ((with_reducible refine at_store ?_); first | (refine wpList_store_H rfl rfl H rfl rfl (by repeat (first | (apply StoreAt.here; (first | exact CellsOf.agg | exact CellsOf.int | exact CellsOf.bool | exact CellsOf.slice | exact CellsOf.string | exact CellsOf.pointer | exact CellsOf.func); (repeat (first | exact SetsAt.nil | apply SetsAt.here | apply SetsAt.there)); exact rfl; exact rfl) | apply StoreAt.there)) ?_; clear H; intro w H)))
  go_at_call 46
  refine (szPS_H A H R Wd Wi).mono ?_
  clear H
  rintro e w ⟨he, H⟩
  rw [E1.out] at he
  subst he
  go_wp2_with (first
    | go_skip
    | ((with_reducible refine at_box ?_); first | (refine wpList_box_H rfl rfl H rfl (by first | exact CellsOf.agg | exact CellsOf.int | exact CellsOf.bool | exact CellsOf.slice | exact CellsOf.string | exact CellsOf.pointer | exact CellsOf.func) ?_; clear H; intro bQ w H))
    | ((with_reducible refine at_alloc ?_); first | (refine wpList_alloc_H rfl rfl H ?_; clear H; intro b w H))
    | ((with_reducible refine at_load ?_); first | (refine wpList_load_H rfl rfl H rfl (by repeat (first | exact LoadAt.here rfl | apply LoadAt.there)) ?_) | (refine wpList_loads_H rfl rfl H rfl (by repeat (first | (apply LoadsAt.here; repeat (first | exact GetsAt.nil | apply GetsAt.here | apply GetsAt.there)) | apply LoadsAt.there)) ?_))
    | ((with_reducible refine at_store ?_); first | (refine wpList_store_H rfl rfl H rfl rfl (by repeat (first | (apply StoreAt.here; (first | exact CellsOf.agg | exact CellsOf.int | exact CellsOf.bool | exact CellsOf.slice | exact CellsOf.string | exact CellsOf.pointer | exact CellsOf.func); (repeat (first | exact SetsAt.nil | apply SetsAt.here | apply SetsAt.there)); exact rfl; exact rfl) | apply StoreAt.there)) ?_; clear H; intro w H)))
  clear hneg
  go_at_call 48
  refine (toPS_H A H R Ri Z Zi).mono ?_
  clear H
  rintro e w ⟨d0, rfl, Hd0, H⟩
  have Zd0 : d0.xs.length ≤ 4194304 := by rw [ps_len Hd0.out]; exact Z
  have Sd0 : (d0.xs.map (fun x => x.xs.length)).sum ≤ 1048576 := by rw [ps_sum Hd0.out]; exact hsm
  have Id0 : ∀ y ∈ d0.xs, y.xs.length ≤ 4194304 := fun y hy => by have := sum_ge hy; omega
  go_wp2_with (first
    | go_skip
    | ((with_reducible refine at_box ?_); first | (refine wpList_box_H rfl rfl H rfl (by first | exact CellsOf.agg | exact CellsOf.int | exact CellsOf.bool | exact CellsOf.slice | exact CellsOf.string | exact CellsOf.pointer | exact CellsOf.func) ?_; clear H; intro bQ w H))
    | ((with_reducible refine at_alloc ?_); first | (refine wpList_alloc_H rfl rfl H ?_; clear H; intro b w H))
    | ((with_reducible refine at_load ?_); first | (refine wpList_load_H rfl rfl H rfl (by repeat (first | exact LoadAt.here rfl | apply LoadAt.there)) ?_) | (refine wpList_loads_H rfl rfl H rfl (by repeat (first | (apply LoadsAt.here; repeat (first | exact GetsAt.nil | apply GetsAt.here | apply GetsAt.there)) | apply LoadsAt.there)) ?_))
    | ((with_reducible refine at_store ?_); first | (refine wpList_store_H rfl rfl H rfl rfl (by repeat (first | (apply StoreAt.here; (first | exact CellsOf.agg | exact CellsOf.int | exact CellsOf.bool | exact CellsOf.slice | exact CellsOf.string | exact CellsOf.pointer | exact CellsOf.func); (repeat (first | exact SetsAt.nil | apply SetsAt.here | apply SetsAt.there)); exact rfl; exact rfl) | apply StoreAt.there)) ?_; clear H; intro w H)))
  go_at_call 47
  refine (specBareNew_c d0 _ (H.rd (s := d0) (by repeat (first | exact Take.head | apply Take.tail)) h_len) (many_rdP H (l := d0.xs) (by repeat (first | exact Take.head | apply Take.tail))) Id0 Zd0 (own_cap (H.own (s := d0) (by repeat (first | exact Take.head | apply Take.tail))))).mono ?_
  rintro e w ⟨s0, rfl, x1, K⟩
  have Hs0 : Hid (s0.m = m) := by show _ = _; rw [x1, Hd0.out]; exact HM.out.symm
  clear x1
  replace H := H.add_all K
  clear K
  have Zs0 := bbig_mm MB Hs0
  go_wp2_with (first
    | go_skip
    | ((with_reducible refine at_box ?_); first | (refine wpList_box_H rfl rfl H rfl (by first | exact CellsOf.agg | exact CellsOf.int | exact CellsOf.bool | exact CellsOf.slice | exact CellsOf.string | exact CellsOf.pointer | exact CellsOf.func) ?_; clear H; intro bQ w H))
    | ((with_reducible refine at_alloc ?_); first | (refine wpList_alloc_H rfl rfl H ?_; clear H; intro bW w H))
    | ((with_reducible refine at_load ?_); first | (refine wpList_load_H rfl rfl H rfl (by repeat (first | exact LoadAt.here rfl | apply LoadAt.there)) ?_) | (refine wpList_loads_H rfl rfl H rfl (by repeat (first | (apply LoadsAt.here; repeat (first | exact GetsAt.nil | apply GetsAt.here | apply GetsAt.there)) | apply LoadsAt.there)) ?_))
    | ((with_reducible refine at_store ?_); first | (refine wpList_store_H rfl rfl H rfl rfl (by repeat (first | (apply StoreAt.here; (first | exact CellsOf.agg | exact CellsOf.int | exact CellsOf.bool | exact CellsOf.slice | exact CellsOf.string | exact CellsOf.pointer | exact CellsOf.func); (repeat (first | exact SetsAt.nil | apply SetsAt.here | apply SetsAt.there)); exact rfl; exact rfl) | apply StoreAt.there)) ?_; clear H; intro w H)))
  go_at_call 48
  refine (toPS_H A H R Ri Z Zi).mono ?_
  clear H
  rintro e w ⟨x0, rfl, Hx0, H⟩
  have Zx0 : x0.xs.length ≤ 4194304 := by rw [ps_len Hx0.out]; exact Z
  have Sx0 : (x0.xs.map (fun x => x.xs.length)).sum ≤ 1048576 := by rw [ps_sum Hx0.out]; exact hsm
  have Ix0 : ∀ y ∈ x0.xs, y.xs.length ≤ 4194304 := fun y hy => by have := sum_ge hy; omega
  go_wp2_with (first
    | go_skip
    | ((with_reducible refine at_box ?_); first | (refine wpList_box_H rfl rfl H rfl (by first | exact CellsOf.agg | exact CellsOf.int | exact CellsOf.bool | exact CellsOf.slice | exact CellsOf.string | exact CellsOf.pointer | exact CellsOf.func) ?_; clear H; intro bQ w H))
    | ((with_reducible refine at_alloc ?_); first | (refine wpList_alloc_H rfl rfl H ?_; clear H; intro b w H))
    | ((with_reducible refine at_load ?_); first | (refine wpList_load_H rfl rfl H rfl (by repeat (first | exact LoadAt.here rfl | apply LoadAt.there)) ?_) | (refine wpList_loads_H rfl rfl H rfl (by repeat (first | (apply LoadsAt.here; repeat (first | exact GetsAt.nil | apply GetsAt.here | apply GetsAt.there)) | apply LoadsAt.there)) ?_))
    | ((with_reducible refine at_store ?_); first | (refine wpList_store_H rfl rfl H rfl rfl (by repeat (first | (apply StoreAt.here; (first | exact CellsOf.agg | exact CellsOf.int | exact CellsOf.bool | exact CellsOf.slice | exact CellsOf.string | exact CellsOf.pointer | exact CellsOf.func); (repeat (first | exact SetsAt.nil | apply SetsAt.here | apply SetsAt.there)); exact rfl; exact rfl) | apply StoreAt.there)) ?_; clear H; intro w H)))
  go_at_call 49
  refine (bareNew_c x0 _ (H.rd (s := x0) (by repeat (first | exact Take.head | apply Take.tail)) h_len) (many_rdP H (l := x0.xs) (by repeat (first | exact Take.head | apply Take.tail))) Ix0 Zx0 (own_cap (H.own (s := x0) (by repeat (first | exact Take.head | apply Take.tail))))).mono ?_
  rintro e w ⟨g0, rfl, x1, K⟩
  have Hg0 : Hid (g0.m = m) := by show _ = _; rw [x1, Hx0.out]; exact HM.out.symm
  clear x1
  replace H := H.add_all K
  clear K
  have Zg0 := bbig_mm MB Hg0
  go_wp2_with (first
    | go_skip
    | ((with_reducible refine at_box ?_); first | (refine wpList_box_H rfl rfl H rfl (by first | exact CellsOf.agg | exact CellsOf.int | exact CellsOf.bool | exact CellsOf.slice | exact CellsOf.string | exact CellsOf.pointer | exact CellsOf.func) ?_; clear H; intro bQ w H))
    | ((with_reducible refine at_alloc ?_); first | (refine wpList_alloc_H rfl rfl H ?_; clear H; intro bG w H))
    | ((with_reducible refine at_load ?_); first | (refine wpList_load_H rfl rfl H rfl (by repeat (first | exact LoadAt.here rfl | apply LoadAt.there)) ?_) | (refine wpList_loads_H rfl rfl H rfl (by repeat (first | (apply LoadsAt.here; repeat (first | exact GetsAt.nil | apply GetsAt.here | apply GetsAt.there)) | apply LoadsAt.there)) ?_))
    | ((with_reducible refine at_store ?_); first | (refine wpList_store_H rfl rfl H rfl rfl (by repeat (first | (apply StoreAt.here; (first | exact CellsOf.agg | exact CellsOf.int | exact CellsOf.bool | exact CellsOf.slice | exact CellsOf.string | exact CellsOf.pointer | exact CellsOf.func); (repeat (first | exact SetsAt.nil | apply SetsAt.here | apply SetsAt.there)); exact rfl; exact rfl) | apply StoreAt.there)) ?_; clear H; intro w H)))
  go_at_call 26
  refine (eqB_H g0 s0 H (by repeat (first | exact Take.head | apply Take.tail)) (by repeat (first | exact Take.head | apply Take.tail)) Zg0 (Hg0.out.trans Hs0.out.symm)).mono ?_
  clear H
  rintro e w ⟨rfl, H⟩
  go_wp2_with (first
    | go_skip
    | ((with_reducible refine at_box ?_); first | (refine wpList_box_H rfl rfl H rfl (by first | exact CellsOf.agg | exact CellsOf.int | exact CellsOf.bool | exact CellsOf.slice | exact CellsOf.string | exact CellsOf.pointer | exact CellsOf.func) ?_; clear H; intro bQ w H))
    | ((with_reducible refine at_alloc ?_); first | (refine wpList_alloc_H rfl rfl H ?_; clear H; intro b w H))
    | ((with_reducible refine at_load ?_); first | (refine wpList_load_H rfl rfl H rfl (by repeat (first | exact LoadAt.here rfl | apply LoadAt.there)) ?_) | (refine wpList_loads_H rfl rfl H rfl (by repeat (first | (apply LoadsAt.here; repeat (first | exact GetsAt.nil | apply GetsAt.here | apply GetsAt.there)) | apply LoadsAt.there)) ?_))
    | ((with_reducible refine at_store ?_); first | (refine wpList_store_H rfl rfl H rfl rfl (by repeat (first | (apply StoreAt.here; (first | exact CellsOf.agg | exact CellsOf.int | exact CellsOf.bool | exact CellsOf.slice | exact CellsOf.string | exact CellsOf.pointer | exact CellsOf.func); (repeat (first | exact SetsAt.nil | apply SetsAt.here | apply SetsAt.there)); exact rfl; exact rfl) | apply StoreAt.there)) ?_; clear H; intro w H)))
  go_at_call 48
  refine (toPS_H A H R Ri Z Zi).mono ?_
  clear H
  rintro e w ⟨t0, rfl, Ht0, H⟩
  have Zt0 : t0.xs.length ≤ 4194304 := by rw [ps_len Ht0.out]; exact Z
  have St0 : (t0.xs.map (fun x => x.xs.length)).sum ≤ 1048576 := by rw [ps_sum Ht0.out]; exact hsm
  have It0 : ∀ y ∈ t0.xs, y.xs.length ≤ 4194304 := fun y hy => by have := sum_ge hy; omega
  go_wp2_with (first
    | go_skip
    | ((with_reducible refine at_box ?_); first | (refine wpList_box_H rfl rfl H rfl (by first | exact CellsOf.agg | exact CellsOf.int | exact CellsOf.bool | exact CellsOf.slice | exact CellsOf.string | exact CellsOf.pointer | exact CellsOf.func) ?_; clear H; intro bQ w H))
    | ((with_reducible refine at_alloc ?_); first | (refine wpList_alloc_H rfl rfl H ?_; clear H; intro b w H))
    | ((with_reducible refine at_load ?_); first | (refine wpList_load_H rfl rfl H rfl (by repeat (first | exact LoadAt.here rfl | apply LoadAt.there)) ?_) | (refine wpList_loads_H rfl rfl H rfl (by repeat (first | (apply LoadsAt.here; repeat (first | exact GetsAt.nil | apply GetsAt.here | apply GetsAt.there)) | apply LoadsAt.there)) ?_))
    | ((with_reducible refine at_store ?_); first | (refine wpList_store_H rfl rfl H rfl rfl (by repeat (first | (apply StoreAt.here; (first | exact CellsOf.agg | exact CellsOf.int | exact CellsOf.bool | exact CellsOf.slice | exact CellsOf.string | exact CellsOf.pointer | exact CellsOf.func); (repeat (first | exact SetsAt.nil | apply SetsAt.here | apply SetsAt.there)); exact rfl; exact rfl) | apply StoreAt.there)) ?_; clear H; intro w H)))
  go_at_call 50
  refine (eqPS_H x0 t0 H (by repeat (first | exact Take.head | apply Take.tail)) (by repeat (first | exact Take.head | apply Take.tail)) (by repeat (first | exact Take.head | apply Take.tail)) (by repeat (first | exact Take.head | apply Take.tail)) Zx0 Ix0 (Hx0.out.trans Ht0.out.symm)).mono ?_
  clear H
  rintro e w ⟨rfl, H⟩
  go_wp2_with (first
    | go_skip
    | ((with_reducible refine at_box ?_); first | (refine wpList_box_H rfl rfl H rfl (by first | exact CellsOf.agg | exact CellsOf.int | exact CellsOf.bool | exact CellsOf.slice | exact CellsOf.string | exact CellsOf.pointer | exact CellsOf.func) ?_; clear H; intro bQ w H))
    | ((with_reducible refine at_alloc ?_); first | (refine wpList_alloc_H rfl rfl H ?_; clear H; intro b w H))
    | ((with_reducible refine at_load ?_); first | (refine wpList_load_H rfl rfl H rfl (by repeat (first | exact LoadAt.here rfl | apply LoadAt.there)) ?_) | (refine wpList_loads_H rfl rfl H rfl (by repeat (first | (apply LoadsAt.here; repeat (first | exact GetsAt.nil | apply GetsAt.here | apply GetsAt.there)) | apply LoadsAt.there)) ?_))
    | ((with_reducible refine at_store ?_); first | (refine wpList_store_H rfl rfl H rfl rfl (by repeat (first | (apply StoreAt.here; (first | exact CellsOf.agg | exact CellsOf.int | exact CellsOf.bool | exact CellsOf.slice | exact CellsOf.string | exact CellsOf.pointer | exact CellsOf.func); (repeat (first | exact SetsAt.nil | apply SetsAt.here | apply SetsAt.there)); exact rfl; exact rfl) | apply StoreAt.there)) ?_; clear H; intro w H)))
  obtain ⟨kk, hkk, hk0⟩ : ∃ kk : Int, (1 : Int) + 2 * (((x0.xs.map (fun x => x.xs.length)).sum : Nat) : Int) = kk ∧ 0 ≤ kk := ⟨_, rfl, by omega⟩
  have HK := Lib.hid hkk; clear hkk
  have hkd : decide (kk < 0) = false := by simp; omega
  go_at_call 51
  refine (markPS_H x0 1 H (by repeat (first | exact Take.head | apply Take.tail)) (by repeat (first | exact Take.head | apply Take.tail)) Zx0 (by omega) (by omega) (by omega)).mono ?_
  clear H
  rintro e w ⟨he, H⟩
  rw [HK.out] at he
  subst he
  go_wp2_with (first
    | go_skip
    | ((with_reducible refine at_box ?_); first | (refine wpList_box_H rfl rfl H rfl (by first | exact CellsOf.agg | exact CellsOf.int | exact CellsOf.bool | exact CellsOf.slice | exact CellsOf.string | exact CellsOf.pointer | exact CellsOf.func) ?_; clear H; intro bQ w H))
    | ((with_reducible refine at_alloc ?_); first | (refine wpList_alloc_H rfl rfl H ?_; clear H; intro b w H))
    | ((with_reducible refine at_load ?_); first | (refine wpList_load_H rfl rfl H rfl (by repeat (first | exact LoadAt.here rfl | apply LoadAt.there)) ?_) | (refine wpList_loads_H rfl rfl H rfl (by repeat (first | (apply LoadsAt.here; repeat (first | exact GetsAt.nil | apply GetsAt.here | apply GetsAt.there)) | apply LoadsAt.there)) ?_))
    | ((with_reducible refine at_store ?_); first | (refine wpList_store_H rfl rfl H rfl rfl (by repeat (first | (apply StoreAt.here; (first | exact CellsOf.agg | exact CellsOf.int | exact CellsOf.bool | exact CellsOf.slice | exact CellsOf.string | exact CellsOf.pointer | exact CellsOf.func); (repeat (first | exact SetsAt.nil | apply SetsAt.here | apply SetsAt.there)); exact rfl; exact rfl) | apply StoreAt.there)) ?_; clear H; intro w H)))
  go_at_call 26
  refine (eqB_H g0 s0 H (by repeat (first | exact Take.head | apply Take.tail)) (by repeat (first | exact Take.head | apply Take.tail)) Zg0 (Hg0.out.trans Hs0.out.symm)).mono ?_
  clear H
  rintro e w ⟨rfl, H⟩
  go_wp2_with (first
    | go_skip
    | ((with_reducible refine at_box ?_); first | (refine wpList_box_H rfl rfl H rfl (by first | exact CellsOf.agg | exact CellsOf.int | exact CellsOf.bool | exact CellsOf.slice | exact CellsOf.string | exact CellsOf.pointer | exact CellsOf.func) ?_; clear H; intro bQ w H))
    | ((with_reducible refine at_alloc ?_); first | (refine wpList_alloc_H rfl rfl H ?_; clear H; intro b w H))
    | ((with_reducible refine at_load ?_); first | (refine wpList_load_H rfl rfl H rfl (by repeat (first | exact LoadAt.here rfl | apply LoadAt.there)) ?_) | (refine wpList_loads_H rfl rfl H rfl (by repeat (first | (apply LoadsAt.here; repeat (first | exact GetsAt.nil | apply GetsAt.here | apply GetsAt.there)) | apply LoadsAt.there)) ?_))
    | ((with_reducible refine at_store ?_); first | (refine wpList_store_H rfl rfl H rfl rfl (by repeat (first | (apply StoreAt.here; (first | exact CellsOf.agg | exact CellsOf.int | exact CellsOf.bool | exact CellsOf.slice | exact CellsOf.string | exact CellsOf.pointer | exact CellsOf.func); (repeat (first | exact SetsAt.nil | apply SetsAt.here | apply SetsAt.there)); exact rfl; exact rfl) | apply StoreAt.there)) ?_; clear H; intro w H)))
  go_at_call 32
  refine (markB_H g0 H (by repeat (first | exact Take.head | apply Take.tail)) Zg0).mono ?_
  clear H
  rintro e w ⟨rfl, H⟩
  have eg0 := g0.markEnd_pos
  go_wp2_with (first
    | go_skip
    | ((with_reducible refine at_box ?_); first | (refine wpList_box_H rfl rfl H rfl (by first | exact CellsOf.agg | exact CellsOf.int | exact CellsOf.bool | exact CellsOf.slice | exact CellsOf.string | exact CellsOf.pointer | exact CellsOf.func) ?_; clear H; intro bQ w H))
    | ((with_reducible refine at_alloc ?_); first | (refine wpList_alloc_H rfl rfl H ?_; clear H; intro b w H))
    | ((with_reducible refine at_load ?_); first | (refine wpList_load_H rfl rfl H rfl (by repeat (first | exact LoadAt.here rfl | apply LoadAt.there)) ?_) | (refine wpList_loads_H rfl rfl H rfl (by repeat (first | (apply LoadsAt.here; repeat (first | exact GetsAt.nil | apply GetsAt.here | apply GetsAt.there)) | apply LoadsAt.there)) ?_))
    | ((with_reducible refine at_store ?_); first | (refine wpList_store_H rfl rfl H rfl rfl (by repeat (first | (apply StoreAt.here; (first | exact CellsOf.agg | exact CellsOf.int | exact CellsOf.bool | exact CellsOf.slice | exact CellsOf.string | exact CellsOf.pointer | exact CellsOf.func); (repeat (first | exact SetsAt.nil | apply SetsAt.here | apply SetsAt.there)); exact rfl; exact rfl) | apply StoreAt.there)) ?_; clear H; intro w H)))
  go_at_call 52
  refine (heldB_H g0 H (by repeat (first | exact Take.head | apply Take.tail)) Zg0).mono ?_
  clear H
  rintro e w ⟨rfl, H⟩
  go_wp2_with (first
    | go_skip
    | ((with_reducible refine at_box ?_); first | (refine wpList_box_H rfl rfl H rfl (by first | exact CellsOf.agg | exact CellsOf.int | exact CellsOf.bool | exact CellsOf.slice | exact CellsOf.string | exact CellsOf.pointer | exact CellsOf.func) ?_; clear H; intro bQ w H))
    | ((with_reducible refine at_alloc ?_); first | (refine wpList_alloc_H rfl rfl H ?_; clear H; intro b w H))
    | ((with_reducible refine at_load ?_); first | (refine wpList_load_H rfl rfl H rfl (by repeat (first | exact LoadAt.here rfl | apply LoadAt.there)) ?_) | (refine wpList_loads_H rfl rfl H rfl (by repeat (first | (apply LoadsAt.here; repeat (first | exact GetsAt.nil | apply GetsAt.here | apply GetsAt.there)) | apply LoadsAt.there)) ?_))
    | ((with_reducible refine at_store ?_); first | (refine wpList_store_H rfl rfl H rfl rfl (by repeat (first | (apply StoreAt.here; (first | exact CellsOf.agg | exact CellsOf.int | exact CellsOf.bool | exact CellsOf.slice | exact CellsOf.string | exact CellsOf.pointer | exact CellsOf.func); (repeat (first | exact SetsAt.nil | apply SetsAt.here | apply SetsAt.there)); exact rfl; exact rfl) | apply StoreAt.there)) ?_; clear H; intro w H)))
  go_at_call 48
  refine (toPS_H A H R Ri Z Zi).mono ?_
  clear H
  rintro e w ⟨y0, rfl, Hy0, H⟩
  have Zy0 : y0.xs.length ≤ 4194304 := by rw [ps_len Hy0.out]; exact Z
  have Sy0 : (y0.xs.map (fun x => x.xs.length)).sum ≤ 1048576 := by rw [ps_sum Hy0.out]; exact hsm
  have Iy0 : ∀ y ∈ y0.xs, y.xs.length ≤ 4194304 := fun y hy => by have := sum_ge hy; omega
  go_wp2_with (first
    | go_skip
    | ((with_reducible refine at_box ?_); first | (refine wpList_box_H rfl rfl H rfl (by first | exact CellsOf.agg | exact CellsOf.int | exact CellsOf.bool | exact CellsOf.slice | exact CellsOf.string | exact CellsOf.pointer | exact CellsOf.func) ?_; clear H; intro bQ w H))
    | ((with_reducible refine at_alloc ?_); first | (refine wpList_alloc_H rfl rfl H ?_; clear H; intro b w H))
    | ((with_reducible refine at_load ?_); first | (refine wpList_load_H rfl rfl H rfl (by repeat (first | exact LoadAt.here rfl | apply LoadAt.there)) ?_) | (refine wpList_loads_H rfl rfl H rfl (by repeat (first | (apply LoadsAt.here; repeat (first | exact GetsAt.nil | apply GetsAt.here | apply GetsAt.there)) | apply LoadsAt.there)) ?_))
    | ((with_reducible refine at_store ?_); first | (refine wpList_store_H rfl rfl H rfl rfl (by repeat (first | (apply StoreAt.here; (first | exact CellsOf.agg | exact CellsOf.int | exact CellsOf.bool | exact CellsOf.slice | exact CellsOf.string | exact CellsOf.pointer | exact CellsOf.func); (repeat (first | exact SetsAt.nil | apply SetsAt.here | apply SetsAt.there)); exact rfl; exact rfl) | apply StoreAt.there)) ?_; clear H; intro w H)))
  go_at_call 49
  refine (bareNew_c y0 _ (H.rd (s := y0) (by repeat (first | exact Take.head | apply Take.tail)) h_len) (many_rdP H (l := y0.xs) (by repeat (first | exact Take.head | apply Take.tail))) Iy0 Zy0 (own_cap (H.own (s := y0) (by repeat (first | exact Take.head | apply Take.tail))))).mono ?_
  rintro e w ⟨h0, rfl, x1, K⟩
  have Hh0 : Hid (h0.m = m) := by show _ = _; rw [x1, Hy0.out]; exact HM.out.symm
  clear x1
  replace H := H.add_all K
  clear K
  have Zh0 := bbig_mm MB Hh0
  go_wp2_with (first
    | go_skip
    | ((with_reducible refine at_box ?_); first | (refine wpList_box_H rfl rfl H rfl (by first | exact CellsOf.agg | exact CellsOf.int | exact CellsOf.bool | exact CellsOf.slice | exact CellsOf.string | exact CellsOf.pointer | exact CellsOf.func) ?_; clear H; intro bQ w H))
    | ((with_reducible refine at_alloc ?_); first | (refine wpList_alloc_H rfl rfl H ?_; clear H; intro bH w H))
    | ((with_reducible refine at_load ?_); first | (refine wpList_load_H rfl rfl H rfl (by repeat (first | exact LoadAt.here rfl | apply LoadAt.there)) ?_) | (refine wpList_loads_H rfl rfl H rfl (by repeat (first | (apply LoadsAt.here; repeat (first | exact GetsAt.nil | apply GetsAt.here | apply GetsAt.there)) | apply LoadsAt.there)) ?_))
    | ((with_reducible refine at_store ?_); first | (refine wpList_store_H rfl rfl H rfl rfl (by repeat (first | (apply StoreAt.here; (first | exact CellsOf.agg | exact CellsOf.int | exact CellsOf.bool | exact CellsOf.slice | exact CellsOf.string | exact CellsOf.pointer | exact CellsOf.func); (repeat (first | exact SetsAt.nil | apply SetsAt.here | apply SetsAt.there)); exact rfl; exact rfl) | apply StoreAt.there)) ?_; clear H; intro w H)))
  go_at_call 26
  refine (eqB_H h0 s0 H (by repeat (first | exact Take.head | apply Take.tail)) (by repeat (first | exact Take.head | apply Take.tail)) Zh0 (Hh0.out.trans Hs0.out.symm)).mono ?_
  clear H
  rintro e w ⟨rfl, H⟩
  go_wp2_with (first
    | go_skip
    | ((with_reducible refine at_box ?_); first | (refine wpList_box_H rfl rfl H rfl (by first | exact CellsOf.agg | exact CellsOf.int | exact CellsOf.bool | exact CellsOf.slice | exact CellsOf.string | exact CellsOf.pointer | exact CellsOf.func) ?_; clear H; intro bQ w H))
    | ((with_reducible refine at_alloc ?_); first | (refine wpList_alloc_H rfl rfl H ?_; clear H; intro b w H))
    | ((with_reducible refine at_load ?_); first | (refine wpList_load_H rfl rfl H rfl (by repeat (first | exact LoadAt.here rfl | apply LoadAt.there)) ?_) | (refine wpList_loads_H rfl rfl H rfl (by repeat (first | (apply LoadsAt.here; repeat (first | exact GetsAt.nil | apply GetsAt.here | apply GetsAt.there)) | apply LoadsAt.there)) ?_))
    | ((with_reducible refine at_store ?_); first | (refine wpList_store_H rfl rfl H rfl rfl (by repeat (first | (apply StoreAt.here; (first | exact CellsOf.agg | exact CellsOf.int | exact CellsOf.bool | exact CellsOf.slice | exact CellsOf.string | exact CellsOf.pointer | exact CellsOf.func); (repeat (first | exact SetsAt.nil | apply SetsAt.here | apply SetsAt.there)); exact rfl; exact rfl) | apply StoreAt.there)) ?_; clear H; intro w H)))
  go_at_call 52
  refine (heldB_H g0 H (by repeat (first | exact Take.head | apply Take.tail)) Zg0).mono ?_
  clear H
  rintro e w ⟨rfl, H⟩
  go_wp2_with (first
    | go_skip
    | ((with_reducible refine at_box ?_); first | (refine wpList_box_H rfl rfl H rfl (by first | exact CellsOf.agg | exact CellsOf.int | exact CellsOf.bool | exact CellsOf.slice | exact CellsOf.string | exact CellsOf.pointer | exact CellsOf.func) ?_; clear H; intro bQ w H))
    | ((with_reducible refine at_alloc ?_); first | (refine wpList_alloc_H rfl rfl H ?_; clear H; intro b w H))
    | ((with_reducible refine at_load ?_); first | (refine wpList_load_H rfl rfl H rfl (by repeat (first | exact LoadAt.here rfl | apply LoadAt.there)) ?_) | (refine wpList_loads_H rfl rfl H rfl (by repeat (first | (apply LoadsAt.here; repeat (first | exact GetsAt.nil | apply GetsAt.here | apply GetsAt.there)) | apply LoadsAt.there)) ?_))
    | ((with_reducible refine at_store ?_); first | (refine wpList_store_H rfl rfl H rfl rfl (by repeat (first | (apply StoreAt.here; (first | exact CellsOf.agg | exact CellsOf.int | exact CellsOf.bool | exact CellsOf.slice | exact CellsOf.string | exact CellsOf.pointer | exact CellsOf.func); (repeat (first | exact SetsAt.nil | apply SetsAt.here | apply SetsAt.there)); exact rfl; exact rfl) | apply StoreAt.there)) ?_; clear H; intro w H)))
  go_ret
  exact ⟨rfl, H.below⟩
end Go.Proofs.Ytgeoilpmmdfemaa
