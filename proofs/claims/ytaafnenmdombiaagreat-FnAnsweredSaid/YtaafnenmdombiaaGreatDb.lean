/- Contracts of the reference's draws of numbers, instructions, programs, slots, tables, control words and exits. No condition but that the argument lies in memory. -/
import Derived.Test.YtaafnenmdombiaaGreatDa
namespace Go.Proofs.YtaafnenmdombiaaGreat
set_option linter.unusedSimpArgs false
set_option linter.unusedVariables false
open Go.RowKit
theorem mkIns {e : Ending} {P : Prop} (a c : Int) (h : e = .returned (.agg #[.int .i64 a, .int .i64 c])) (hp : P) : ∃ x : Ins, e = .returned x.val ∧ P := ⟨⟨a, c⟩, h, hp⟩
theorem mkSlot {e : Ending} {P : Prop} (a c : Int) (h : e = .returned (.agg #[.int .i64 a, .int .i64 c])) (hp : P) : ∃ x : Slot, e = .returned x.val ∧ P := ⟨⟨a, c⟩, h, hp⟩
theorem mkCtl {e : Ending} {P : Prop} (a c : Int) (d : Bool) (h : e = .returned (.agg #[.int .i64 a, .int .i64 c, .bool d])) (hp : P) : ∃ x : Ctl, e = .returned x.val ∧ P := ⟨⟨a, c, d⟩, h, hp⟩
theorem mkExit {e : Ending} {P : Prop} (a c : Int) (d : Bool) (f : Int) (h : e = .returned (.agg #[.int .i64 a, .int .i64 c, .bool d, .int .i64 f])) (hp : P) : ∃ x : Exit, e = .returned x.val ∧ P := ⟨⟨a, c, d, f⟩, h, hp⟩
set_option maxRecDepth 100000 in
set_option maxHeartbeats 4000000 in
theorem l14Pend_H (s : Sl Int) (b : Nat) {W0 w : World} {L L1 : List En} (H : Hp W0 w L) (t : Take L (.cu b s) L1) (R : Rd u8cell 1 W0 s ∧ s.xs.length ≤ 1048576) : Calls Tryz.prog 166 #[.pointer (some ⟨b, 0, none⟩)] w fun e w' => ∃ x : Int, e = .returned (.int .i64 x) ∧ Hp W0 w' (.cu b s :: L1) := by
  replace H := (H.take t).seal
  clear t
  go_enter Tryz.func166, Tryz.ntmps166
  go_wp2_with (first
    | go_skip
    | ((with_reducible refine at_box ?_); first | (refine wpList_box_H rfl rfl H rfl (by constructor) ?_; clear H; intro b w H))
    | ((with_reducible refine at_alloc ?_); first | (refine wpList_alloc_H rfl rfl H ?_; clear H; intro b w H))
    | ((with_reducible refine at_load ?_); first | (refine wpList_load_H rfl rfl H rfl (by repeat constructor) ?_) | (refine wpList_loads_H rfl rfl H rfl (by repeat constructor) ?_))
    | ((with_reducible refine at_store ?_); first | (refine wpList_store_H rfl rfl H rfl rfl (by repeat constructor) ?_; clear H; intro w H)))
  go_at_call 94
  refine (l01Below_H s b _ (by decide) (by decide) H (by repeat constructor) R).mono ?_
  clear H
  rintro e w ⟨x, rfl, xa, xb, H⟩
  go_wp2_with (first
    | go_skip
    | ((with_reducible refine at_box ?_); first | (refine wpList_box_H rfl rfl H rfl (by constructor) ?_; clear H; intro b w H))
    | ((with_reducible refine at_alloc ?_); first | (refine wpList_alloc_H rfl rfl H ?_; clear H; intro b w H))
    | ((with_reducible refine at_load ?_); first | (refine wpList_load_H rfl rfl H rfl (by repeat constructor) ?_) | (refine wpList_loads_H rfl rfl H rfl (by repeat constructor) ?_))
    | ((with_reducible refine at_store ?_); first | (refine wpList_store_H rfl rfl H rfl rfl (by repeat constructor) ?_; clear H; intro w H)))
  go_at_call 94
  refine (l01Below_H s b _ (by decide) (by decide) H (by repeat constructor) R).mono ?_
  clear H
  rintro e w ⟨y, rfl, ya, yb, H⟩
  go_wp2_with (first
    | go_skip
    | ((with_reducible refine at_box ?_); first | (refine wpList_box_H rfl rfl H rfl (by constructor) ?_; clear H; intro b w H))
    | ((with_reducible refine at_alloc ?_); first | (refine wpList_alloc_H rfl rfl H ?_; clear H; intro b w H))
    | ((with_reducible refine at_load ?_); first | (refine wpList_load_H rfl rfl H rfl (by repeat constructor) ?_) | (refine wpList_loads_H rfl rfl H rfl (by repeat constructor) ?_))
    | ((with_reducible refine at_store ?_); first | (refine wpList_store_H rfl rfl H rfl rfl (by repeat constructor) ?_; clear H; intro w H))
    | ((with_reducible refine at_slice ?_); first | ((with_reducible refine at_dst 8 ?_); refine wpList_lit_H rfl rfl H ([0, 1, 128, 255, x, y, -1, 256, 9223372036854775807] : List Int) (by kernel_rfl) rfl (by decide) (by decide) ?_; clear H; intro bl w H))
    | (go_at_call 84; refine (l01PickInt_H s b (⟨some ⟨bl, 0, none⟩, 9, [0, 1, 128, 255, x, y, -1, 256, 9223372036854775807]⟩ : Sl Int) H (by repeat constructor) (by repeat constructor) R (by simp) (by simp)).mono ?_; clear H; rintro e w ⟨v, rfl, vm, H⟩; have VM := Lib.hid vm; clear vm))
  all_goals (go_ret; exact ⟨_, rfl, (H.pick (.cons (by repeat constructor) (.cons (by repeat constructor) .nil))).unseal⟩)
set_option maxRecDepth 100000 in
set_option maxHeartbeats 4000000 in
theorem l02Rights_H (s : Sl Int) (b : Nat) {W0 w : World} {L L1 : List En} (H : Hp W0 w L) (t : Take L (.cu b s) L1) (R : Rd u8cell 1 W0 s ∧ s.xs.length ≤ 1048576) : Calls Tryz.prog 192 #[.pointer (some ⟨b, 0, none⟩)] w fun e w' => ∃ x : Int, e = .returned (.int .i64 x) ∧ Hp W0 w' (.cu b s :: L1) := by
  replace H := (H.take t).seal
  clear t
  go_enter Tryz.func192, Tryz.ntmps192
  go_wp2_with (first
    | go_skip
    | ((with_reducible refine at_box ?_); first | (refine wpList_box_H rfl rfl H rfl (by constructor) ?_; clear H; intro b w H))
    | ((with_reducible refine at_alloc ?_); first | (refine wpList_alloc_H rfl rfl H ?_; clear H; intro b w H))
    | ((with_reducible refine at_load ?_); first | (refine wpList_load_H rfl rfl H rfl (by repeat constructor) ?_) | (refine wpList_loads_H rfl rfl H rfl (by repeat constructor) ?_))
    | ((with_reducible refine at_store ?_); first | (refine wpList_store_H rfl rfl H rfl rfl (by repeat constructor) ?_; clear H; intro w H))
    | ((with_reducible refine at_slice ?_); first | ((with_reducible refine at_dst 4 ?_); refine wpList_lit_H rfl rfl H ([3, 3, 1, 2, 0, 3, 1, -1, 4, 9223372036854775807] : List Int) (by kernel_rfl) rfl (by decide) (by decide) ?_; clear H; intro bl w H))
    | (go_at_call 84; refine (l01PickInt_H s b (⟨some ⟨bl, 0, none⟩, 10, [3, 3, 1, 2, 0, 3, 1, -1, 4, 9223372036854775807]⟩ : Sl Int) H (by repeat constructor) (by repeat constructor) R (by simp) (by simp)).mono ?_; clear H; rintro e w ⟨v, rfl, vm, H⟩; have VM := Lib.hid vm; clear vm))
  all_goals (go_ret; exact ⟨_, rfl, (H.pick (.cons (by repeat constructor) (.cons (by repeat constructor) .nil))).unseal⟩)
set_option maxRecDepth 100000 in
set_option maxHeartbeats 4000000 in
theorem l10Ins_H (s : Sl Int) (b : Nat) {W0 w : World} {L L1 : List En} (H : Hp W0 w L) (t : Take L (.cu b s) L1) (R : Rd u8cell 1 W0 s ∧ s.xs.length ≤ 1048576) : Calls Tryz.prog 195 #[.pointer (some ⟨b, 0, none⟩)] w fun e w' => ∃ x : Ins, e = .returned x.val ∧ Hp W0 w' (.cu b s :: L1) := by
  replace H := (H.take t).seal
  clear t
  go_enter Tryz.func195, Tryz.ntmps195
  go_wp2_with (first
    | go_skip
    | ((with_reducible refine at_box ?_); first | (refine wpList_box_H rfl rfl H rfl (by constructor) ?_; clear H; intro b w H))
    | ((with_reducible refine at_alloc ?_); first | (refine wpList_alloc_H rfl rfl H ?_; clear H; intro bA w H))
    | ((with_reducible refine at_load ?_); first | (refine wpList_load_H rfl rfl H rfl (by repeat constructor) ?_) | (refine wpList_loads_H rfl rfl H rfl (by repeat constructor) ?_))
    | ((with_reducible refine at_store ?_); first | (refine wpList_store_H rfl rfl H rfl rfl (by repeat constructor) ?_; clear H; intro w H))
    | ((with_reducible refine at_slice ?_); first | ((with_reducible refine at_dst 5 ?_); refine wpList_lit_H rfl rfl H ([1, 2, 3, 3, 3, 4, 4, 4, 5, 6, 8] : List Int) (by kernel_rfl) rfl (by decide) (by decide) ?_; clear H; intro bl w H))
    | (go_at_call 84; refine (l01PickInt_H s b (⟨some ⟨bl, 0, none⟩, 11, [1, 2, 3, 3, 3, 4, 4, 4, 5, 6, 8]⟩ : Sl Int) H (by repeat constructor) (by repeat constructor) R (by simp) (by simp)).mono ?_; clear H; rintro e w ⟨o, rfl, om, H⟩; have OM := Lib.hid om; clear om)
    | (go_at_call 94; refine (l01Below_H s b _ (by decide) (by decide) H (by repeat constructor) R).mono ?_; clear H; rintro e w ⟨x, rfl, xa, xb, H⟩))
  all_goals (refine bodyPost_ret (results_H rfl H rfl (by repeat constructor)) rfl ?_; exact mkIns _ _ rfl (H.pick (.cons (by repeat constructor) (.cons (by repeat constructor) .nil))).unseal)
set_option maxRecDepth 100000 in
set_option maxHeartbeats 4000000 in
theorem l10AnyIns_H (s : Sl Int) (b : Nat) {W0 w : World} {L L1 : List En} (H : Hp W0 w L) (t : Take L (.cu b s) L1) (R : Rd u8cell 1 W0 s ∧ s.xs.length ≤ 1048576) : Calls Tryz.prog 196 #[.pointer (some ⟨b, 0, none⟩)] w fun e w' => ∃ x : Ins, e = .returned x.val ∧ Hp W0 w' (.cu b s :: L1) := by
  replace H := (H.take t).seal
  clear t
  go_enter Tryz.func196, Tryz.ntmps196
  go_wp2_with (first
    | go_skip
    | ((with_reducible refine at_box ?_); first | (refine wpList_box_H rfl rfl H rfl (by constructor) ?_; clear H; intro b w H))
    | ((with_reducible refine at_alloc ?_); first | (refine wpList_alloc_H rfl rfl H ?_; clear H; intro bA w H))
    | ((with_reducible refine at_load ?_); first | (refine wpList_load_H rfl rfl H rfl (by repeat constructor) ?_) | (refine wpList_loads_H rfl rfl H rfl (by repeat constructor) ?_))
    | ((with_reducible refine at_store ?_); first | (refine wpList_store_H rfl rfl H rfl rfl (by repeat constructor) ?_; clear H; intro w H))
    | ((with_reducible refine at_slice ?_); first | ((with_reducible refine at_dst 17 ?_); refine wpList_lit_H rfl rfl H ([-1, 0, 12, 15, 16, 99, 100, 9223372036854775807] : List Int) (by kernel_rfl) rfl (by decide) (by decide) ?_; clear H; intro bl w H))
    | (go_at_call 195; refine (l10Ins_H s b H (by repeat constructor) R).mono ?_; clear H; rintro e w ⟨i, rfl, H⟩)
    | (go_at_call 94; refine (l01Below_H s b _ (by decide) (by decide) H (by repeat constructor) R).mono ?_; clear H; rintro e w ⟨y, rfl, ya, yb, H⟩)
    | (go_at_call 84; refine (l01PickInt_H s b (⟨some ⟨bl, 0, none⟩, 8, [-1, 0, 12, 15, 16, 99, 100, 9223372036854775807]⟩ : Sl Int) H (by repeat constructor) (by repeat constructor) R (by simp) (by simp)).mono ?_; clear H; rintro e w ⟨v, rfl, vm, H⟩; have VM := Lib.hid vm; clear vm))
  all_goals (refine bodyPost_ret (results_H rfl H rfl (by repeat constructor)) rfl ?_; exact mkIns _ _ rfl (H.pick (.cons (by repeat constructor) (.cons (by repeat constructor) .nil))).unseal)
set_option maxRecDepth 100000 in
set_option maxHeartbeats 4000000 in
theorem l10Prog_H (s : Sl Int) (b : Nat) {W0 w : World} {L L1 : List En} (H : Hp W0 w L) (t : Take L (.cu b s) L1) (R : Rd u8cell 1 W0 s ∧ s.xs.length ≤ 1048576) : Calls Tryz.prog 143 #[.pointer (some ⟨b, 0, none⟩)] w fun e w' => ∃ x : Sl Ins, e = .returned (.slice x.A x.xs.length x.c) ∧ 0 < x.xs.length ∧ x.xs.length ≤ 12 ∧ Hp W0 w' (.ins x :: .cu b s :: L1) := by
  replace H := (H.take t).seal
  clear t
  go_enter Tryz.func143, Tryz.ntmps143
  go_wp2_with (first
    | go_skip
    | ((with_reducible refine at_box ?_); first | (refine wpList_box_H rfl rfl H rfl (by constructor) ?_; clear H; intro b w H))
    | ((with_reducible refine at_alloc ?_); first | (refine wpList_alloc_H rfl rfl H ?_; clear H; intro b w H))
    | ((with_reducible refine at_load ?_); first | (refine wpList_load_H rfl rfl H rfl (by repeat constructor) ?_) | (refine wpList_loads_H rfl rfl H rfl (by repeat constructor) ?_))
    | ((with_reducible refine at_store ?_); first | (refine wpList_store_H rfl rfl H rfl rfl (by repeat constructor) ?_; clear H; intro w H))
    | ((with_reducible refine at_slice ?_); first | (refine wpList_nil_H rfl rfl H ?_; clear H; intro bn w H)))
  go_loopw [3, 4] (fun ov i wr => ∃ (k : Nat) (p : Sl Ins), k ≤ 8 ∧ i = .int .i64 k ∧ ov = .slice p.A p.xs.length p.c ∧ p.xs.length = k ∧ Hp W0 wr [.ins p, .cu b s, .all L1]) (fun _ i _ => 8 - (intOf i).toNat)
  case atStart => exact ⟨0, ⟨some ⟨bn, 0, none⟩, 0, []⟩, by omega, rfl, rfl, rfl, H.pick (.cons (by repeat constructor) (.cons (by repeat constructor) (.cons (by repeat constructor) .nil)))⟩
  case round =>
    clear H
    obtain ⟨k, p, hk0, rfl, rfl, hl, H⟩ := hrel
    have hz : p.xs.length ≤ 8 := by omega
    have HL := Lib.hid hl; clear hl
    go_wp2_with (first
      | go_skip
      | ((with_reducible refine at_box ?_); first | (refine wpList_box_H rfl rfl H rfl (by constructor) ?_; clear H; intro b w H))
      | ((with_reducible refine at_alloc ?_); first | (refine wpList_alloc_H rfl rfl H ?_; clear H; intro b w H))
      | ((with_reducible refine at_load ?_); first | (refine wpList_load_H rfl rfl H rfl (by repeat constructor) ?_) | (refine wpList_loads_H rfl rfl H rfl (by repeat constructor) ?_))
      | ((with_reducible refine at_store ?_); first | (refine wpList_store_H rfl rfl H rfl rfl (by repeat constructor) ?_; clear H; intro w H))
      | ((with_reducible refine at_slice ?_); first | ((with_reducible refine at_dst 16 ?_); refine wpList_one_H rfl rfl H i rfl CellsOf.agg rfl (by decide) ?_; clear H; intro b1 w H) | ((with_reducible refine at_dst 22 ?_); refine wpList_one_H rfl rfl H (⟨7, 0⟩ : Ins) rfl CellsOf.agg rfl (by decide) ?_; clear H; intro b1 w H) | ((with_reducible refine at_dst 26 ?_); refine wpList_one_H rfl rfl H (⟨8, 0⟩ : Ins) rfl CellsOf.agg rfl (by decide) ?_; clear H; intro b1 w H))
      | ((with_reducible refine at_append ?_); first | ((with_reducible refine at_dst 17 ?_); refine wpList_append_H rfl rfl H p (⟨some ⟨b1, 0, none⟩, 1, [i]⟩ : Sl Ins) rfl rfl (by repeat constructor) (H.rd (s := (⟨some ⟨b1, 0, none⟩, 1, [i]⟩ : Sl Ins)) (by repeat constructor) ins_len) (by simp only [List.length_cons, List.length_nil]; omega) (by decide) ?_; clear H; intro p2 w h2 H) | ((with_reducible refine at_dst 23 ?_); refine wpList_append_H rfl rfl H p (⟨some ⟨b1, 0, none⟩, 1, [(⟨7, 0⟩ : Ins)]⟩ : Sl Ins) rfl rfl (by repeat constructor) (H.rd (s := (⟨some ⟨b1, 0, none⟩, 1, [(⟨7, 0⟩ : Ins)]⟩ : Sl Ins)) (by repeat constructor) ins_len) (by simp only [List.length_cons, List.length_nil]; omega) (by decide) ?_; clear H; intro p2 w h2 H) | ((with_reducible refine at_dst 27 ?_); refine wpList_append_H rfl rfl H p (⟨some ⟨b1, 0, none⟩, 1, [(⟨8, 0⟩ : Ins)]⟩ : Sl Ins) rfl rfl (by repeat constructor) (H.rd (s := (⟨some ⟨b1, 0, none⟩, 1, [(⟨8, 0⟩ : Ins)]⟩ : Sl Ins)) (by repeat constructor) ins_len) (by simp only [List.length_cons, List.length_nil]; omega) (by decide) ?_; clear H; intro p2 w h2 H))
      | (go_at_call 94; refine (l01Below_H s b _ (by decide) (by decide) H (by repeat constructor) R).mono ?_; clear H; rintro e w ⟨v, rfl, va, vb, H⟩)
      | (go_at_call 195; refine (l10Ins_H s b H (by repeat constructor) R).mono ?_; clear H; rintro e w ⟨i, rfl, H⟩)
      | (go_at_call 67; refine (l01Once_H s b _ (by decide) (by decide) H (by repeat constructor) R).mono ?_; clear H; rintro e w ⟨o, rfl, H⟩))
    all_goals first
      | (go_ret; exact ⟨p2, rfl, by rw [h2.out]; simp, by rw [h2.out]; simp; omega, (H.pick (.cons (by repeat constructor) (.cons (by repeat constructor) (.cons (by repeat constructor) .nil)))).uns2⟩)
      | (go_roundw; (case rel => exact ⟨k + 1, p2, by omega, by go_num, rfl, by rw [h2.out]; simp [HL.out], H.pick (.cons (by repeat constructor) (.cons (by repeat constructor) (.cons (by repeat constructor) .nil)))⟩); (case measure => simp [intOf]; omega))
def lenOf : Value → Nat
  | .slice _ n _ => n
  | _ => 0
set_option maxRecDepth 100000 in
set_option maxHeartbeats 4000000 in
theorem l10AnyProg_H (s : Sl Int) (b : Nat) {W0 w : World} {L L1 : List En} (H : Hp W0 w L) (t : Take L (.cu b s) L1) (R : Rd u8cell 1 W0 s ∧ s.xs.length ≤ 1048576) : Calls Tryz.prog 144 #[.pointer (some ⟨b, 0, none⟩)] w fun e w' => ∃ x : Sl Ins, e = .returned (.slice x.A x.xs.length x.c) ∧ x.xs.length ≤ 16 ∧ Hp W0 w' (.ins x :: .cu b s :: L1) := by
  replace H := (H.take t).seal
  clear t
  go_enter Tryz.func144, Tryz.ntmps144
  go_wp2_with (first
    | go_skip
    | ((with_reducible refine at_box ?_); first | (refine wpList_box_H rfl rfl H rfl (by constructor) ?_; clear H; intro b w H))
    | ((with_reducible refine at_alloc ?_); first | (refine wpList_alloc_H rfl rfl H ?_; clear H; intro b w H))
    | ((with_reducible refine at_load ?_); first | (refine wpList_load_H rfl rfl H rfl (by repeat constructor) ?_) | (refine wpList_loads_H rfl rfl H rfl (by repeat constructor) ?_))
    | ((with_reducible refine at_store ?_); first | (refine wpList_store_H rfl rfl H rfl rfl (by repeat constructor) ?_; clear H; intro w H)))
  go_at_call 143
  refine (l10Prog_H s b H (by repeat constructor) R).mono ?_
  clear H
  rintro e w ⟨p, rfl, p0, p1, H⟩
  obtain ⟨y, hy0⟩ : ∃ y, p.xs[0]? = some y := ⟨_, List.getElem?_eq_getElem p0⟩
  have HY := Lib.hid hy0; clear hy0
  go_wp2_with (first
    | go_skip
    | ((with_reducible refine at_dst 32 ?_); refine wpList_cut_H rfl rfl H ins_len p rfl rfl va (by omega) (by repeat constructor) ?_; clear H; intro c hc H)
    | ((with_reducible refine at_box ?_); first | (refine wpList_box_H rfl rfl H rfl (by constructor) ?_; clear H; intro b w H))
    | ((with_reducible refine at_alloc ?_); first | (refine wpList_alloc_H rfl rfl H ?_; clear H; intro b w H))
    | ((with_reducible refine at_load ?_); first | (refine wpList_load_H rfl rfl H rfl (by repeat constructor) ?_) | (refine wpList_loads_H rfl rfl H rfl (by repeat constructor) ?_))
    | ((with_reducible refine at_store ?_); first | (refine wpList_store_el rfl rfl H p (by repeat constructor) ins_len rfl rfl y i HY.out (by constructor) (by repeat constructor) (by exact rfl) (by exact rfl) (by exact rfl) ?_; clear H; intro w H) | (refine wpList_store_H rfl rfl H rfl rfl (by repeat constructor) ?_; clear H; intro w H))
    | ((with_reducible refine at_index ?_); first | (refine wpList_index_n rfl rfl (k := 0) p (H.rd (s := p) (by repeat constructor) ins_len) rfl rfl rfl p0 ?_))
    | (go_at_call 94; refine (l01Below_H s b _ (by decide) (by decide) H (by repeat constructor) R).mono ?_; clear H; rintro e w ⟨v, rfl, va, vb, H⟩)
    | (go_at_call 196; refine (l10AnyIns_H s b H (by repeat constructor) R).mono ?_; clear H; rintro e w ⟨i, rfl, H⟩))
  all_goals first
    | (go_ret; exact ⟨⟨p.A, p.c, p.xs.set 0 i⟩, by rw [List.length_set]; rfl, by simp only [List.length_set]; omega, (H.pick (.cons (by repeat constructor) (.cons (by repeat constructor) (.cons (by repeat constructor) .nil)))).uns2⟩)
    | (go_ret; exact ⟨c, rfl, by rw [hc.out, List.length_take]; omega, (H.pick (.cons (by repeat constructor) (.cons (by repeat constructor) (.cons (by repeat constructor) .nil)))).uns2⟩)
    | (go_ret; exact ⟨p, rfl, by omega, (H.pick (.cons (by repeat constructor) (.cons (by repeat constructor) (.cons (by repeat constructor) .nil)))).uns2⟩)
    | skip
  go_loopw [3] (fun pv wr => ∃ p : Sl Ins, pv = .slice p.A p.xs.length p.c ∧ p.xs.length ≤ 14 ∧ Hp W0 wr [.ins p, .cu b s, .all L1]) (fun pv _ => 14 - lenOf pv)
  case atStart => exact ⟨p, rfl, by omega, H.pick (.cons (by repeat constructor) (.cons (by repeat constructor) (.cons (by repeat constructor) .nil)))⟩
  case round =>
    clear H HY p0 p1
    obtain ⟨q, rfl, q1, H⟩ := hrel
    go_wp2_with (first
      | go_skip
      | ((with_reducible refine at_box ?_); first | (refine wpList_box_H rfl rfl H rfl (by constructor) ?_; clear H; intro b w H))
      | ((with_reducible refine at_alloc ?_); first | (refine wpList_alloc_H rfl rfl H ?_; clear H; intro b w H))
      | ((with_reducible refine at_load ?_); first | (refine wpList_load_H rfl rfl H rfl (by repeat constructor) ?_) | (refine wpList_loads_H rfl rfl H rfl (by repeat constructor) ?_))
      | ((with_reducible refine at_store ?_); first | (refine wpList_store_H rfl rfl H rfl rfl (by repeat constructor) ?_; clear H; intro w H))
      | ((with_reducible refine at_slice ?_); first | ((with_reducible refine at_dst 25 ?_); refine wpList_one_H rfl rfl H i rfl CellsOf.agg rfl (by decide) ?_; clear H; intro b1 w H))
      | ((with_reducible refine at_append ?_); first | ((with_reducible refine at_dst 26 ?_); refine wpList_append_H rfl rfl H q (⟨some ⟨b1, 0, none⟩, 1, [i]⟩ : Sl Ins) rfl rfl (by repeat constructor) (H.rd (s := (⟨some ⟨b1, 0, none⟩, 1, [i]⟩ : Sl Ins)) (by repeat constructor) ins_len) (by simp only [List.length_cons, List.length_nil]; omega) (by decide) ?_; clear H; intro p2 w h2 H))
      | (go_at_call 94; refine (l01Below_H s b _ (by decide) (by decide) H (by repeat constructor) R).mono ?_; clear H; rintro e w ⟨v, rfl, va, vb, H⟩)
      | (go_at_call 195; refine (l10Ins_H s b H (by repeat constructor) R).mono ?_; clear H; rintro e w ⟨i, rfl, H⟩))
    all_goals first
      | (go_ret; exact ⟨q, rfl, by omega, (H.pick (.cons (by repeat constructor) (.cons (by repeat constructor) (.cons (by repeat constructor) .nil)))).uns2⟩)
      | (have h3 : p2.xs.length = q.xs.length + 1 := (by rw [h2.out]; simp); go_roundw; (case rel => exact ⟨p2, by first | exact rfl | simp, by omega, H.pick (.cons (by repeat constructor) (.cons (by repeat constructor) (.cons (by repeat constructor) .nil)))⟩); (case measure => simp only [lenOf]; omega))
set_option maxRecDepth 100000 in
set_option maxHeartbeats 4000000 in
theorem l03Slot_H (s : Sl Int) (b : Nat) {W0 w : World} {L L1 : List En} (H : Hp W0 w L) (t : Take L (.cu b s) L1) (R : Rd u8cell 1 W0 s ∧ s.xs.length ≤ 1048576) : Calls Tryz.prog 191 #[.pointer (some ⟨b, 0, none⟩), .int .i64 8] w fun e w' => ∃ x : Slot, e = .returned x.val ∧ Hp W0 w' (.cu b s :: L1) := by
  replace H := (H.take t).seal
  clear t
  go_enter Tryz.func191, Tryz.ntmps191
  go_wp2_with (first
    | go_skip
    | ((with_reducible refine at_box ?_); first | (refine wpList_box_H rfl rfl H rfl (by constructor) ?_; clear H; intro b w H))
    | ((with_reducible refine at_alloc ?_); first | (refine wpList_alloc_H rfl rfl H ?_; clear H; intro bA w H))
    | ((with_reducible refine at_load ?_); first | (refine wpList_load_H rfl rfl H rfl (by repeat constructor) ?_) | (refine wpList_loads_H rfl rfl H rfl (by repeat constructor) ?_))
    | ((with_reducible refine at_store ?_); first | (refine wpList_store_H rfl rfl H rfl rfl (by repeat constructor) ?_; clear H; intro w H))
    | ((with_reducible refine at_slice ?_); first | ((with_reducible refine at_dst 12 ?_); refine wpList_lit_H rfl rfl H ([3, 3, 3, 1, 2] : List Int) (by kernel_rfl) rfl (by decide) (by decide) ?_; clear H; intro bl w H))
    | (go_at_call 67; refine (l01Once_H s b _ (by decide) (by decide) H (by repeat constructor) R).mono ?_; clear H; rintro e w ⟨o, rfl, H⟩)
    | (go_at_call 141; refine (specNoSlot_c _).mono ?_; rintro e w ⟨rfl, hb⟩; replace H := H.still hb; clear hb)
    | (go_at_call 94; refine (l01Below_H s b _ (by decide) (by decide) H (by repeat constructor) R).mono ?_; clear H; rintro e w ⟨v, rfl, va, vb, H⟩)
    | (go_at_call 84; refine (l01PickInt_H s b (⟨some ⟨bl, 0, none⟩, 5, [3, 3, 3, 1, 2]⟩ : Sl Int) H (by repeat constructor) (by repeat constructor) R (by simp) (by simp)).mono ?_; clear H; rintro e w ⟨r, rfl, rm, H⟩; have RM := Lib.hid rm; clear rm))
  all_goals (refine bodyPost_ret (results_H rfl H rfl (by repeat constructor)) rfl ?_; exact mkSlot _ _ rfl (H.pick (.cons (by repeat constructor) (.cons (by repeat constructor) .nil))).unseal)
set_option maxRecDepth 100000 in
set_option maxHeartbeats 4000000 in
theorem l03Any_H (s : Sl Int) (b : Nat) {W0 w : World} {L L1 : List En} (H : Hp W0 w L) (t : Take L (.cu b s) L1) (R : Rd u8cell 1 W0 s ∧ s.xs.length ≤ 1048576) : Calls Tryz.prog 132 #[.pointer (some ⟨b, 0, none⟩), .int .i64 8] w fun e w' => ∃ x : Slot, e = .returned x.val ∧ Hp W0 w' (.cu b s :: L1) := by
  replace H := (H.take t).seal
  clear t
  go_enter Tryz.func132, Tryz.ntmps132
  go_wp2_with (first
    | go_skip
    | ((with_reducible refine at_box ?_); first | (refine wpList_box_H rfl rfl H rfl (by constructor) ?_; clear H; intro b w H))
    | ((with_reducible refine at_alloc ?_); first | (refine wpList_alloc_H rfl rfl H ?_; clear H; intro bA w H))
    | ((with_reducible refine at_load ?_); first | (refine wpList_load_H rfl rfl H rfl (by repeat constructor) ?_) | (refine wpList_loads_H rfl rfl H rfl (by repeat constructor) ?_))
    | ((with_reducible refine at_store ?_); first | (refine wpList_store_H rfl rfl H rfl rfl (by repeat constructor) ?_; clear H; intro w H))
    | ((with_reducible refine at_slice ?_); first | ((with_reducible refine at_dst 15 ?_); refine wpList_lit_H rfl rfl H ([-1, -2, 8, 9223372036854775807, -9223372036854775808] : List Int) (by kernel_rfl) rfl (by decide) (by decide) ?_; clear H; intro bl w H))
    | (go_at_call 191; refine (l03Slot_H s b H (by repeat constructor) R).mono ?_; clear H; rintro e w ⟨i, rfl, H⟩)
    | (go_at_call 94; refine (l01Below_H s b _ (by decide) (by decide) H (by repeat constructor) R).mono ?_; clear H; rintro e w ⟨v, rfl, va, vb, H⟩)
    | (go_at_call 84; refine (l01PickInt_H s b (⟨some ⟨bl, 0, none⟩, 5, [-1, -2, 8, 9223372036854775807, -9223372036854775808]⟩ : Sl Int) H (by repeat constructor) (by repeat constructor) R (by simp) (by simp)).mono ?_; clear H; rintro e w ⟨r, rfl, rm, H⟩; have RM := Lib.hid rm; clear rm)
    | (go_at_call 192; refine (l02Rights_H s b H (by repeat constructor) R).mono ?_; clear H; rintro e w ⟨z, rfl, H⟩))
  all_goals (refine bodyPost_ret (results_H rfl H rfl (by repeat constructor)) rfl ?_; exact mkSlot _ _ rfl (H.pick (.cons (by repeat constructor) (.cons (by repeat constructor) .nil))).unseal)
set_option maxRecDepth 100000 in
set_option maxHeartbeats 4000000 in
theorem l03Table_H (s : Sl Int) (b : Nat) {W0 w : World} {L L1 : List En} (H : Hp W0 w L) (t : Take L (.cu b s) L1) (R : Rd u8cell 1 W0 s ∧ s.xs.length ≤ 1048576) : Calls Tryz.prog 215 #[.pointer (some ⟨b, 0, none⟩), .int .i64 4, .int .i64 8] w fun e w' => ∃ x : Sl Slot, e = .returned (.slice x.A x.xs.length x.c) ∧ x.xs.length = 4 ∧ Hp W0 w' (.slot x :: .cu b s :: L1) := by
  replace H := (H.take t).seal
  clear t
  go_enter Tryz.func215, Tryz.ntmps215
  go_wp2_with (first
    | go_skip
    | ((with_reducible refine at_box ?_); first | (refine wpList_box_H rfl rfl H rfl (by constructor) ?_; clear H; intro b w H))
    | ((with_reducible refine at_alloc ?_); first | (refine wpList_alloc_H rfl rfl H ?_; clear H; intro b w H))
    | ((with_reducible refine at_load ?_); first | (refine wpList_load_H rfl rfl H rfl (by repeat constructor) ?_) | (refine wpList_loads_H rfl rfl H rfl (by repeat constructor) ?_))
    | ((with_reducible refine at_store ?_); first | (refine wpList_store_H rfl rfl H rfl rfl (by repeat constructor) ?_; clear H; intro w H))
    | ((with_reducible refine at_slice ?_); first | (refine wpList_nil_H rfl rfl H ?_; clear H; intro bn w H)))
  go_loopw [7, 8] (fun ov i wr => ∃ (k : Nat) (p : Sl Slot), k ≤ 4 ∧ i = .int .i64 k ∧ ov = .slice p.A p.xs.length p.c ∧ p.xs.length = k ∧ Hp W0 wr [.slot p, .cu b s, .all L1]) (fun _ i _ => 4 - (intOf i).toNat)
  case atStart => exact ⟨0, ⟨some ⟨bn, 0, none⟩, 0, []⟩, by omega, rfl, rfl, rfl, H.pick (.cons (by repeat constructor) (.cons (by repeat constructor) (.cons (by repeat constructor) .nil)))⟩
  case round =>
    clear H
    obtain ⟨k, p, hk0, rfl, rfl, hl, H⟩ := hrel
    have hz : p.xs.length ≤ 4 := by omega
    have hz2 : 4 ≤ k → p.xs.length = 4 := by omega
    have HZ := Lib.hid hz2; clear hz2
    have HL := Lib.hid hl; clear hl
    go_wp2_with (first
      | go_skip
      | ((with_reducible refine at_box ?_); first | (refine wpList_box_H rfl rfl H rfl (by constructor) ?_; clear H; intro b w H))
      | ((with_reducible refine at_alloc ?_); first | (refine wpList_alloc_H rfl rfl H ?_; clear H; intro b w H))
      | ((with_reducible refine at_load ?_); first | (refine wpList_load_H rfl rfl H rfl (by repeat constructor) ?_) | (refine wpList_loads_H rfl rfl H rfl (by repeat constructor) ?_))
      | ((with_reducible refine at_store ?_); first | (refine wpList_store_H rfl rfl H rfl rfl (by repeat constructor) ?_; clear H; intro w H))
      | ((with_reducible refine at_slice ?_); first | ((with_reducible refine at_dst 19 ?_); refine wpList_one_H rfl rfl H i rfl CellsOf.agg rfl (by decide) ?_; clear H; intro b1 w H))
      | ((with_reducible refine at_append ?_); first | ((with_reducible refine at_dst 20 ?_); refine wpList_append_H rfl rfl H p (⟨some ⟨b1, 0, none⟩, 1, [i]⟩ : Sl Slot) rfl rfl (by repeat constructor) (H.rd (s := (⟨some ⟨b1, 0, none⟩, 1, [i]⟩ : Sl Slot)) (by repeat constructor) slot_len) (by simp only [List.length_cons, List.length_nil]; omega) (by decide) ?_; clear H; intro p2 w h2 H))
      | (go_at_call 191; refine (l03Slot_H s b H (by repeat constructor) R).mono ?_; clear H; rintro e w ⟨i, rfl, H⟩))
    all_goals first
      | (go_ret; exact ⟨p, rfl, HZ.out (by omega), (H.pick (.cons (by repeat constructor) (.cons (by repeat constructor) (.cons (by repeat constructor) .nil)))).uns2⟩)
      | (go_roundw; (case rel => exact ⟨k + 1, p2, by omega, by go_num, rfl, by rw [h2.out]; simp [HL.out], H.pick (.cons (by repeat constructor) (.cons (by repeat constructor) (.cons (by repeat constructor) .nil)))⟩); (case measure => simp [intOf]; omega))
set_option maxRecDepth 100000 in
set_option maxHeartbeats 4000000 in
theorem l03AnyTable_H (s : Sl Int) (b : Nat) {W0 w : World} {L L1 : List En} (H : Hp W0 w L) (t : Take L (.cu b s) L1) (R : Rd u8cell 1 W0 s ∧ s.xs.length ≤ 1048576) : Calls Tryz.prog 200 #[.pointer (some ⟨b, 0, none⟩), .int .i64 4, .int .i64 8] w fun e w' => ∃ x : Sl Slot, e = .returned (.slice x.A x.xs.length x.c) ∧ x.xs.length ≤ 4 ∧ Hp W0 w' (.slot x :: .cu b s :: L1) := by
  replace H := (H.take t).seal
  clear t
  go_enter Tryz.func200, Tryz.ntmps200
  go_wp2_with (first
    | go_skip
    | ((with_reducible refine at_box ?_); first | (refine wpList_box_H rfl rfl H rfl (by constructor) ?_; clear H; intro b w H))
    | ((with_reducible refine at_alloc ?_); first | (refine wpList_alloc_H rfl rfl H ?_; clear H; intro b w H))
    | ((with_reducible refine at_load ?_); first | (refine wpList_load_H rfl rfl H rfl (by repeat constructor) ?_) | (refine wpList_loads_H rfl rfl H rfl (by repeat constructor) ?_))
    | ((with_reducible refine at_store ?_); first | (refine wpList_store_H rfl rfl H rfl rfl (by repeat constructor) ?_; clear H; intro w H)))
  go_at_call 215
  refine (l03Table_H s b H (by repeat constructor) R).mono ?_
  clear H
  rintro e w ⟨p, rfl, p1, H⟩
  have p2 : 4 ≤ p.xs.length := by omega
  have p3 : p.xs.length ≤ 4 := by omega
  clear p1
  go_wp2_with (first
    | go_skip
    | ((with_reducible refine at_dst 30 ?_); refine wpList_cut_H rfl rfl H slot_len p rfl rfl va (by omega) (by repeat constructor) ?_; clear H; intro c hc H)
    | ((with_reducible refine at_box ?_); first | (refine wpList_box_H rfl rfl H rfl (by constructor) ?_; clear H; intro b w H))
    | ((with_reducible refine at_alloc ?_); first | (refine wpList_alloc_H rfl rfl H ?_; clear H; intro b w H))
    | ((with_reducible refine at_load ?_); first | (refine wpList_load_H rfl rfl H rfl (by repeat constructor) ?_) | (refine wpList_loads_H rfl rfl H rfl (by repeat constructor) ?_))
    | ((with_reducible refine at_store ?_); first | (refine wpList_store_el rfl rfl H p (by repeat constructor) slot_len rfl rfl y i HY.out (by constructor) (by repeat constructor) (by exact rfl) (by exact rfl) (by exact rfl) ?_; clear H; intro w H) | (refine wpList_store_H rfl rfl H rfl rfl (by repeat constructor) ?_; clear H; intro w H))
    | ((with_reducible refine at_index ?_); first | (obtain ⟨k, rfl⟩ := Int.eq_ofNat_of_zero_le va; have hk : k < p.xs.length := (by omega); obtain ⟨y, hy0⟩ : ∃ y, p.xs[k]? = some y := ⟨_, List.getElem?_eq_getElem hk⟩; have HY := Lib.hid hy0; clear hy0; refine wpList_index_n rfl rfl (k := k) p (H.rd (s := p) (by repeat constructor) slot_len) rfl rfl rfl hk ?_))
    | (go_at_call 94; refine (l01Below_H s b _ (by decide) (by decide) H (by repeat constructor) R).mono ?_; clear H; rintro e w ⟨v, rfl, va, vb, H⟩)
    | (go_at_call 132; refine (l03Any_H s b H (by repeat constructor) R).mono ?_; clear H; rintro e w ⟨i, rfl, H⟩))
  all_goals first
    | (go_ret; exact ⟨⟨p.A, p.c, p.xs.set k i⟩, by simp only [List.length_set]; rfl, by simp only [List.length_set]; omega, (H.pick (.cons (by repeat constructor) (.cons (by repeat constructor) (.cons (by repeat constructor) .nil)))).uns2⟩)
    | (go_ret; exact ⟨c, rfl, by rw [hc.out, List.length_take]; omega, (H.pick (.cons (by repeat constructor) (.cons (by repeat constructor) (.cons (by repeat constructor) .nil)))).uns2⟩)
    | (go_ret; exact ⟨p, rfl, by omega, (H.pick (.cons (by repeat constructor) (.cons (by repeat constructor) (.cons (by repeat constructor) .nil)))).uns2⟩)
set_option maxRecDepth 100000 in
set_option maxHeartbeats 4000000 in
theorem l11Ctl_H (s : Sl Int) (b : Nat) {W0 w : World} {L L1 : List En} (H : Hp W0 w L) (t : Take L (.cu b s) L1) (R : Rd u8cell 1 W0 s ∧ s.xs.length ≤ 1048576) : Calls Tryz.prog 171 #[.pointer (some ⟨b, 0, none⟩)] w fun e w' => ∃ x : Ctl, e = .returned x.val ∧ Hp W0 w' (.cu b s :: L1) := by
  replace H := (H.take t).seal
  clear t
  go_enter Tryz.func171, Tryz.ntmps171
  go_wp2_with (first
    | go_skip
    | ((with_reducible refine at_box ?_); first | (refine wpList_box_H rfl rfl H rfl (by constructor) ?_; clear H; intro b w H))
    | ((with_reducible refine at_alloc ?_); first | (refine wpList_alloc_H rfl rfl H ?_; clear H; intro bA w H))
    | ((with_reducible refine at_load ?_); first | (refine wpList_load_H rfl rfl H rfl (by repeat constructor) ?_) | (refine wpList_loads_H rfl rfl H rfl (by repeat constructor) ?_))
    | ((with_reducible refine at_store ?_); first | (refine wpList_store_H rfl rfl H rfl rfl (by repeat constructor) ?_; clear H; intro w H)))
  go_at_call 94
  refine (l01Below_H s b _ (by decide) (by decide) H (by repeat constructor) R).mono ?_
  clear H
  rintro e w ⟨t, rfl, ta, tb, H⟩
  have ht : t = 0 ∨ t = 1 ∨ t = 2 ∨ t = 3 := by omega
  clear ta tb
  go_wp2_with (first
    | go_skip
    | ((with_reducible refine at_box ?_); first | (refine wpList_box_H rfl rfl H rfl (by constructor) ?_; clear H; intro b w H))
    | ((with_reducible refine at_alloc ?_); first | (refine wpList_alloc_H rfl rfl H ?_; clear H; intro bA w H))
    | ((with_reducible refine at_load ?_); first | (refine wpList_load_H rfl rfl H rfl (by repeat constructor) ?_) | (refine wpList_loads_H rfl rfl H rfl (by repeat constructor) ?_))
    | ((with_reducible refine at_store ?_); first | (refine wpList_store_H rfl rfl H rfl rfl (by repeat constructor) ?_; clear H; intro w H)))
  go_at_call 67
  refine (l01Once_H s b _ (by decide) (by decide) H (by repeat constructor) R).mono ?_
  clear H
  rintro e w ⟨o, rfl, H⟩
  rcases ht with rfl | rfl | rfl | rfl <;> cases o
  all_goals
    go_wp2_with (first
      | go_skip
      | ((with_reducible refine at_box ?_); first | (refine wpList_box_H rfl rfl H rfl (by constructor) ?_; clear H; intro b w H))
      | ((with_reducible refine at_alloc ?_); first | (refine wpList_alloc_H rfl rfl H ?_; clear H; intro bA w H))
      | ((with_reducible refine at_load ?_); first | (refine wpList_load_H rfl rfl H rfl (by repeat constructor) ?_) | (refine wpList_loads_H rfl rfl H rfl (by repeat constructor) ?_))
      | ((with_reducible refine at_store ?_); first | (refine wpList_store_H rfl rfl H rfl rfl (by repeat constructor) ?_; clear H; intro w H))
      | (go_at_call 94; refine (l01Below_H s b _ (by decide) (by decide) H (by repeat constructor) R).mono ?_; clear H; rintro e w ⟨v, rfl, va, vb, H⟩)
      | (go_at_call 67; refine (l01Once_H s b _ (by decide) (by decide) H (by repeat constructor) R).mono ?_; clear H; rintro e w ⟨u, rfl, H⟩))
  all_goals (refine bodyPost_ret (results_H rfl H rfl (by repeat constructor)) rfl ?_; exact mkCtl _ _ _ rfl (H.pick (.cons (by repeat constructor) (.cons (by repeat constructor) .nil))).unseal)
set_option maxRecDepth 100000 in
set_option maxHeartbeats 4000000 in
theorem l11Any_H (s : Sl Int) (b : Nat) {W0 w : World} {L L1 : List En} (H : Hp W0 w L) (t : Take L (.cu b s) L1) (R : Rd u8cell 1 W0 s ∧ s.xs.length ≤ 1048576) : Calls Tryz.prog 88 #[.pointer (some ⟨b, 0, none⟩)] w fun e w' => ∃ x : Ctl, e = .returned x.val ∧ Hp W0 w' (.cu b s :: L1) := by
  replace H := (H.take t).seal
  clear t
  go_enter Tryz.func88, Tryz.ntmps88
  go_wp2_with (first
    | go_skip
    | ((with_reducible refine at_box ?_); first | (refine wpList_box_H rfl rfl H rfl (by constructor) ?_; clear H; intro b w H))
    | ((with_reducible refine at_alloc ?_); first | (refine wpList_alloc_H rfl rfl H ?_; clear H; intro bA w H))
    | ((with_reducible refine at_load ?_); first | (refine wpList_load_H rfl rfl H rfl (by repeat constructor) ?_) | (refine wpList_loads_H rfl rfl H rfl (by repeat constructor) ?_))
    | ((with_reducible refine at_store ?_); first | (refine wpList_store_H rfl rfl H rfl rfl (by repeat constructor) ?_; clear H; intro w H))
    | ((with_reducible refine at_slice ?_); first | ((with_reducible refine at_dst 11 ?_); refine wpList_lit_H rfl rfl H ([-1, 2, 3, 4] : List Int) (by kernel_rfl) rfl (by decide) (by decide) ?_; clear H; intro bl w H) | ((with_reducible refine at_dst 17 ?_); refine wpList_lit_H rfl rfl H ([-1, 255, 256, 9223372036854775807] : List Int) (by kernel_rfl) rfl (by decide) (by decide) ?_; clear H; intro bm w H))
    | (go_at_call 171; refine (l11Ctl_H s b H (by repeat constructor) R).mono ?_; clear H; rintro e w ⟨c, rfl, H⟩)
    | (go_at_call 94; refine (l01Below_H s b _ (by decide) (by decide) H (by repeat constructor) R).mono ?_; clear H; rintro e w ⟨v, rfl, va, vb, H⟩)
    | (go_at_call 84; refine (l01PickInt_H s b (⟨some ⟨bl, 0, none⟩, 4, [-1, 2, 3, 4]⟩ : Sl Int) H (by repeat constructor) (by repeat constructor) R (by simp) (by simp)).mono ?_; clear H; rintro e w ⟨r, rfl, rm, H⟩; have RM := Lib.hid rm; clear rm)
    | (go_at_call 84; refine (l01PickInt_H s b (⟨some ⟨bm, 0, none⟩, 4, [-1, 255, 256, 9223372036854775807]⟩ : Sl Int) H (by repeat constructor) (by repeat constructor) R (by simp) (by simp)).mono ?_; clear H; rintro e w ⟨r, rfl, rm, H⟩; have RM := Lib.hid rm; clear rm))
  all_goals (refine bodyPost_ret (results_H rfl H rfl (by repeat constructor)) rfl ?_; exact mkCtl _ _ _ rfl (H.pick (.cons (by repeat constructor) (.cons (by repeat constructor) .nil))).unseal)
set_option maxRecDepth 100000 in
set_option maxHeartbeats 4000000 in
theorem dFault_c (p : Int) (q : Bool) (W0 : World) : Calls Tryz.prog 102 #[.int .i64 p, .bool q] W0 fun e w' => e = .returned (.agg #[.int .i64 1, .int .i64 p, .bool q, .int .i64 0]) ∧ Below W0.heap.size W0 w' := by
  have H := Hp.start W0
  go_enter Tryz.func102, Tryz.ntmps102
  go_wp2_with (first
    | go_skip
    | ((with_reducible refine at_box ?_); first | (refine wpList_box_H rfl rfl H rfl (by constructor) ?_; clear H; intro b w H))
    | ((with_reducible refine at_alloc ?_); first | (refine wpList_alloc_H rfl rfl H ?_; clear H; intro bA w H))
    | ((with_reducible refine at_load ?_); first | (refine wpList_load_H rfl rfl H rfl (by repeat constructor) ?_) | (refine wpList_loads_H rfl rfl H rfl (by repeat constructor) ?_))
    | ((with_reducible refine at_store ?_); first | (refine wpList_store_H rfl rfl H rfl rfl (by repeat constructor) ?_; clear H; intro w H)))
  refine bodyPost_ret (results_H rfl H rfl (by repeat constructor)) rfl ⟨rfl, H.below⟩
set_option maxRecDepth 100000 in
set_option maxHeartbeats 4000000 in
theorem dCall_c (p : Int) (W0 : World) : Calls Tryz.prog 167 #[.int .i64 p] W0 fun e w' => e = .returned (.agg #[.int .i64 2, .int .i64 0, .bool false, .int .i64 p]) ∧ Below W0.heap.size W0 w' := by
  have H := Hp.start W0
  go_enter Tryz.func167, Tryz.ntmps167
  go_wp2_with (first
    | go_skip
    | ((with_reducible refine at_box ?_); first | (refine wpList_box_H rfl rfl H rfl (by constructor) ?_; clear H; intro b w H))
    | ((with_reducible refine at_alloc ?_); first | (refine wpList_alloc_H rfl rfl H ?_; clear H; intro bA w H))
    | ((with_reducible refine at_load ?_); first | (refine wpList_load_H rfl rfl H rfl (by repeat constructor) ?_) | (refine wpList_loads_H rfl rfl H rfl (by repeat constructor) ?_))
    | ((with_reducible refine at_store ?_); first | (refine wpList_store_H rfl rfl H rfl rfl (by repeat constructor) ?_; clear H; intro w H)))
  refine bodyPost_ret (results_H rfl H rfl (by repeat constructor)) rfl ⟨rfl, H.below⟩
set_option maxRecDepth 100000 in
set_option maxHeartbeats 4000000 in
theorem dOut_c (p : Int) (W0 : World) : Calls Tryz.prog 168 #[.int .i64 p] W0 fun e w' => e = .returned (.agg #[.int .i64 3, .int .i64 0, .bool false, .int .i64 p]) ∧ Below W0.heap.size W0 w' := by
  have H := Hp.start W0
  go_enter Tryz.func168, Tryz.ntmps168
  go_wp2_with (first
    | go_skip
    | ((with_reducible refine at_box ?_); first | (refine wpList_box_H rfl rfl H rfl (by constructor) ?_; clear H; intro b w H))
    | ((with_reducible refine at_alloc ?_); first | (refine wpList_alloc_H rfl rfl H ?_; clear H; intro bA w H))
    | ((with_reducible refine at_load ?_); first | (refine wpList_load_H rfl rfl H rfl (by repeat constructor) ?_) | (refine wpList_loads_H rfl rfl H rfl (by repeat constructor) ?_))
    | ((with_reducible refine at_store ?_); first | (refine wpList_store_H rfl rfl H rfl rfl (by repeat constructor) ?_; clear H; intro w H)))
  refine bodyPost_ret (results_H rfl H rfl (by repeat constructor)) rfl ⟨rfl, H.below⟩
set_option maxRecDepth 100000 in
set_option maxHeartbeats 4000000 in
theorem l13Exit_H (s : Sl Int) (b : Nat) {W0 w : World} {L L1 : List En} (H : Hp W0 w L) (t : Take L (.cu b s) L1) (R : Rd u8cell 1 W0 s ∧ s.xs.length ≤ 1048576) : Calls Tryz.prog 68 #[.pointer (some ⟨b, 0, none⟩)] w fun e w' => ∃ x : Exit, e = .returned x.val ∧ Hp W0 w' (.cu b s :: L1) := by
  replace H := (H.take t).seal
  clear t
  go_enter Tryz.func68, Tryz.ntmps68
  go_wp2_with (first
    | go_skip
    | ((with_reducible refine at_box ?_); first | (refine wpList_box_H rfl rfl H rfl (by constructor) ?_; clear H; intro b w H))
    | ((with_reducible refine at_alloc ?_); first | (refine wpList_alloc_H rfl rfl H ?_; clear H; intro bA w H))
    | ((with_reducible refine at_load ?_); first | (refine wpList_load_H rfl rfl H rfl (by repeat constructor) ?_) | (refine wpList_loads_H rfl rfl H rfl (by repeat constructor) ?_))
    | ((with_reducible refine at_store ?_); first | (refine wpList_store_H rfl rfl H rfl rfl (by repeat constructor) ?_; clear H; intro w H))
    | (go_at_call 94; refine (l01Below_H s b _ (by decide) (by decide) H (by repeat constructor) R).mono ?_; clear H; rintro e w ⟨v, rfl, va, vb, H⟩)
    | (go_at_call 67; refine (l01Once_H s b _ (by decide) (by decide) H (by repeat constructor) R).mono ?_; clear H; rintro e w ⟨u, rfl, H⟩)
    | (go_at_call 102; refine (dFault_c _ _ _).mono ?_; rintro e w ⟨rfl, hb⟩; replace H := H.still hb; clear hb)
    | (go_at_call 167; refine (dCall_c _ _).mono ?_; rintro e w ⟨rfl, hb⟩; replace H := H.still hb; clear hb)
    | (go_at_call 168; refine (dOut_c _ _).mono ?_; rintro e w ⟨rfl, hb⟩; replace H := H.still hb; clear hb))
  all_goals (refine bodyPost_ret (results_H rfl H rfl (by repeat constructor)) rfl ?_; exact mkExit _ _ _ _ rfl (H.pick (.cons (by repeat constructor) (.cons (by repeat constructor) .nil))).unseal)
set_option maxRecDepth 100000 in
set_option maxHeartbeats 4000000 in
theorem l13Any_H (s : Sl Int) (b : Nat) {W0 w : World} {L L1 : List En} (H : Hp W0 w L) (t : Take L (.cu b s) L1) (R : Rd u8cell 1 W0 s ∧ s.xs.length ≤ 1048576) : Calls Tryz.prog 201 #[.pointer (some ⟨b, 0, none⟩)] w fun e w' => ∃ x : Exit, e = .returned x.val ∧ Hp W0 w' (.cu b s :: L1) := by
  replace H := (H.take t).seal
  clear t
  go_enter Tryz.func201, Tryz.ntmps201
  go_wp2_with (first
    | go_skip
    | ((with_reducible refine at_box ?_); first | (refine wpList_box_H rfl rfl H rfl (by constructor) ?_; clear H; intro b w H))
    | ((with_reducible refine at_alloc ?_); first | (refine wpList_alloc_H rfl rfl H ?_; clear H; intro bA w H))
    | ((with_reducible refine at_load ?_); first | (refine wpList_load_H rfl rfl H rfl (by repeat constructor) ?_) | (refine wpList_loads_H rfl rfl H rfl (by repeat constructor) ?_))
    | ((with_reducible refine at_store ?_); first | (refine wpList_store_H rfl rfl H rfl rfl (by repeat constructor) ?_; clear H; intro w H))
    | ((with_reducible refine at_slice ?_); first | ((with_reducible refine at_dst 17 ?_); refine wpList_lit_H rfl rfl H ([-1, 3, 4] : List Int) (by kernel_rfl) rfl (by decide) (by decide) ?_; clear H; intro bl w H) | ((with_reducible refine at_dst 23 ?_); refine wpList_lit_H rfl rfl H ([-1, 99, 100] : List Int) (by kernel_rfl) rfl (by decide) (by decide) ?_; clear H; intro bm w H))
    | (go_at_call 68; refine (l13Exit_H s b H (by repeat constructor) R).mono ?_; clear H; rintro e w ⟨c, rfl, H⟩)
    | (go_at_call 94; refine (l01Below_H s b _ (by decide) (by decide) H (by repeat constructor) R).mono ?_; clear H; rintro e w ⟨v, rfl, va, vb, H⟩)
    | (go_at_call 84; refine (l01PickInt_H s b (⟨some ⟨bl, 0, none⟩, 3, [-1, 3, 4]⟩ : Sl Int) H (by repeat constructor) (by repeat constructor) R (by simp) (by simp)).mono ?_; clear H; rintro e w ⟨r, rfl, rm, H⟩; have RM := Lib.hid rm; clear rm)
    | (go_at_call 84; refine (l01PickInt_H s b (⟨some ⟨bm, 0, none⟩, 3, [-1, 99, 100]⟩ : Sl Int) H (by repeat constructor) (by repeat constructor) R (by simp) (by simp)).mono ?_; clear H; rintro e w ⟨r, rfl, rm, H⟩; have RM := Lib.hid rm; clear rm))
  all_goals (refine bodyPost_ret (results_H rfl H rfl (by repeat constructor)) rfl ?_; exact mkExit _ _ _ _ rfl (H.pick (.cons (by repeat constructor) (.cons (by repeat constructor) .nil))).unseal)
end Go.Proofs.YtaafnenmdombiaaGreat
