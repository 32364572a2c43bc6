/- Facts about interrupt words of one byte, and SplitIrqs. Plain theorems. -/
import Derived.Test.YtedjbholpdinkaaSc
namespace Go.Proofs.Ytedjbholpdinkaa
open Go.RowKit
def cntN (p : Nat) : Nat := p % 2 + p / 2 % 2 + p / 4 % 2 + p / 8 % 2 + p / 16 % 2 + p / 32 % 2 + p / 64 % 2 + p / 128 % 2
theorem split_all : (List.range 256).all (fun a => (List.range 256).all fun b => cntN (a &&& b) + cntN (a - (a &&& b)) == cntN a && decide (a &&& b ≤ a) && (a &&& (18446744073709551615 - b)) == a - (a &&& b)) = true := by decide +kernel
theorem split_facts {a b : Nat} (ha : a ≤ 255) (hb : b ≤ 255) : cntN (a &&& b) + cntN (a - (a &&& b)) = cntN a ∧ a &&& b ≤ a ∧ a &&& (18446744073709551615 - b) = a - (a &&& b) := by
  have h := List.all_eq_true.1 (List.all_eq_true.1 split_all a (List.mem_range.2 (by omega))) b (List.mem_range.2 (by omega))
  simp only [Bool.and_eq_true, beq_iff_eq, decide_eq_true_eq] at h
  exact ⟨h.1.1, h.1.2, h.2⟩
theorem take_all : (List.range 256).all (fun a => decide (topI (a : Int) < 8 ∧ -1 ≤ topI (a : Int) ∧ 0 ≤ cntI (a : Int) ∧ (cntI (a : Int) = 0 → a = 0) ∧ (0 < cntI (a : Int) → 0 ≤ topI (a : Int) ∧ 0 ≤ tookI (a : Int) ∧ tookI (a : Int) ≤ 255 ∧ cntI (tookI (a : Int)) + 1 = cntI (a : Int) ∧ topI (tookI (a : Int)) < topI (a : Int)))) = true := by decide +kernel
theorem take_facts {q : Int} (h0 : 0 ≤ q) (h1 : q ≤ 255) : topI q < 8 ∧ -1 ≤ topI q ∧ 0 ≤ cntI q ∧ (cntI q = 0 → q = 0) ∧ (0 < cntI q → 0 ≤ topI q ∧ 0 ≤ tookI q ∧ tookI q ≤ 255 ∧ cntI (tookI q) + 1 = cntI q ∧ topI (tookI q) < topI q) := by
  obtain ⟨n, rfl⟩ := Int.eq_ofNat_of_zero_le h0
  have h := List.all_eq_true.1 take_all n (List.mem_range.2 (by omega))
  have h2 := of_decide_eq_true h
  exact ⟨h2.1, h2.2.1, h2.2.2.1, fun e => by have := h2.2.2.2.1 e; omega, h2.2.2.2.2⟩
theorem cnt_nat (n : Nat) (h : n ≤ 255) : cntI (n : Int) = (cntN n : Int) := by
  have hp : pendB (n : Int) = true := (pendB_iff _).2 ⟨by omega, by omega⟩
  unfold cntI cntN; rw [if_pos hp]; omega
theorem and_i64 {a b : Nat} (ha : a ≤ 255) (hb : b ≤ 255) : bits .and .i64 (a : Int) (b : Int) = ((a &&& b : Nat) : Int) := by
  have hx := (split_facts ha hb).2.1
  have h1 : (BitVec.ofInt 64 (a : Int)).toNat = a := by
    rw [BitVec.ofInt_natCast, BitVec.toNat_ofNat]; exact Nat.mod_eq_of_lt (by omega)
  have h2 : (BitVec.ofInt 64 (b : Int)).toNat = b := by
    rw [BitVec.ofInt_natCast, BitVec.toNat_ofNat]; exact Nat.mod_eq_of_lt (by omega)
  show IntKind.i64.wrap ((BitVec.ofInt 64 (a : Int) &&& BitVec.ofInt 64 (b : Int)).toNat : Int) = _
  rw [BitVec.toNat_and, h1, h2]
  exact wrap_small _ (by omega) (by omega)
theorem andNot_i64 {a b : Nat} (ha : a ≤ 255) (hb : b ≤ 255) : bits .andNot .i64 (a : Int) (b : Int) = ((a - (a &&& b) : Nat) : Int) := by
  have hx := (split_facts ha hb).2.2
  have h1 : (BitVec.ofInt 64 (a : Int)).toNat = a := by
    rw [BitVec.ofInt_natCast, BitVec.toNat_ofNat]; exact Nat.mod_eq_of_lt (by omega)
  have h2 : (BitVec.ofInt 64 (b : Int)).toNat = b := by
    rw [BitVec.ofInt_natCast, BitVec.toNat_ofNat]; exact Nat.mod_eq_of_lt (by omega)
  show IntKind.i64.wrap ((BitVec.ofInt 64 (a : Int) &&& ~~~ BitVec.ofInt 64 (b : Int)).toNat : Int) = _
  rw [BitVec.toNat_and, BitVec.toNat_not, h1, h2]
  have e : 2 ^ 64 - 1 - b = 18446744073709551615 - b := by omega
  rw [e, hx]
  exact wrap_small _ (by omega) (by omega)
set_option linter.unusedSimpArgs false in
set_option linter.unusedVariables false in
set_option maxRecDepth 100000 in
set_option maxHeartbeats 4000000 in
theorem splitIrqs_c (a b : Nat) (ha : a ≤ 255) (hb : b ≤ 255) (w : World) : Calls Try.prog 18 #[.int .i64 a, .int .i64 b] w fun e w' => e = .returned (.tuple #[.int .i64 ((a &&& b : Nat) : Int), .int .i64 ((a - (a &&& b) : Nat) : Int)]) ∧ Hp w w' [] := by
  have H := Hp.start w
  have p1 : Hid (pendB (a : Int) = true) := Lib.hid ((pendB_iff _).2 ⟨by omega, by omega⟩)
  have p2 : Hid (pendB (b : Int) = true) := Lib.hid ((pendB_iff _).2 ⟨by omega, by omega⟩)
  have e1 := Lib.hid (and_i64 ha hb)
  have e2 := Lib.hid (andNot_i64 ha hb)
  go_enter Try.func18, Try.ntmps18
  go_wp2_with (first
    | go_skip
    | ((with_reducible refine at_box ?_); first | (refine wpList_box_H rfl rfl H rfl (by first | exact CellsOf.agg | exact CellsOf.int | exact CellsOf.bool | exact CellsOf.slice | exact CellsOf.string | exact CellsOf.pointer | exact CellsOf.func) ?_; clear H; intro b w H))
    | ((with_reducible refine at_alloc ?_); first | (refine wpList_alloc_H rfl rfl H ?_; clear H; intro b w H))
    | ((with_reducible refine at_load ?_); first | (refine wpList_load_H rfl rfl H rfl (by repeat (first | exact LoadAt.here rfl | apply LoadAt.there)) ?_) | (refine wpList_loads_H rfl rfl H rfl (by repeat (first | (apply LoadsAt.here; repeat (first | exact GetsAt.nil | apply GetsAt.here | apply GetsAt.there)) | apply LoadsAt.there)) ?_))
    | ((with_reducible refine at_store ?_); first | (refine wpList_store_H rfl rfl H rfl rfl (by repeat (first | (apply StoreAt.here; (first | exact CellsOf.agg | exact CellsOf.int | exact CellsOf.bool | exact CellsOf.slice | exact CellsOf.string | exact CellsOf.pointer | exact CellsOf.func); (repeat (first | exact SetsAt.nil | apply SetsAt.here | apply SetsAt.there)); exact rfl; exact rfl) | apply StoreAt.there)) ?_; clear H; intro w H))
    | ((with_reducible refine at_dst 7 ?_); go_at_call 29)
    | (go_at_call 29; first | (refine at_arg1 (.int .i64 a) ?_; refine (pendOk_any (a : Int) _).mono ?_; rintro e w' ⟨he, rfl⟩; rw [p1.out] at he; subst he) | (refine (pendOk_any (b : Int) _).mono ?_; rintro e w' ⟨he, rfl⟩; rw [p2.out] at he; subst he)))
  rw [e1.out, e2.out]
  go_ret2
  exact ⟨rfl, H⟩
end Go.Proofs.Ytedjbholpdinkaa
