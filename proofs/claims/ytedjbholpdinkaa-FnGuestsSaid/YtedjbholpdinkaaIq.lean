/- Contracts of PostIrq and SplitIrqs of both sides and of the reference's draws of interrupt words; facts about bytes. No condition but that the argument lies in memory. -/
import Derived.Test.YtedjbholpdinkaaDb
import Derived.Test.YtedjbholpdinkaaIo
namespace Go.Proofs.Ytedjbholpdinkaa
open Go.RowKit
def qPostOk (p n : Int) : Bool := pendB p && inB n 0 7
def qPost (p n : Int) : Int := if qPostOk p n then bits .or .i64 p (wrap64 (2 ^ n.toNat)) else p
def qSplitA (a b : Int) : Int := if pendB a && pendB b then ((a.toNat &&& b.toNat : Nat) : Int) else 0
def qSplitB (a b : Int) : Int := if pendB a && pendB b then ((a.toNat - (a.toNat &&& b.toNat) : Nat) : Int) else 0
theorem or_i64 {a b : Nat} (ha : a ≤ 255) (hb : b ≤ 255) : bits .or .i64 (a : Int) (b : Int) = ((a ||| b : Nat) : Int) := by
  have hx : a ||| b < 2 ^ 8 := Nat.or_lt_two_pow (by omega) (by omega)
  have h1 : (BitVec.ofInt 64 (a : Int)).toNat = a := by
    rw [BitVec.ofInt_natCast, BitVec.toNat_ofNat]; exact Nat.mod_eq_of_lt (by omega)
  have h2 : (BitVec.ofInt 64 (b : Int)).toNat = b := by
    rw [BitVec.ofInt_natCast, BitVec.toNat_ofNat]; exact Nat.mod_eq_of_lt (by omega)
  show IntKind.i64.wrap ((BitVec.ofInt 64 (a : Int) ||| BitVec.ofInt 64 (b : Int)).toNat : Int) = _
  rw [BitVec.toNat_or, h1, h2]
  exact wrap_small _ (by omega) (by omega)
theorem xor_i64 {b : Nat} (hb : b ≤ 255) : bits .xor .i64 255 (b : Int) = ((255 - b : Nat) : Int) := by
  have hx : (255 ^^^ b) = 255 - b := by
    have h : (List.range 256).all (fun b => 255 ^^^ b == 255 - b) = true := by decide +kernel
    exact eq_of_beq (List.all_eq_true.1 h b (List.mem_range.2 (by omega)))
  have h2 : (BitVec.ofInt 64 (b : Int)).toNat = b := by
    rw [BitVec.ofInt_natCast, BitVec.toNat_ofNat]; exact Nat.mod_eq_of_lt (by omega)
  show IntKind.i64.wrap ((BitVec.ofInt 64 255 ^^^ BitVec.ofInt 64 (b : Int)).toNat : Int) = _
  rw [BitVec.toNat_xor, h2, show (BitVec.ofInt 64 255).toNat = 255 from rfl, hx]
  exact wrap_small _ (by omega) (by omega)
theorem and_not {a b : Nat} (ha : a ≤ 255) (hb : b ≤ 255) : a &&& (255 - b) = a - (a &&& b) := by
  have h : (List.range 256).all (fun a => (List.range 256).all fun b => a &&& (255 - b) == a - (a &&& b)) = true := by decide +kernel
  exact eq_of_beq (List.all_eq_true.1 (List.all_eq_true.1 h a (List.mem_range.2 (by omega))) b (List.mem_range.2 (by omega)))
theorem post_cnt {p n : Int} (h : qPostOk p n = true) : cntI p ≤ cntI (qPost p n) := by
  have hp := h
  simp only [qPostOk, Bool.and_eq_true, pendB, inB_iff] at hp
  obtain ⟨⟨p0, p1⟩, n0, n1⟩ := hp
  obtain ⟨a, rfl⟩ := Int.eq_ofNat_of_zero_le p0
  obtain ⟨k, rfl⟩ := Int.eq_ofNat_of_zero_le n0
  have hall : (List.range 256).all (fun a => (List.range 8).all fun k => decide (2 ^ k ≤ 255) && decide (a ||| 2 ^ k ≤ 255) && decide (cntN a ≤ cntN (a ||| 2 ^ k))) = true := by decide +kernel
  have hh := List.all_eq_true.1 (List.all_eq_true.1 hall a (List.mem_range.2 (by omega))) k (List.mem_range.2 (by omega))
  simp only [Bool.and_eq_true, decide_eq_true_eq] at hh
  obtain ⟨⟨h1, h2⟩, h3⟩ := hh
  have e : qPost (a : Int) (k : Int) = ((a ||| 2 ^ k : Nat) : Int) := by
    unfold qPost
    rw [if_pos h]
    have ew : wrap64 ((2 : Int) ^ (Int.toNat (k : Int))) = ((2 ^ k : Nat) : Int) := by
      have hk : k = 0 ∨ k = 1 ∨ k = 2 ∨ k = 3 ∨ k = 4 ∨ k = 5 ∨ k = 6 ∨ k = 7 := by omega
      clear h3 h2 h1 n0 n1 h hall
      rcases hk with rfl | rfl | rfl | rfl | rfl | rfl | rfl | rfl <;> decide +kernel
    rw [ew]
    exact or_i64 (by omega) h1
  rw [e, cnt_nat _ (by omega), cnt_nat _ h2]
  omega
theorem took_facts {q : Int} (h : 0 ≤ topI q) : cntI (tookI q) = cntI q - 1 ∧ topI (tookI q) < topI q ∧ 0 ≤ cntI q ∧ cntI q ≤ 8 := by
  have hp : pendB q = true := by
    cases e : pendB q
    · unfold topI at h; rw [e] at h; simp at h
    · rfl
  obtain ⟨q0, q1⟩ := (pendB_iff q).1 hp
  have t := take_facts q0 q1
  have c : cntI q ≤ 8 := by unfold cntI; split <;> omega
  have hc : 0 < cntI q := by
    rcases Int.lt_or_le 0 (cntI q) with h1 | h1
    · exact h1
    · have := t.2.2.2.1 (by omega)
      subst this
      have : topI 0 = -1 := by decide +kernel
      omega
  have t2 := t.2.2.2.2 hc
  exact ⟨by omega, t2.2.2.2.2, by omega, c⟩
set_option linter.unusedSimpArgs false in
set_option linter.unusedVariables false in
set_option maxRecDepth 100000 in
set_option maxHeartbeats 4000000 in
theorem qPost_c (p n : Int) (W0 : World) : Calls Try.prog 20 #[.int .i64 p, .int .i64 n] W0 fun e w' => e = .returned (.tuple #[.int .i64 (qPost p n), .bool (qPostOk p n)]) ∧ Hp W0 w' [] := by
  have ho : qPostOk p n = (pendB p && inB n 0 7) := rfl
  cases e1 : pendB p <;> cases e2 : inB n 0 7
  all_goals
    rw [e1, e2] at ho
    try (have hn : 0 ≤ n ∧ n ≤ 7 := by simpa [inB] using e2)
    try (have hp : 0 ≤ p ∧ p ≤ 255 := by simpa [pendB, inB] using e1)
    try obtain ⟨hn0, hn7⟩ := hn
    try obtain ⟨hp0, hp7⟩ := hp
    have HO := Lib.hid ho
    clear ho
    have H := Hp.start W0
    go_enter Try.func20, Try.ntmps20
    go_wp2_with (first
      | go_skip
      | ((with_reducible refine at_box ?_); first | (refine wpList_box_H rfl rfl H rfl (by first | exact CellsOf.agg | exact CellsOf.int | exact CellsOf.bool | exact CellsOf.slice | exact CellsOf.string | exact CellsOf.pointer | exact CellsOf.func) ?_; clear H; intro b w H))
      | ((with_reducible refine at_alloc ?_); first | (refine wpList_alloc_H rfl rfl H ?_; clear H; intro b w H))
      | ((with_reducible refine at_load ?_); first | (refine wpList_load_H rfl rfl H rfl (by repeat (first | exact LoadAt.here rfl | apply LoadAt.there)) ?_) | (refine wpList_loads_H rfl rfl H rfl (by repeat (first | (apply LoadsAt.here; repeat (first | exact GetsAt.nil | apply GetsAt.here | apply GetsAt.there)) | apply LoadsAt.there)) ?_))
      | ((with_reducible refine at_store ?_); first | (refine wpList_store_H rfl rfl H rfl rfl (by repeat (first | (apply StoreAt.here; (first | exact CellsOf.agg | exact CellsOf.int | exact CellsOf.bool | exact CellsOf.slice | exact CellsOf.string | exact CellsOf.pointer | exact CellsOf.func); (repeat (first | exact SetsAt.nil | apply SetsAt.here | apply SetsAt.there)); exact rfl; exact rfl) | apply StoreAt.there)) ?_; clear H; intro w H))
      | (go_at_call 29; refine (pendOk_any _ _).mono ?_; rintro e w' ⟨he, hw⟩; subst hw; rw [e1] at he; subst he)
      | (go_at_call 89; refine (within_any _ _ _ _).mono ?_; rintro e w' ⟨he, hw⟩; subst hw; rw [e2] at he; subst he))
    go_ret2
    refine ⟨?_, H⟩
    rw [HO.out]; unfold qPost; rw [HO.out]; rfl
set_option linter.unusedSimpArgs false in
set_option linter.unusedVariables false in
set_option maxRecDepth 100000 in
set_option maxHeartbeats 4000000 in
theorem qSplit_c (a b : Int) (W0 : World) : Calls Try.prog 18 #[.int .i64 a, .int .i64 b] W0 fun e w' => e = .returned (.tuple #[.int .i64 (qSplitA a b), .int .i64 (qSplitB a b)]) ∧ Hp W0 w' [] := by
  have ha : qSplitA a b = if pendB a && pendB b then ((a.toNat &&& b.toNat : Nat) : Int) else 0 := rfl
  have hb : qSplitB a b = if pendB a && pendB b then ((a.toNat - (a.toNat &&& b.toNat) : Nat) : Int) else 0 := rfl
  cases e1 : pendB a <;> cases e2 : pendB b
  case true.true =>
    rw [e1, e2] at ha hb
    obtain ⟨a0, a1⟩ := (pendB_iff a).1 e1
    obtain ⟨b0, b1⟩ := (pendB_iff b).1 e2
    obtain ⟨x, rfl⟩ := Int.eq_ofNat_of_zero_le a0
    obtain ⟨y, rfl⟩ := Int.eq_ofNat_of_zero_le b0
    have E1 := Lib.hid (and_i64 (a := x) (b := y) (by omega) (by omega))
    have E2 := Lib.hid (andNot_i64 (a := x) (b := y) (by omega) (by omega))
    have E3 := Lib.hid (xor_i64 (b := y) (by omega))
    have E4 : Hid (bits .and .i64 (x : Int) ((255 - y : Nat) : Int) = ((x - (x &&& y) : Nat) : Int)) := Lib.hid (by rw [and_i64 (by omega) (by omega), and_not (by omega) (by omega)])
    have HA := Lib.hid ha; have HB := Lib.hid hb; clear ha hb
    have p1 := Lib.hid e1; have p2 := Lib.hid e2; clear e1 e2
    have H := Hp.start W0
    go_enter Try.func18, Try.ntmps18
    go_wp2_with (first
      | go_skip
      | ((with_reducible refine at_box ?_); first | (refine wpList_box_H rfl rfl H rfl (by first | exact CellsOf.agg | exact CellsOf.int | exact CellsOf.bool | exact CellsOf.slice | exact CellsOf.string | exact CellsOf.pointer | exact CellsOf.func) ?_; clear H; intro b w H))
      | ((with_reducible refine at_alloc ?_); first | (refine wpList_alloc_H rfl rfl H ?_; clear H; intro b w H))
      | ((with_reducible refine at_load ?_); first | (refine wpList_load_H rfl rfl H rfl (by repeat (first | exact LoadAt.here rfl | apply LoadAt.there)) ?_) | (refine wpList_loads_H rfl rfl H rfl (by repeat (first | (apply LoadsAt.here; repeat (first | exact GetsAt.nil | apply GetsAt.here | apply GetsAt.there)) | apply LoadsAt.there)) ?_))
      | ((with_reducible refine at_store ?_); first | (refine wpList_store_H rfl rfl H rfl rfl (by repeat (first | (apply StoreAt.here; (first | exact CellsOf.agg | exact CellsOf.int | exact CellsOf.bool | exact CellsOf.slice | exact CellsOf.string | exact CellsOf.pointer | exact CellsOf.func); (repeat (first | exact SetsAt.nil | apply SetsAt.here | apply SetsAt.there)); exact rfl; exact rfl) | apply StoreAt.there)) ?_; clear H; intro w H))
      | (go_at_call 29; first | (refine at_arg1 (.int .i64 (x : Int)) ?_; refine (pendOk_any (x : Int) _).mono ?_; rintro e w' ⟨he, rfl⟩; rw [p1.out] at he; subst he) | (refine (pendOk_any (y : Int) _).mono ?_; rintro e w' ⟨he, rfl⟩; rw [p2.out] at he; subst he)))
    rw [E1.out, E2.out]
    go_ret2
    refine ⟨?_, H⟩
    rw [HA.out, HB.out]; simp
  all_goals
    rw [e1, e2] at ha hb
    have HA := Lib.hid ha; have HB := Lib.hid hb; clear ha hb
    have p1 := Lib.hid e1; have p2 := Lib.hid e2; clear e1 e2
    have H := Hp.start W0
    go_enter Try.func18, Try.ntmps18
    go_wp2_with (first
      | go_skip
      | ((with_reducible refine at_box ?_); first | (refine wpList_box_H rfl rfl H rfl (by first | exact CellsOf.agg | exact CellsOf.int | exact CellsOf.bool | exact CellsOf.slice | exact CellsOf.string | exact CellsOf.pointer | exact CellsOf.func) ?_; clear H; intro b w H))
      | ((with_reducible refine at_alloc ?_); first | (refine wpList_alloc_H rfl rfl H ?_; clear H; intro b w H))
      | ((with_reducible refine at_load ?_); first | (refine wpList_load_H rfl rfl H rfl (by repeat (first | exact LoadAt.here rfl | apply LoadAt.there)) ?_) | (refine wpList_loads_H rfl rfl H rfl (by repeat (first | (apply LoadsAt.here; repeat (first | exact GetsAt.nil | apply GetsAt.here | apply GetsAt.there)) | apply LoadsAt.there)) ?_))
      | ((with_reducible refine at_store ?_); first | (refine wpList_store_H rfl rfl H rfl rfl (by repeat (first | (apply StoreAt.here; (first | exact CellsOf.agg | exact CellsOf.int | exact CellsOf.bool | exact CellsOf.slice | exact CellsOf.string | exact CellsOf.pointer | exact CellsOf.func); (repeat (first | exact SetsAt.nil | apply SetsAt.here | apply SetsAt.there)); exact rfl; exact rfl) | apply StoreAt.there)) ?_; clear H; intro w H))
      | (go_at_call 29; first | (refine at_arg1 (.int .i64 a) ?_; refine (pendOk_any a _).mono ?_; rintro e w' ⟨he, rfl⟩; rw [p1.out] at he; subst he) | (refine (pendOk_any b _).mono ?_; rintro e w' ⟨he, rfl⟩; rw [p2.out] at he; subst he)))
    go_ret2
    refine ⟨?_, H⟩
    rw [HA.out, HB.out]; simp
set_option linter.unusedSimpArgs false in
set_option linter.unusedVariables false in
set_option maxRecDepth 100000 in
set_option maxHeartbeats 4000000 in
theorem specQPost_c (p n : Int) (W0 : World) : Calls Try.prog 21 #[.int .i64 p, .int .i64 n] W0 fun e w' => e = .returned (.tuple #[.int .i64 (qPost p n), .bool (qPostOk p n)]) ∧ Hp W0 w' [] := by
  have ho : qPostOk p n = (pendB p && inB n 0 7) := rfl
  cases e1 : pendB p <;> cases e2 : inB n 0 7
  all_goals
    rw [e1, e2] at ho
    try (have hn : 0 ≤ n ∧ n ≤ 7 := by simpa [inB] using e2)
    try (have hp : 0 ≤ p ∧ p ≤ 255 := by simpa [pendB, inB] using e1)
    try obtain ⟨hn0, hn7⟩ := hn
    try obtain ⟨hp0, hp7⟩ := hp
    have HO := Lib.hid ho
    clear ho
    have H := Hp.start W0
    go_enter Try.func21, Try.ntmps21
    go_wp2_with (first
      | go_skip
      | ((with_reducible refine at_box ?_); first | (refine wpList_box_H rfl rfl H rfl (by first | exact CellsOf.agg | exact CellsOf.int | exact CellsOf.bool | exact CellsOf.slice | exact CellsOf.string | exact CellsOf.pointer | exact CellsOf.func) ?_; clear H; intro b w H))
      | ((with_reducible refine at_alloc ?_); first | (refine wpList_alloc_H rfl rfl H ?_; clear H; intro b w H))
      | ((with_reducible refine at_load ?_); first | (refine wpList_load_H rfl rfl H rfl (by repeat (first | exact LoadAt.here rfl | apply LoadAt.there)) ?_) | (refine wpList_loads_H rfl rfl H rfl (by repeat (first | (apply LoadsAt.here; repeat (first | exact GetsAt.nil | apply GetsAt.here | apply GetsAt.there)) | apply LoadsAt.there)) ?_))
      | ((with_reducible refine at_store ?_); first | (refine wpList_store_H rfl rfl H rfl rfl (by repeat (first | (apply StoreAt.here; (first | exact CellsOf.agg | exact CellsOf.int | exact CellsOf.bool | exact CellsOf.slice | exact CellsOf.string | exact CellsOf.pointer | exact CellsOf.func); (repeat (first | exact SetsAt.nil | apply SetsAt.here | apply SetsAt.there)); exact rfl; exact rfl) | apply StoreAt.there)) ?_; clear H; intro w H))
      | (go_at_call 30; refine (specPendOk_any _ _).mono ?_; rintro e w' ⟨he, hw⟩; subst hw; rw [e1] at he; subst he)
      | (go_at_call 90; refine (in_any _ _ _ _).mono ?_; rintro e w' ⟨he, hw⟩; subst hw; rw [e2] at he; subst he))
    go_ret2
    refine ⟨?_, H⟩
    rw [HO.out]; unfold qPost; rw [HO.out]; rfl
set_option linter.unusedSimpArgs false in
set_option linter.unusedVariables false in
set_option maxRecDepth 100000 in
set_option maxHeartbeats 4000000 in
theorem specQSplit_c (a b : Int) (W0 : World) : Calls Try.prog 25 #[.int .i64 a, .int .i64 b] W0 fun e w' => e = .returned (.tuple #[.int .i64 (qSplitA a b), .int .i64 (qSplitB a b)]) ∧ Hp W0 w' [] := by
  have ha : qSplitA a b = if pendB a && pendB b then ((a.toNat &&& b.toNat : Nat) : Int) else 0 := rfl
  have hb : qSplitB a b = if pendB a && pendB b then ((a.toNat - (a.toNat &&& b.toNat) : Nat) : Int) else 0 := rfl
  cases e1 : pendB a <;> cases e2 : pendB b
  case true.true =>
    rw [e1, e2] at ha hb
    obtain ⟨a0, a1⟩ := (pendB_iff a).1 e1
    obtain ⟨b0, b1⟩ := (pendB_iff b).1 e2
    obtain ⟨x, rfl⟩ := Int.eq_ofNat_of_zero_le a0
    obtain ⟨y, rfl⟩ := Int.eq_ofNat_of_zero_le b0
    have E1 := Lib.hid (and_i64 (a := x) (b := y) (by omega) (by omega))
    have E2 := Lib.hid (andNot_i64 (a := x) (b := y) (by omega) (by omega))
    have E3 := Lib.hid (xor_i64 (b := y) (by omega))
    have E4 : Hid (bits .and .i64 (x : Int) ((255 - y : Nat) : Int) = ((x - (x &&& y) : Nat) : Int)) := Lib.hid (by rw [and_i64 (by omega) (by omega), and_not (by omega) (by omega)])
    have HA := Lib.hid ha; have HB := Lib.hid hb; clear ha hb
    have p1 := Lib.hid e1; have p2 := Lib.hid e2; clear e1 e2
    have H := Hp.start W0
    go_enter Try.func25, Try.ntmps25
    go_wp2_with (first
      | go_skip
      | ((with_reducible refine at_box ?_); first | (refine wpList_box_H rfl rfl H rfl (by first | exact CellsOf.agg | exact CellsOf.int | exact CellsOf.bool | exact CellsOf.slice | exact CellsOf.string | exact CellsOf.pointer | exact CellsOf.func) ?_; clear H; intro b w H))
      | ((with_reducible refine at_alloc ?_); first | (refine wpList_alloc_H rfl rfl H ?_; clear H; intro b w H))
      | ((with_reducible refine at_load ?_); first | (refine wpList_load_H rfl rfl H rfl (by repeat (first | exact LoadAt.here rfl | apply LoadAt.there)) ?_) | (refine wpList_loads_H rfl rfl H rfl (by repeat (first | (apply LoadsAt.here; repeat (first | exact GetsAt.nil | apply GetsAt.here | apply GetsAt.there)) | apply LoadsAt.there)) ?_))
      | ((with_reducible refine at_store ?_); first | (refine wpList_store_H rfl rfl H rfl rfl (by repeat (first | (apply StoreAt.here; (first | exact CellsOf.agg | exact CellsOf.int | exact CellsOf.bool | exact CellsOf.slice | exact CellsOf.string | exact CellsOf.pointer | exact CellsOf.func); (repeat (first | exact SetsAt.nil | apply SetsAt.here | apply SetsAt.there)); exact rfl; exact rfl) | apply StoreAt.there)) ?_; clear H; intro w H))
      | (go_at_call 30; first | (refine at_arg1 (.int .i64 (x : Int)) ?_; refine (specPendOk_any (x : Int) _).mono ?_; rintro e w' ⟨he, rfl⟩; rw [p1.out] at he; subst he) | (refine (specPendOk_any (y : Int) _).mono ?_; rintro e w' ⟨he, rfl⟩; rw [p2.out] at he; subst he)))
    rw [E1.out, E3.out, E4.out]
    go_ret2
    refine ⟨?_, H⟩
    rw [HA.out, HB.out]; simp
  all_goals
    rw [e1, e2] at ha hb
    have HA := Lib.hid ha; have HB := Lib.hid hb; clear ha hb
    have p1 := Lib.hid e1; have p2 := Lib.hid e2; clear e1 e2
    have H := Hp.start W0
    go_enter Try.func25, Try.ntmps25
    go_wp2_with (first
      | go_skip
      | ((with_reducible refine at_box ?_); first | (refine wpList_box_H rfl rfl H rfl (by first | exact CellsOf.agg | exact CellsOf.int | exact CellsOf.bool | exact CellsOf.slice | exact CellsOf.string | exact CellsOf.pointer | exact CellsOf.func) ?_; clear H; intro b w H))
      | ((with_reducible refine at_alloc ?_); first | (refine wpList_alloc_H rfl rfl H ?_; clear H; intro b w H))
      | ((with_reducible refine at_load ?_); first | (refine wpList_load_H rfl rfl H rfl (by repeat (first | exact LoadAt.here rfl | apply LoadAt.there)) ?_) | (refine wpList_loads_H rfl rfl H rfl (by repeat (first | (apply LoadsAt.here; repeat (first | exact GetsAt.nil | apply GetsAt.here | apply GetsAt.there)) | apply LoadsAt.there)) ?_))
      | ((with_reducible refine at_store ?_); first | (refine wpList_store_H rfl rfl H rfl rfl (by repeat (first | (apply StoreAt.here; (first | exact CellsOf.agg | exact CellsOf.int | exact CellsOf.bool | exact CellsOf.slice | exact CellsOf.string | exact CellsOf.pointer | exact CellsOf.func); (repeat (first | exact SetsAt.nil | apply SetsAt.here | apply SetsAt.there)); exact rfl; exact rfl) | apply StoreAt.there)) ?_; clear H; intro w H))
      | (go_at_call 30; first | (refine at_arg1 (.int .i64 a) ?_; refine (specPendOk_any a _).mono ?_; rintro e w' ⟨he, rfl⟩; rw [p1.out] at he; subst he) | (refine (specPendOk_any b _).mono ?_; rintro e w' ⟨he, rfl⟩; rw [p2.out] at he; subst he)))
    go_ret2
    refine ⟨?_, H⟩
    rw [HA.out, HB.out]; simp
set_option linter.unusedSimpArgs false in
set_option linter.unusedVariables false in
set_option maxRecDepth 100000 in
set_option maxHeartbeats 4000000 in
theorem drawPostIrq_c (s : Sl Int) (W0 : World) (R : Rd u8cell 1 W0 s ∧ s.xs.length ≤ 1048576) : Calls Try.prog 19 #[.slice s.A s.xs.length s.c] W0 fun e w' => ∃ p n : Int, e = .returned (.tuple #[.int .i64 p, .int .i64 n]) ∧ Hp W0 w' [] := by
  have H := Hp.start W0
  go_enter Try.func19, Try.ntmps19
  go_wp2_with (first
    | go_skip
    | ((with_reducible refine at_box ?_); first | (refine wpList_box_H rfl rfl H rfl (by first | exact CellsOf.agg | exact CellsOf.int | exact CellsOf.bool | exact CellsOf.slice | exact CellsOf.string | exact CellsOf.pointer | exact CellsOf.func) ?_; clear H; intro b w H))
    | ((with_reducible refine at_alloc ?_); first | (refine wpList_alloc_H rfl rfl H ?_; clear H; intro b w H))
    | ((with_reducible refine at_load ?_); first | (refine wpList_load_H rfl rfl H rfl (by repeat (first | exact LoadAt.here rfl | apply LoadAt.there)) ?_) | (refine wpList_loads_H rfl rfl H rfl (by repeat (first | (apply LoadsAt.here; repeat (first | exact GetsAt.nil | apply GetsAt.here | apply GetsAt.there)) | apply LoadsAt.there)) ?_))
    | ((with_reducible refine at_store ?_); first | (refine wpList_store_H rfl rfl H rfl rfl (by repeat (first | (apply StoreAt.here; (first | exact CellsOf.agg | exact CellsOf.int | exact CellsOf.bool | exact CellsOf.slice | exact CellsOf.string | exact CellsOf.pointer | exact CellsOf.func); (repeat (first | exact SetsAt.nil | apply SetsAt.here | apply SetsAt.there)); exact rfl; exact rfl) | apply StoreAt.there)) ?_; clear H; intro w H))
    | (go_at_call 81; refine (l01New_cu s _ ⟨R.1.at_ H, R.2⟩).mono ?_; rintro e w ⟨b, rfl, K⟩; replace H := H.add_all K; clear K))
  go_at_call 87
  refine (l14Pend_H s b H (by repeat (first | exact Take.head | apply Take.tail)) R).mono ?_
  clear H
  rintro e w ⟨p, rfl, H⟩
  go_wp2_with (first
    | go_skip
    | ((with_reducible refine at_box ?_); first | (refine wpList_box_H rfl rfl H rfl (by first | exact CellsOf.agg | exact CellsOf.int | exact CellsOf.bool | exact CellsOf.slice | exact CellsOf.string | exact CellsOf.pointer | exact CellsOf.func) ?_; clear H; intro b w H))
    | ((with_reducible refine at_alloc ?_); first | (refine wpList_alloc_H rfl rfl H ?_; clear H; intro b w H))
    | ((with_reducible refine at_load ?_); first | (refine wpList_load_H rfl rfl H rfl (by repeat (first | exact LoadAt.here rfl | apply LoadAt.there)) ?_) | (refine wpList_loads_H rfl rfl H rfl (by repeat (first | (apply LoadsAt.here; repeat (first | exact GetsAt.nil | apply GetsAt.here | apply GetsAt.there)) | apply LoadsAt.there)) ?_))
    | ((with_reducible refine at_store ?_); first | (refine wpList_store_H rfl rfl H rfl rfl (by repeat (first | (apply StoreAt.here; (first | exact CellsOf.agg | exact CellsOf.int | exact CellsOf.bool | exact CellsOf.slice | exact CellsOf.string | exact CellsOf.pointer | exact CellsOf.func); (repeat (first | exact SetsAt.nil | apply SetsAt.here | apply SetsAt.there)); exact rfl; exact rfl) | apply StoreAt.there)) ?_; clear H; intro w H))
    | ((with_reducible refine at_slice ?_); first | ((with_reducible refine at_dst 10 ?_); refine wpList_lit_H rfl rfl H ([0, 1, 5, 7, 8, -1, 9223372036854775807] : List Int) (by kernel_rfl) rfl (by decide) (by decide) ?_; clear H; intro bl w H))
    | (go_at_call 88; refine (l01PickInt_H s b (⟨some ⟨bl, 0, none⟩, 7, [0, 1, 5, 7, 8, -1, 9223372036854775807]⟩ : Sl Int) H (by repeat (first | exact Take.head | apply Take.tail)) (by repeat (first | exact Take.head | apply Take.tail)) R (by simp) (by simp)).mono ?_; clear H; rintro e w ⟨n, rfl, nm, H⟩; have NM := Lib.hid nm; clear nm))
  go_ret2
  exact ⟨p, n, rfl, H.pick .nil⟩
set_option linter.unusedSimpArgs false in
set_option linter.unusedVariables false in
set_option maxRecDepth 100000 in
set_option maxHeartbeats 4000000 in
theorem drawTakeIrq_c (s : Sl Int) (W0 : World) (R : Rd u8cell 1 W0 s ∧ s.xs.length ≤ 1048576) : Calls Try.prog 22 #[.slice s.A s.xs.length s.c] W0 fun e w' => ∃ p : Int, e = .returned (.int .i64 p) ∧ Hp W0 w' [] := by
  have H := Hp.start W0
  go_enter Try.func22, Try.ntmps22
  go_wp2_with (first
    | go_skip
    | ((with_reducible refine at_box ?_); first | (refine wpList_box_H rfl rfl H rfl (by first | exact CellsOf.agg | exact CellsOf.int | exact CellsOf.bool | exact CellsOf.slice | exact CellsOf.string | exact CellsOf.pointer | exact CellsOf.func) ?_; clear H; intro b w H))
    | ((with_reducible refine at_alloc ?_); first | (refine wpList_alloc_H rfl rfl H ?_; clear H; intro b w H))
    | ((with_reducible refine at_load ?_); first | (refine wpList_load_H rfl rfl H rfl (by repeat (first | exact LoadAt.here rfl | apply LoadAt.there)) ?_) | (refine wpList_loads_H rfl rfl H rfl (by repeat (first | (apply LoadsAt.here; repeat (first | exact GetsAt.nil | apply GetsAt.here | apply GetsAt.there)) | apply LoadsAt.there)) ?_))
    | ((with_reducible refine at_store ?_); first | (refine wpList_store_H rfl rfl H rfl rfl (by repeat (first | (apply StoreAt.here; (first | exact CellsOf.agg | exact CellsOf.int | exact CellsOf.bool | exact CellsOf.slice | exact CellsOf.string | exact CellsOf.pointer | exact CellsOf.func); (repeat (first | exact SetsAt.nil | apply SetsAt.here | apply SetsAt.there)); exact rfl; exact rfl) | apply StoreAt.there)) ?_; clear H; intro w H))
    | (go_at_call 81; refine (l01New_cu s _ ⟨R.1.at_ H, R.2⟩).mono ?_; rintro e w ⟨b, rfl, K⟩; replace H := H.add_all K; clear K))
  go_at_call 87
  refine (l14Pend_H s b H (by repeat (first | exact Take.head | apply Take.tail)) R).mono ?_
  clear H
  rintro e w ⟨p, rfl, H⟩
  go_wp2_with (first
    | go_skip
    | ((with_reducible refine at_box ?_); first | (refine wpList_box_H rfl rfl H rfl (by first | exact CellsOf.agg | exact CellsOf.int | exact CellsOf.bool | exact CellsOf.slice | exact CellsOf.string | exact CellsOf.pointer | exact CellsOf.func) ?_; clear H; intro b w H))
    | ((with_reducible refine at_alloc ?_); first | (refine wpList_alloc_H rfl rfl H ?_; clear H; intro b w H))
    | ((with_reducible refine at_load ?_); first | (refine wpList_load_H rfl rfl H rfl (by repeat (first | exact LoadAt.here rfl | apply LoadAt.there)) ?_) | (refine wpList_loads_H rfl rfl H rfl (by repeat (first | (apply LoadsAt.here; repeat (first | exact GetsAt.nil | apply GetsAt.here | apply GetsAt.there)) | apply LoadsAt.there)) ?_))
    | ((with_reducible refine at_store ?_); first | (refine wpList_store_H rfl rfl H rfl rfl (by repeat (first | (apply StoreAt.here; (first | exact CellsOf.agg | exact CellsOf.int | exact CellsOf.bool | exact CellsOf.slice | exact CellsOf.string | exact CellsOf.pointer | exact CellsOf.func); (repeat (first | exact SetsAt.nil | apply SetsAt.here | apply SetsAt.there)); exact rfl; exact rfl) | apply StoreAt.there)) ?_; clear H; intro w H)))
  go_ret
  exact ⟨p, rfl, H.pick .nil⟩
set_option linter.unusedSimpArgs false in
set_option linter.unusedVariables false in
set_option maxRecDepth 100000 in
set_option maxHeartbeats 4000000 in
theorem drawSplitIrqs_c (s : Sl Int) (W0 : World) (R : Rd u8cell 1 W0 s ∧ s.xs.length ≤ 1048576) : Calls Try.prog 24 #[.slice s.A s.xs.length s.c] W0 fun e w' => ∃ p n : Int, e = .returned (.tuple #[.int .i64 p, .int .i64 n]) ∧ Hp W0 w' [] := by
  have H := Hp.start W0
  go_enter Try.func24, Try.ntmps24
  go_wp2_with (first
    | go_skip
    | ((with_reducible refine at_box ?_); first | (refine wpList_box_H rfl rfl H rfl (by first | exact CellsOf.agg | exact CellsOf.int | exact CellsOf.bool | exact CellsOf.slice | exact CellsOf.string | exact CellsOf.pointer | exact CellsOf.func) ?_; clear H; intro b w H))
    | ((with_reducible refine at_alloc ?_); first | (refine wpList_alloc_H rfl rfl H ?_; clear H; intro b w H))
    | ((with_reducible refine at_load ?_); first | (refine wpList_load_H rfl rfl H rfl (by repeat (first | exact LoadAt.here rfl | apply LoadAt.there)) ?_) | (refine wpList_loads_H rfl rfl H rfl (by repeat (first | (apply LoadsAt.here; repeat (first | exact GetsAt.nil | apply GetsAt.here | apply GetsAt.there)) | apply LoadsAt.there)) ?_))
    | ((with_reducible refine at_store ?_); first | (refine wpList_store_H rfl rfl H rfl rfl (by repeat (first | (apply StoreAt.here; (first | exact CellsOf.agg | exact CellsOf.int | exact CellsOf.bool | exact CellsOf.slice | exact CellsOf.string | exact CellsOf.pointer | exact CellsOf.func); (repeat (first | exact SetsAt.nil | apply SetsAt.here | apply SetsAt.there)); exact rfl; exact rfl) | apply StoreAt.there)) ?_; clear H; intro w H))
    | (go_at_call 81; refine (l01New_cu s _ ⟨R.1.at_ H, R.2⟩).mono ?_; rintro e w ⟨b, rfl, K⟩; replace H := H.add_all K; clear K))
  go_at_call 87
  refine (l14Pend_H s b H (by repeat (first | exact Take.head | apply Take.tail)) R).mono ?_
  clear H
  rintro e w ⟨p, rfl, H⟩
  go_wp2_with (first
    | go_skip
    | ((with_reducible refine at_box ?_); first | (refine wpList_box_H rfl rfl H rfl (by first | exact CellsOf.agg | exact CellsOf.int | exact CellsOf.bool | exact CellsOf.slice | exact CellsOf.string | exact CellsOf.pointer | exact CellsOf.func) ?_; clear H; intro b w H))
    | ((with_reducible refine at_alloc ?_); first | (refine wpList_alloc_H rfl rfl H ?_; clear H; intro b w H))
    | ((with_reducible refine at_load ?_); first | (refine wpList_load_H rfl rfl H rfl (by repeat (first | exact LoadAt.here rfl | apply LoadAt.there)) ?_) | (refine wpList_loads_H rfl rfl H rfl (by repeat (first | (apply LoadsAt.here; repeat (first | exact GetsAt.nil | apply GetsAt.here | apply GetsAt.there)) | apply LoadsAt.there)) ?_))
    | ((with_reducible refine at_store ?_); first | (refine wpList_store_H rfl rfl H rfl rfl (by repeat (first | (apply StoreAt.here; (first | exact CellsOf.agg | exact CellsOf.int | exact CellsOf.bool | exact CellsOf.slice | exact CellsOf.string | exact CellsOf.pointer | exact CellsOf.func); (repeat (first | exact SetsAt.nil | apply SetsAt.here | apply SetsAt.there)); exact rfl; exact rfl) | apply StoreAt.there)) ?_; clear H; intro w H)))
  go_at_call 87
  refine (l14Pend_H s b H (by repeat (first | exact Take.head | apply Take.tail)) R).mono ?_
  clear H
  rintro e w ⟨n, rfl, H⟩
  go_wp2_with (first
    | go_skip
    | ((with_reducible refine at_box ?_); first | (refine wpList_box_H rfl rfl H rfl (by first | exact CellsOf.agg | exact CellsOf.int | exact CellsOf.bool | exact CellsOf.slice | exact CellsOf.string | exact CellsOf.pointer | exact CellsOf.func) ?_; clear H; intro b w H))
    | ((with_reducible refine at_alloc ?_); first | (refine wpList_alloc_H rfl rfl H ?_; clear H; intro b w H))
    | ((with_reducible refine at_load ?_); first | (refine wpList_load_H rfl rfl H rfl (by repeat (first | exact LoadAt.here rfl | apply LoadAt.there)) ?_) | (refine wpList_loads_H rfl rfl H rfl (by repeat (first | (apply LoadsAt.here; repeat (first | exact GetsAt.nil | apply GetsAt.here | apply GetsAt.there)) | apply LoadsAt.there)) ?_))
    | ((with_reducible refine at_store ?_); first | (refine wpList_store_H rfl rfl H rfl rfl (by repeat (first | (apply StoreAt.here; (first | exact CellsOf.agg | exact CellsOf.int | exact CellsOf.bool | exact CellsOf.slice | exact CellsOf.string | exact CellsOf.pointer | exact CellsOf.func); (repeat (first | exact SetsAt.nil | apply SetsAt.here | apply SetsAt.there)); exact rfl; exact rfl) | apply StoreAt.there)) ?_; clear H; intro w H)))
  go_ret2
  exact ⟨p, n, rfl, H.pick .nil⟩
end Go.Proofs.Ytedjbholpdinkaa
