/- Contracts of the functions on pending interrupts, of the program and of the reference: within, l01In, PendOk, TopIrq, TakeIrq, IrqCount; of bits.Len and bits.OnesCount at numbers up to 255. No condition on the arguments. -/
import Derived.Test.YtaafnenmdombiaaGreatWp
import Derived.Test.YtaafnenmdombiaaGreatProg
import Derived.Outline
import Derived.OwnWalk
import Derived.KernelRfl
import Derived.Laws.ShiftsVar
import Derived.Laws.BitsAllLaws
import Derived.Laws.BitsLemmas
import Derived.Lib.Strings
import Derived.Lib.Slices
import Derived.Lib.Small
import Derived.Lib.Walk
import Derived.Lib.BitFns
import Derived.Deep.LoopGhost
import Derived.Deep.Light
namespace Go.Proofs.YtaafnenmdombiaaGreat
open Go.RowKit


/-- Whether x is in the range a to b. -/
def inB (x a b : Int) : Bool := decide (a ≤ x) && decide (x ≤ b)
theorem inB_iff (x a b : Int) : inB x a b = true ↔ a ≤ x ∧ x ≤ b := by simp [inB]
def pendB (p : Int) : Bool := inB p 0 255
theorem pendB_iff (x : Int) : pendB x = true ↔ 0 ≤ x ∧ x ≤ 255 := inB_iff x 0 255
/-- The greatest pending interrupt; -1: none, or no valid number. -/
def topI (p : Int) : Int := if pendB p then (if 128 ≤ p then 7 else if 64 ≤ p then 6 else if 32 ≤ p then 5 else if 16 ≤ p then 4 else if 8 ≤ p then 3 else if 4 ≤ p then 2 else if 2 ≤ p then 1 else if 1 ≤ p then 0 else -1) else -1
def pow2 (n : Int) : Int := 2 ^ n.toNat
/-- What is left when the greatest is taken. -/
def tookI (p : Int) : Int := if topI p < 0 then p else p - pow2 (topI p)

theorem within_any (x a b : Int) (w : World) : Calls Tryz.prog 72 #[.int .i64 x, .int .i64 a, .int .i64 b] w fun e w' => e = .returned (.bool (inB x a b)) ∧ w = w' := by
  go_enter Tryz.func72, Tryz.ntmps72
  go_wp2
  all_goals (go_ret; refine ⟨?_, rfl⟩; simp [inB, *])
  all_goals omega
theorem in_any (x a b : Int) (w : World) : Calls Tryz.prog 78 #[.int .i64 x, .int .i64 a, .int .i64 b] w fun e w' => e = .returned (.bool (inB x a b)) ∧ w = w' := by
  go_enter Tryz.func78, Tryz.ntmps78
  go_wp2
  all_goals (go_ret; refine ⟨?_, rfl⟩; simp [inB, *])
  all_goals omega
theorem pendOk_any (x : Int) (w : World) : Calls Tryz.prog 157 #[.int .i64 x] w fun e w' => e = .returned (.bool (pendB x)) ∧ w = w' := by
  go_enter Tryz.func157, Tryz.ntmps157
  go_wp2_with (go_at_call 72; refine (within_any _ _ _ _).mono ?_; rintro e w' ⟨rfl, rfl⟩)
  go_ret
  exact ⟨rfl, rfl⟩
theorem specPendOk_any (x : Int) (w : World) : Calls Tryz.prog 160 #[.int .i64 x] w fun e w' => e = .returned (.bool (pendB x)) ∧ w = w' := by
  go_enter Tryz.func160, Tryz.ntmps160
  go_wp2_with (go_at_call 78; refine (in_any _ _ _ _).mono ?_; rintro e w' ⟨rfl, rfl⟩)
  go_ret
  exact ⟨rfl, rfl⟩

def lenI (x : Int) : Int := Lib.len8 x
theorem lenI_top : ∀ x : Nat, x ≤ 255 → lenI x - 1 = topI x := by decide +kernel
theorem lenI_le : ∀ x : Nat, x ≤ 255 → 0 ≤ lenI x ∧ lenI x ≤ 8 := by decide +kernel

theorem ret_int {k : IntKind} {a b : Int} (h : a = b) : Ending.returned (.int k a) = .returned (.int k b) := by rw [h]
theorem ret_bool {a b : Bool} (h : a = b) : Ending.returned (.bool a) = .returned (.bool b) := by rw [h]
set_option maxHeartbeats 1000000 in
set_option maxRecDepth 100000 in
theorem len64_small (x : Int) (h0 : 0 ≤ x) (hx : x ≤ 255) (w : World) : Calls Tryz.prog 228 #[.int .u64 x] w fun e w' => e = .returned (.int .i64 (lenI x)) ∧ w = w' := by
  have H : Hid (wrap64 (wrap64 (Lib.len8 x)) = lenI x) := by
    obtain ⟨n, rfl⟩ := Int.eq_ofNat_of_zero_le h0
    have hl := lenI_le n (by omega)
    unfold lenI at hl
    show wrap64 (wrap64 (Lib.len8 n)) = Lib.len8 n
    rw [IntWalk.wrap64_in (Lib.len8 n) (by omega), IntWalk.wrap64_in (Lib.len8 n) (by omega)]
  go_enter Tryz.func228, Tryz.ntmps228
  go_wp2
  go_ret
  exact ⟨ret_int H.out, rfl⟩
theorem len_small (x : Int) (h0 : 0 ≤ x) (hx : x ≤ 255) (w : World) : Calls Tryz.prog 225 #[.int .u64 x] w fun e w' => e = .returned (.int .i64 (lenI x)) ∧ w = w' := by
  go_enter Tryz.func225, Tryz.ntmps225
  go_wp2_with (go_at_call 228; refine (len64_small x h0 hx _).mono ?_; rintro e w' ⟨rfl, rfl⟩)
  go_ret
  exact ⟨rfl, rfl⟩
/-! ### the program's -/
theorem topIrq_any (p : Int) (w : World) : Calls Tryz.prog 217 #[.int .i64 p] w fun e w' => e = .returned (.int .i64 (topI p)) ∧ w = w' := by
  by_cases hp : pendB p = true
  · obtain ⟨h0, h1⟩ := (pendB_iff p).1 hp
    have hl : 0 ≤ lenI p ∧ lenI p ≤ 8 ∧ Hid (lenI p - 1 = topI p) := by
      obtain ⟨n, rfl⟩ := Int.eq_ofNat_of_zero_le h0
      have := lenI_le n (by omega)
      exact ⟨this.1, this.2, lenI_top n (by omega)⟩
    obtain ⟨l0, l1, HT⟩ := hl
    go_enter Tryz.func217, Tryz.ntmps217
    go_wp2_with (first | (go_at_call 157; refine (pendOk_any _ _).mono ?_; rintro e w' ⟨rfl, rfl⟩) | (go_at_call 225; refine (len_small p h0 h1 _).mono ?_; rintro e w' ⟨rfl, rfl⟩))
    go_ret
    exact ⟨ret_int HT.out, rfl⟩
  · have hp' : pendB p = false := by simpa using hp
    have HT : Hid (topI p = -1) := by show topI p = -1; unfold topI; rw [if_neg hp]
    clear hp
    go_enter Tryz.func217, Tryz.ntmps217
    go_wp2_with (go_at_call 157; refine (pendOk_any _ _).mono ?_; rintro e w' ⟨rfl, rfl⟩)
    go_ret
    exact ⟨ret_int HT.out.symm, rfl⟩
theorem topI_lo (p : Int) (h : 0 ≤ topI p) : pendB p = true := by
  by_cases hp : pendB p = true
  · exact hp
  · unfold topI at h; rw [if_neg hp] at h; omega
theorem took_and : ∀ p : Nat, p ≤ 255 → 0 ≤ topI p → bits BinOp.andNot .i64 p (wrap64 (2 ^ min (topI p).toNat 64)) = tookI p := by decide +kernel
theorem took_sub : ∀ p : Nat, p ≤ 255 → 0 ≤ topI p → wrap64 (p - wrap64 (2 ^ min (IntKind.u64.wrap (topI p)).toNat 64)) = tookI p := by decide +kernel
theorem takeIrq_any (p : Int) (w : World) : Calls Tryz.prog 187 #[.int .i64 p] w fun e w' => e = .returned (.tuple #[.int .i64 (tookI p), .int .i64 (topI p), .bool (decide (0 ≤ topI p))]) ∧ w = w' := by
  by_cases hp : 0 ≤ topI p
  · have hq := (pendB_iff p).1 (topI_lo p hp)
    have HT : Hid (bits BinOp.andNot .i64 p (wrap64 (2 ^ min (topI p).toNat 64)) = tookI p) := by
      obtain ⟨n, rfl⟩ := Int.eq_ofNat_of_zero_le hq.1
      exact took_and n (by omega) hp
    clear hq
    go_enter Tryz.func187, Tryz.ntmps187
    go_wp2_with (go_at_call 217; refine (topIrq_any _ _).mono ?_; rintro e w' ⟨rfl, rfl⟩)
    go_ret3
    refine ⟨?_, rfl⟩
    rw [← HT.out]; simp [hp]
  · have HT : Hid (tookI p = p) := by show tookI p = p; unfold tookI; rw [if_pos (by omega)]
    have hn : topI p < 0 := by omega
    have HN : Hid (topI p = -1) := by show topI p = -1; unfold topI at hn ⊢; (repeat' split at hn) <;> simp_all <;> omega
    clear hp
    go_enter Tryz.func187, Tryz.ntmps187
    go_wp2_with (go_at_call 217; refine (topIrq_any _ _).mono ?_; rintro e w' ⟨rfl, rfl⟩)
    go_ret3
    refine ⟨?_, rfl⟩
    rw [HT.out, HN.out]; simp
/-! ### the reference's -/
theorem top7 : ∀ n : Nat, n ≤ 255 → ((bits BinOp.and .i64 ((n : Int) / 128) 1 == 1)) = true → topI n = 7 := by decide +kernel
theorem top6 : ∀ n : Nat, n ≤ 255 → (!(bits BinOp.and .i64 ((n : Int) / 128) 1 == 1) && (bits BinOp.and .i64 ((n : Int) / 64) 1 == 1)) = true → topI n = 6 := by decide +kernel
theorem top5 : ∀ n : Nat, n ≤ 255 → (!(bits BinOp.and .i64 ((n : Int) / 128) 1 == 1) && !(bits BinOp.and .i64 ((n : Int) / 64) 1 == 1) && (bits BinOp.and .i64 ((n : Int) / 32) 1 == 1)) = true → topI n = 5 := by decide +kernel
theorem top4 : ∀ n : Nat, n ≤ 255 → (!(bits BinOp.and .i64 ((n : Int) / 128) 1 == 1) && !(bits BinOp.and .i64 ((n : Int) / 64) 1 == 1) && !(bits BinOp.and .i64 ((n : Int) / 32) 1 == 1) && (bits BinOp.and .i64 ((n : Int) / 16) 1 == 1)) = true → topI n = 4 := by decide +kernel
theorem top3 : ∀ n : Nat, n ≤ 255 → (!(bits BinOp.and .i64 ((n : Int) / 128) 1 == 1) && !(bits BinOp.and .i64 ((n : Int) / 64) 1 == 1) && !(bits BinOp.and .i64 ((n : Int) / 32) 1 == 1) && !(bits BinOp.and .i64 ((n : Int) / 16) 1 == 1) && (bits BinOp.and .i64 ((n : Int) / 8) 1 == 1)) = true → topI n = 3 := by decide +kernel
theorem top2 : ∀ n : Nat, n ≤ 255 → (!(bits BinOp.and .i64 ((n : Int) / 128) 1 == 1) && !(bits BinOp.and .i64 ((n : Int) / 64) 1 == 1) && !(bits BinOp.and .i64 ((n : Int) / 32) 1 == 1) && !(bits BinOp.and .i64 ((n : Int) / 16) 1 == 1) && !(bits BinOp.and .i64 ((n : Int) / 8) 1 == 1) && (bits BinOp.and .i64 ((n : Int) / 4) 1 == 1)) = true → topI n = 2 := by decide +kernel
theorem top1 : ∀ n : Nat, n ≤ 255 → (!(bits BinOp.and .i64 ((n : Int) / 128) 1 == 1) && !(bits BinOp.and .i64 ((n : Int) / 64) 1 == 1) && !(bits BinOp.and .i64 ((n : Int) / 32) 1 == 1) && !(bits BinOp.and .i64 ((n : Int) / 16) 1 == 1) && !(bits BinOp.and .i64 ((n : Int) / 8) 1 == 1) && !(bits BinOp.and .i64 ((n : Int) / 4) 1 == 1) && (bits BinOp.and .i64 ((n : Int) / 2) 1 == 1)) = true → topI n = 1 := by decide +kernel
theorem top0 : ∀ n : Nat, n ≤ 255 → (!(bits BinOp.and .i64 ((n : Int) / 128) 1 == 1) && !(bits BinOp.and .i64 ((n : Int) / 64) 1 == 1) && !(bits BinOp.and .i64 ((n : Int) / 32) 1 == 1) && !(bits BinOp.and .i64 ((n : Int) / 16) 1 == 1) && !(bits BinOp.and .i64 ((n : Int) / 8) 1 == 1) && !(bits BinOp.and .i64 ((n : Int) / 4) 1 == 1) && !(bits BinOp.and .i64 ((n : Int) / 2) 1 == 1) && (bits BinOp.and .i64 (n : Int) 1 == 1)) = true → topI n = 0 := by decide +kernel
theorem topNo : ∀ n : Nat, n ≤ 255 → (!(bits BinOp.and .i64 ((n : Int) / 128) 1 == 1) && !(bits BinOp.and .i64 ((n : Int) / 64) 1 == 1) && !(bits BinOp.and .i64 ((n : Int) / 32) 1 == 1) && !(bits BinOp.and .i64 ((n : Int) / 16) 1 == 1) && !(bits BinOp.and .i64 ((n : Int) / 8) 1 == 1) && !(bits BinOp.and .i64 ((n : Int) / 4) 1 == 1) && !(bits BinOp.and .i64 ((n : Int) / 2) 1 == 1) && !(bits BinOp.and .i64 (n : Int) 1 == 1)) = true → topI n = -1 := by decide +kernel
set_option maxHeartbeats 4000000 in
theorem specTop_any (p : Int) (w : World) : Calls Tryz.prog 216 #[.int .i64 p] w fun e w' => e = .returned (.int .i64 (topI p)) ∧ w = w' := by
  by_cases hp : pendB p = true
  · obtain ⟨h0, h1⟩ := (pendB_iff p).1 hp
    obtain ⟨n, rfl⟩ := Int.eq_ofNat_of_zero_le h0
    have hn : n ≤ 255 := by omega
    clear h0 h1
    go_enter Tryz.func216, Tryz.ntmps216
    go_wp2
    refine wp_loop_rounds 9 ?_
    rw [rounds_succ]
    go_wp2_with (go_at_call 160; refine (specPendOk_any _ _).mono ?_; rintro e w' ⟨rfl, rfl⟩)
    · go_ret
      exact ⟨ret_int (top7 n hn (by simp [*])).symm, rfl⟩
    rw [rounds_succ]
    go_wp2_with (go_at_call 160; refine (specPendOk_any _ _).mono ?_; rintro e w' ⟨rfl, rfl⟩)
    · go_ret
      exact ⟨ret_int (top6 n hn (by simp [*])).symm, rfl⟩
    rw [rounds_succ]
    go_wp2_with (go_at_call 160; refine (specPendOk_any _ _).mono ?_; rintro e w' ⟨rfl, rfl⟩)
    · go_ret
      exact ⟨ret_int (top5 n hn (by simp [*])).symm, rfl⟩
    rw [rounds_succ]
    go_wp2_with (go_at_call 160; refine (specPendOk_any _ _).mono ?_; rintro e w' ⟨rfl, rfl⟩)
    · go_ret
      exact ⟨ret_int (top4 n hn (by simp [*])).symm, rfl⟩
    rw [rounds_succ]
    go_wp2_with (go_at_call 160; refine (specPendOk_any _ _).mono ?_; rintro e w' ⟨rfl, rfl⟩)
    · go_ret
      exact ⟨ret_int (top3 n hn (by simp [*])).symm, rfl⟩
    rw [rounds_succ]
    go_wp2_with (go_at_call 160; refine (specPendOk_any _ _).mono ?_; rintro e w' ⟨rfl, rfl⟩)
    · go_ret
      exact ⟨ret_int (top2 n hn (by simp [*])).symm, rfl⟩
    rw [rounds_succ]
    go_wp2_with (go_at_call 160; refine (specPendOk_any _ _).mono ?_; rintro e w' ⟨rfl, rfl⟩)
    · go_ret
      exact ⟨ret_int (top1 n hn (by simp [*])).symm, rfl⟩
    rw [rounds_succ]
    go_wp2_with (go_at_call 160; refine (specPendOk_any _ _).mono ?_; rintro e w' ⟨rfl, rfl⟩)
    · go_ret
      exact ⟨ret_int (top0 n hn (by simp [*])).symm, rfl⟩
    rw [rounds_succ]
    go_wp2
    go_ret
    exact ⟨ret_int (topNo n hn (by simp [*])).symm, rfl⟩
  · have hp' : pendB p = false := by simpa using hp
    have HT : Hid (topI p = -1) := by show topI p = -1; unfold topI; rw [if_neg hp]
    clear hp
    go_enter Tryz.func216, Tryz.ntmps216
    go_wp2
    refine wp_loop_rounds 1 ?_
    rw [rounds_succ]
    go_wp2_with (go_at_call 160; refine (specPendOk_any _ _).mono ?_; rintro e w' ⟨rfl, rfl⟩)
    go_ret
    exact ⟨ret_int HT.out.symm, rfl⟩
theorem specTake_any (p : Int) (w : World) : Calls Tryz.prog 176 #[.int .i64 p] w fun e w' => e = .returned (.tuple #[.int .i64 (tookI p), .int .i64 (topI p), .bool (decide (0 ≤ topI p))]) ∧ w = w' := by
  by_cases hp : 0 ≤ topI p
  · have hq := (pendB_iff p).1 (topI_lo p hp)
    have HT : Hid (wrap64 (p - wrap64 (2 ^ min (IntKind.u64.wrap (topI p)).toNat 64)) = tookI p) := by
      obtain ⟨n, rfl⟩ := Int.eq_ofNat_of_zero_le hq.1
      exact took_sub n (by omega) hp
    clear hq
    go_enter Tryz.func176, Tryz.ntmps176
    go_wp2_with (go_at_call 216; refine (specTop_any _ _).mono ?_; rintro e w' ⟨rfl, rfl⟩)
    go_ret3
    refine ⟨?_, rfl⟩
    rw [← HT.out]; simp [hp]
  · have HT : Hid (tookI p = p) := by show tookI p = p; unfold tookI; rw [if_pos (by omega)]
    have hn : topI p < 0 := by omega
    have HN : Hid (topI p = -1) := by show topI p = -1; unfold topI at hn ⊢; (repeat' split at hn) <;> simp_all <;> omega
    clear hp
    go_enter Tryz.func176, Tryz.ntmps176
    go_wp2_with (go_at_call 216; refine (specTop_any _ _).mono ?_; rintro e w' ⟨rfl, rfl⟩)
    go_ret3
    refine ⟨?_, rfl⟩
    rw [HT.out, HN.out]; simp
end Go.Proofs.YtaafnenmdombiaaGreat
