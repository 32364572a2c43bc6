/- Contracts of the functions on pending interrupts, of the program and of the reference: within, l01In, PendOk, TopIrq, TakeIrq, IrqCount; of bits.Len and bits.OnesCount at numbers up to 255. No condition on the arguments. -/
import Derived.Test.YtgeoilpmmdfemaaWp
import Derived.Test.YtgeoilpmmdfemaaProg
import Derived.Outline
import Derived.OwnWalk
import Derived.KernelRfl
import Derived.Laws.ShiftsVar
import Derived.Laws.BitsAllLaws
import Derived.Laws.BitsLemmas
import Derived.Lib.Strings
import Derived.Lib.Slices
import Derived.Lib.Small
import Derived.Lib.Walk
import Derived.Lib.BitFns
import Derived.Deep.LoopGhost
import Derived.Deep.Light
namespace Go.Proofs.Ytgeoilpmmdfemaa
open Go.RowKit


/-- Whether x is in the range a to b. -/
def inB (x a b : Int) : Bool := decide (a ≤ x) && decide (x ≤ b)
theorem inB_iff (x a b : Int) : inB x a b = true ↔ a ≤ x ∧ x ≤ b := by simp [inB]
theorem inB_not (x a b : Int) : inB x a b = false ↔ x < a ∨ b < x := by simp [inB]; omega
def pendB (p : Int) : Bool := inB p 0 255
theorem pendB_iff (x : Int) : pendB x = true ↔ 0 ≤ x ∧ x ≤ 255 := inB_iff x 0 255
/-- The greatest pending interrupt; -1: none, or no valid number. -/
def topI (p : Int) : Int := if pendB p then (if 128 ≤ p then 7 else if 64 ≤ p then 6 else if 32 ≤ p then 5 else if 16 ≤ p then 4 else if 8 ≤ p then 3 else if 4 ≤ p then 2 else if 2 ≤ p then 1 else if 1 ≤ p then 0 else -1) else -1
def pow2 (n : Int) : Int := 2 ^ n.toNat
def cntI (p : Int) : Int := if pendB p then p % 2 + p / 2 % 2 + p / 4 % 2 + p / 8 % 2 + p / 16 % 2 + p / 32 % 2 + p / 64 % 2 + p / 128 % 2 else 0
/-- What is left when the greatest is taken. -/
def tookI (p : Int) : Int := if topI p < 0 then p else p - pow2 (topI p)

theorem inB_ret (x a b : Int) (h : x < a) : false = inB x a b := by unfold inB; simp; omega
theorem within_any (x a b : Int) (w : World) : Calls Try.prog 114 #[.int .i64 x, .int .i64 a, .int .i64 b] w fun e w' => e = .returned (.bool (inB x a b)) ∧ w = w' := by
  go_enter Try.func114, Try.ntmps114
  go_wp2
  all_goals (go_ret; refine ⟨?_, rfl⟩; simp [inB, *])
  all_goals omega
theorem in_any (x a b : Int) (w : World) : Calls Try.prog 98 #[.int .i64 x, .int .i64 a, .int .i64 b] w fun e w' => e = .returned (.bool (inB x a b)) ∧ w = w' := by
  go_enter Try.func98, Try.ntmps98
  go_wp2
  all_goals (go_ret; refine ⟨?_, rfl⟩; simp [inB, *])
  all_goals omega
theorem pendOk_any (x : Int) (w : World) : Calls Try.prog 115 #[.int .i64 x] w fun e w' => e = .returned (.bool (pendB x)) ∧ w = w' := by
  go_enter Try.func115, Try.ntmps115
  go_wp2_with (go_at_call 114; refine (within_any _ _ _ _).mono ?_; rintro e w' ⟨rfl, rfl⟩)
  go_ret
  exact ⟨rfl, rfl⟩
theorem specPendOk_any (x : Int) (w : World) : Calls Try.prog 111 #[.int .i64 x] w fun e w' => e = .returned (.bool (pendB x)) ∧ w = w' := by
  go_enter Try.func111, Try.ntmps111
  go_wp2_with (go_at_call 98; refine (in_any _ _ _ _).mono ?_; rintro e w' ⟨rfl, rfl⟩)
  go_ret
  exact ⟨rfl, rfl⟩

def lenI (x : Int) : Int := Lib.len8 x
theorem lenI_top : ∀ x : Nat, x ≤ 255 → lenI x - 1 = topI x := by decide +kernel
theorem lenI_le : ∀ x : Nat, x ≤ 255 → 0 ≤ lenI x ∧ lenI x ≤ 8 := by decide +kernel

theorem ret_int {k : IntKind} {a b : Int} (h : a = b) : Ending.returned (.int k a) = .returned (.int k b) := by rw [h]
theorem ret_bool {a b : Bool} (h : a = b) : Ending.returned (.bool a) = .returned (.bool b) := by rw [h]
/-! ### the program's -/
theorem topI_lo (p : Int) (h : 0 ≤ topI p) : pendB p = true := by
  by_cases hp : pendB p = true
  · exact hp
  · unfold topI at h; rw [if_neg hp] at h; omega
theorem took_and : ∀ p : Nat, p ≤ 255 → 0 ≤ topI p → bits BinOp.andNot .i64 p (wrap64 (2 ^ min (topI p).toNat 64)) = tookI p := by decide +kernel
theorem took_sub : ∀ p : Nat, p ≤ 255 → 0 ≤ topI p → wrap64 (p - wrap64 (2 ^ min (IntKind.u64.wrap (topI p)).toNat 64)) = tookI p := by decide +kernel
/-! ### the reference's -/
theorem and_one (n : Nat) (h : n ≤ 255) : bits BinOp.and .i64 n 1 = n % 2 := by
  revert h; revert n; decide +kernel
theorem top7 : ∀ n : Nat, n ≤ 255 → ((bits BinOp.and .i64 ((n : Int) / 128) 1 == 1)) = true → topI n = 7 := by decide +kernel
theorem top6 : ∀ n : Nat, n ≤ 255 → (!(bits BinOp.and .i64 ((n : Int) / 128) 1 == 1) && (bits BinOp.and .i64 ((n : Int) / 64) 1 == 1)) = true → topI n = 6 := by decide +kernel
theorem top5 : ∀ n : Nat, n ≤ 255 → (!(bits BinOp.and .i64 ((n : Int) / 128) 1 == 1) && !(bits BinOp.and .i64 ((n : Int) / 64) 1 == 1) && (bits BinOp.and .i64 ((n : Int) / 32) 1 == 1)) = true → topI n = 5 := by decide +kernel
theorem top4 : ∀ n : Nat, n ≤ 255 → (!(bits BinOp.and .i64 ((n : Int) / 128) 1 == 1) && !(bits BinOp.and .i64 ((n : Int) / 64) 1 == 1) && !(bits BinOp.and .i64 ((n : Int) / 32) 1 == 1) && (bits BinOp.and .i64 ((n : Int) / 16) 1 == 1)) = true → topI n = 4 := by decide +kernel
theorem top3 : ∀ n : Nat, n ≤ 255 → (!(bits BinOp.and .i64 ((n : Int) / 128) 1 == 1) && !(bits BinOp.and .i64 ((n : Int) / 64) 1 == 1) && !(bits BinOp.and .i64 ((n : Int) / 32) 1 == 1) && !(bits BinOp.and .i64 ((n : Int) / 16) 1 == 1) && (bits BinOp.and .i64 ((n : Int) / 8) 1 == 1)) = true → topI n = 3 := by decide +kernel
theorem top2 : ∀ n : Nat, n ≤ 255 → (!(bits BinOp.and .i64 ((n : Int) / 128) 1 == 1) && !(bits BinOp.and .i64 ((n : Int) / 64) 1 == 1) && !(bits BinOp.and .i64 ((n : Int) / 32) 1 == 1) && !(bits BinOp.and .i64 ((n : Int) / 16) 1 == 1) && !(bits BinOp.and .i64 ((n : Int) / 8) 1 == 1) && (bits BinOp.and .i64 ((n : Int) / 4) 1 == 1)) = true → topI n = 2 := by decide +kernel
theorem top1 : ∀ n : Nat, n ≤ 255 → (!(bits BinOp.and .i64 ((n : Int) / 128) 1 == 1) && !(bits BinOp.and .i64 ((n : Int) / 64) 1 == 1) && !(bits BinOp.and .i64 ((n : Int) / 32) 1 == 1) && !(bits BinOp.and .i64 ((n : Int) / 16) 1 == 1) && !(bits BinOp.and .i64 ((n : Int) / 8) 1 == 1) && !(bits BinOp.and .i64 ((n : Int) / 4) 1 == 1) && (bits BinOp.and .i64 ((n : Int) / 2) 1 == 1)) = true → topI n = 1 := by decide +kernel
theorem top0 : ∀ n : Nat, n ≤ 255 → (!(bits BinOp.and .i64 ((n : Int) / 128) 1 == 1) && !(bits BinOp.and .i64 ((n : Int) / 64) 1 == 1) && !(bits BinOp.and .i64 ((n : Int) / 32) 1 == 1) && !(bits BinOp.and .i64 ((n : Int) / 16) 1 == 1) && !(bits BinOp.and .i64 ((n : Int) / 8) 1 == 1) && !(bits BinOp.and .i64 ((n : Int) / 4) 1 == 1) && !(bits BinOp.and .i64 ((n : Int) / 2) 1 == 1) && (bits BinOp.and .i64 (n : Int) 1 == 1)) = true → topI n = 0 := by decide +kernel
theorem topNo : ∀ n : Nat, n ≤ 255 → (!(bits BinOp.and .i64 ((n : Int) / 128) 1 == 1) && !(bits BinOp.and .i64 ((n : Int) / 64) 1 == 1) && !(bits BinOp.and .i64 ((n : Int) / 32) 1 == 1) && !(bits BinOp.and .i64 ((n : Int) / 16) 1 == 1) && !(bits BinOp.and .i64 ((n : Int) / 8) 1 == 1) && !(bits BinOp.and .i64 ((n : Int) / 4) 1 == 1) && !(bits BinOp.and .i64 ((n : Int) / 2) 1 == 1) && !(bits BinOp.and .i64 (n : Int) 1 == 1)) = true → topI n = -1 := by decide +kernel
end Go.Proofs.Ytgeoilpmmdfemaa
