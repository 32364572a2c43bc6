/- Contracts of the functions that only look at a guest, of the program and of the reference: CanRun, TakesIrq, InsAt, WantOf, Address. No condition but that the argument lies in memory. -/
import Derived.Test.YtgeoilpmmdfemaaCopy
import Derived.Test.YtgeoilpmmdfemaaIrq
namespace Go.Proofs.Ytgeoilpmmdfemaa
open Go.RowKit

def canRunM (g : MG) : Bool := g.exit.kind == 0 && g.exit.page == 0 && !g.exit.write && g.exit.n == 0 && !g.halted
def takesM (g : MG) : Bool := canRunM g && g.ctl.opn && decide (0 ≤ topI g.pending)
def insAtM (p : List Ins) (pc : Int) : Ins := if 0 ≤ pc ∧ pc < p.length then p.getD pc.toNat ⟨7, 0⟩ else ⟨7, 0⟩
def wantM (g : MG) : Int :=
  if canRunM g then (if takesM g then 1 else
    let op := (insAtM g.prog g.pc).op
    if op == 3 then 3 else if op == 4 then 4 else if op == 5 then 5 else if op == 6 then 6 else if op == 7 then 7 else 2) else 0
def addrM (g : MG) : Int := if wantM g == 3 || wantM g == 4 then (insAtM g.prog g.pc).x else -1

theorem takesM_eq (g : GV) : takesM g.m = (canRunM g.m && g.ctl.opn && decide (0 ≤ topI g.pending)) := rfl
/-- The box of a guest that was just laid, behind a call. -/
theorem bx_call {w w1 : World} {g : GV} {t : TypeId} (hb : Below (w.alloc (.cells (garr g) t)).heap.size (w.alloc (.cells (garr g) t)) w1) : Bx w1 w.heap.size (garr g) ∧ Below w.heap.size w w1 :=
  ⟨(Bx.new w _ _).below hb (by simp), ((Below.refl _ _).alloc (Nat.le_refl _) _).trans (hb.mono (by simp))⟩

theorem canRun_any (g : GV) (w : World) : Calls Try.prog 165 #[g.val] w fun e w' => e = .returned (.bool (canRunM g.m)) ∧ Below w.heap.size w w' := by
  go_enter Try.func165, Try.ntmps165
  go_wp2
  all_goals (go_ret; exact ⟨ret_bool (by simp [canRunM, GV.m, *]), (Below.refl _ _).alloc (Nat.le_refl _) _⟩)
theorem specCanRun_any (g : GV) (w : World) : Calls Try.prog 92 #[g.val] w fun e w' => e = .returned (.bool (canRunM g.m)) ∧ Below w.heap.size w w' := by
  go_enter Try.func92, Try.ntmps92
  go_wp2
  all_goals (go_ret; exact ⟨ret_bool (by simp [canRunM, GV.m, *]), (Below.refl _ _).alloc (Nat.le_refl _) _⟩)

/-- Whether k is an index of a list of n. -/
def hasB (k : Int) (n : Int) : Bool := decide (0 ≤ k) && decide (k < n)
theorem has_any (x a : Int) (w : World) : Calls Try.prog 100 #[.int .i64 x, .int .i64 a] w fun e w' => e = .returned (.bool (hasB x a)) ∧ w = w' := by
  go_enter Try.func100, Try.ntmps100
  go_wp2
  all_goals (go_ret; refine ⟨?_, rfl⟩; simp [hasB, *])
  all_goals omega

end Go.Proofs.Ytgeoilpmmdfemaa
