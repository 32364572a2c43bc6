/- Contracts of the functions that only look at a guest, of the program and of the reference: CanRun, TakesIrq, InsAt, WantOf, Address. No condition but that the argument lies in memory. -/
import Derived.Test.YtaafnenmdombiaaGreatCopy
import Derived.Test.YtaafnenmdombiaaGreatIrq
namespace Go.Proofs.YtaafnenmdombiaaGreat
open Go.RowKit

def canRunM (g : MG) : Bool := g.exit.kind == 0 && g.exit.page == 0 && !g.exit.write && g.exit.n == 0 && !g.halted
def takesM (g : MG) : Bool := canRunM g && g.ctl.opn && decide (0 ≤ topI g.pending)
def insAtM (p : List Ins) (pc : Int) : Ins := if 0 ≤ pc ∧ pc < p.length then p.getD pc.toNat ⟨7, 0⟩ else ⟨7, 0⟩
def wantM (g : MG) : Int :=
  if canRunM g then (if takesM g then 1 else
    let op := (insAtM g.prog g.pc).op
    if op == 3 then 3 else if op == 4 then 4 else if op == 5 then 5 else if op == 6 then 6 else if op == 7 then 7 else 2) else 0
def addrM (g : MG) : Int := if wantM g == 3 || wantM g == 4 then (insAtM g.prog g.pc).x else -1

theorem takesM_eq (g : GV) : takesM g.m = (canRunM g.m && g.ctl.opn && decide (0 ≤ topI g.pending)) := rfl
/-- The box of a guest that was just laid, behind a call. -/
theorem bx_call {w w1 : World} {g : GV} {t : TypeId} (hb : Below (w.alloc (.cells (garr g) t)).heap.size (w.alloc (.cells (garr g) t)) w1) : Bx w1 w.heap.size (garr g) ∧ Below w.heap.size w w1 :=
  ⟨(Bx.new w _ _).below hb (by simp), ((Below.refl _ _).alloc (Nat.le_refl _) _).trans (hb.mono (by simp))⟩

theorem canRun_any (g : GV) (w : World) : Calls Tryz.prog 182 #[g.val] w fun e w' => e = .returned (.bool (canRunM g.m)) ∧ Below w.heap.size w w' := by
  go_enter Tryz.func182, Tryz.ntmps182
  go_wp2
  all_goals (go_ret; exact ⟨ret_bool (by simp [canRunM, GV.m, *]), (Below.refl _ _).alloc (Nat.le_refl _) _⟩)
theorem specCanRun_any (g : GV) (w : World) : Calls Tryz.prog 25 #[g.val] w fun e w' => e = .returned (.bool (canRunM g.m)) ∧ Below w.heap.size w w' := by
  go_enter Tryz.func25, Tryz.ntmps25
  go_wp2
  all_goals (go_ret; exact ⟨ret_bool (by simp [canRunM, GV.m, *]), (Below.refl _ _).alloc (Nat.le_refl _) _⟩)

theorem takesIrq_any (g : GV) (w : World) : Calls Tryz.prog 183 #[g.val] w fun e w' => e = .returned (.bool (takesM g.m)) ∧ Below w.heap.size w w' := by
  go_enter Tryz.func183, Tryz.ntmps183
  go_wp2_with (first | (go_at_call 182; refine (canRun_any g _).mono ?_; rintro e w1 ⟨rfl, hb1⟩; obtain ⟨b1, B1⟩ := bx_call hb1; have bc := b1.c; clear hb1) | (go_at_call 217; refine (topIrq_any _ _).mono ?_; rintro e w' ⟨rfl, rfl⟩))
  all_goals (go_ret; refine ⟨ret_bool ?_, B1⟩; rw [takesM_eq]; simp [*])
theorem specTakesIrq_any (g : GV) (w : World) : Calls Tryz.prog 175 #[g.val] w fun e w' => e = .returned (.bool (takesM g.m)) ∧ Below w.heap.size w w' := by
  go_enter Tryz.func175, Tryz.ntmps175
  go_wp2_with (first | (go_at_call 25; refine (specCanRun_any g _).mono ?_; rintro e w1 ⟨rfl, hb1⟩; obtain ⟨b1, B1⟩ := bx_call hb1; have bc := b1.c; clear hb1) | (go_at_call 216; refine (specTop_any _ _).mono ?_; rintro e w' ⟨rfl, rfl⟩))
  all_goals (go_ret; refine ⟨ret_bool ?_, B1⟩; rw [takesM_eq]; simp [*])

/-- Whether k is an index of a list of n. -/
def hasB (k : Int) (n : Int) : Bool := decide (0 ≤ k) && decide (k < n)
theorem has_any (x a : Int) (w : World) : Calls Tryz.prog 133 #[.int .i64 x, .int .i64 a] w fun e w' => e = .returned (.bool (hasB x a)) ∧ w = w' := by
  go_enter Tryz.func133, Tryz.ntmps133
  go_wp2
  all_goals (go_ret; refine ⟨?_, rfl⟩; simp [hasB, *])
  all_goals omega

theorem insAt_any (s : Sl Ins) (pc : Int) (w : World) (hs : Rd Ins.cells 2 w s) (hl : s.xs.length ≤ big) : Calls Tryz.prog 115 #[.slice s.A s.xs.length s.c, .int .i64 pc] w fun e w' => e = .returned (insAtM s.xs pc).val ∧ Below w.heap.size w w' := by
  unfold big at hl
  by_cases hp : 0 ≤ pc ∧ pc < s.xs.length
  · have hh : hasB pc s.xs.length = true := by simp [hasB, hp]
    obtain ⟨k, rfl⟩ := Int.eq_ofNat_of_zero_le hp.1
    obtain ⟨x, b, o, hA, hb, hx, hc0, hc1⟩ := hs.ins (k := k) (by omega)
    have HM : Hid (insAtM s.xs k = x) := by show insAtM s.xs k = x; unfold insAtM; rw [if_pos hp]; simp [hx]
    have hk : k < s.xs.length := by omega
    obtain ⟨A, c, xs⟩ := s
    simp only at hA hk hh HM hl ⊢
    subst hA
    clear hx hp hs
    go_enter Tryz.func115, Tryz.ntmps115
    go_wp2_with (go_at_call 133; refine (has_any _ _ _).mono ?_; rintro e w' ⟨rfl, rfl⟩)
    refine bodyPost_ret (v := x.val) (by simp [results, Tryz.results115, go_sem]) rfl ⟨by rw [HM.out], ?_⟩
    repeat (first | exact Below.refl _ _ | refine Below.setCell ?_ (Nat.le_refl _) _ | refine Below.alloc ?_ (Nat.le_refl _) _)
  · have hh : hasB pc s.xs.length = false := by simp [hasB]; omega
    have HM : Hid (insAtM s.xs pc = ⟨7, 0⟩) := by show insAtM s.xs pc = _; unfold insAtM; rw [if_neg hp]
    clear hp
    go_enter Tryz.func115, Tryz.ntmps115
    go_wp2_with (go_at_call 133; refine (has_any _ _ _).mono ?_; rintro e w' ⟨rfl, rfl⟩)
    refine bodyPost_ret (v := (⟨7, 0⟩ : Ins).val) (by simp [results, Tryz.results115, go_sem]) rfl ⟨by rw [HM.out], ?_⟩
    repeat (first | exact Below.refl _ _ | refine Below.setCell ?_ (Nat.le_refl _) _ | refine Below.alloc ?_ (Nat.le_refl _) _)
theorem specInsAt_any (s : Sl Ins) (pc : Int) (w : World) (hs : Rd Ins.cells 2 w s) (hl : s.xs.length ≤ big) : Calls Tryz.prog 109 #[.slice s.A s.xs.length s.c, .int .i64 pc] w fun e w' => e = .returned (insAtM s.xs pc).val ∧ Below w.heap.size w w' := by
  unfold big at hl
  by_cases hp : 0 ≤ pc ∧ pc < s.xs.length
  · have hh : inB pc 0 ((s.xs.length : Int) - 1) = true := by simp [inB, hp]; omega
    obtain ⟨k, rfl⟩ := Int.eq_ofNat_of_zero_le hp.1
    obtain ⟨x, b, o, hA, hb, hx, hc0, hc1⟩ := hs.ins (k := k) (by omega)
    have HM : Hid (insAtM s.xs k = x) := by show insAtM s.xs k = x; unfold insAtM; rw [if_pos hp]; simp [hx]
    have hk : k < s.xs.length := by omega
    obtain ⟨A, c, xs⟩ := s
    simp only at hA hk hh HM hl ⊢
    subst hA
    clear hx hp hs
    go_enter Tryz.func109, Tryz.ntmps109
    go_wp2_with (go_at_call 78; refine (in_any _ _ _ _).mono ?_; rintro e w' ⟨rfl, rfl⟩)
    refine bodyPost_ret (v := x.val) (by simp [results, Tryz.results109, go_sem]) rfl ⟨by rw [HM.out], ?_⟩
    repeat (first | exact Below.refl _ _ | refine Below.setCell ?_ (Nat.le_refl _) _ | refine Below.alloc ?_ (Nat.le_refl _) _)
  · have hh : inB pc 0 ((s.xs.length : Int) - 1) = false := by simp [inB]; omega
    have HM : Hid (insAtM s.xs pc = ⟨7, 0⟩) := by show insAtM s.xs pc = _; unfold insAtM; rw [if_neg hp]
    clear hp
    go_enter Tryz.func109, Tryz.ntmps109
    go_wp2_with (go_at_call 78; refine (in_any _ _ _ _).mono ?_; rintro e w' ⟨rfl, rfl⟩)
    refine bodyPost_ret (v := (⟨7, 0⟩ : Ins).val) (by simp [results, Tryz.results109, go_sem]) rfl ⟨by rw [HM.out], ?_⟩
    repeat (first | exact Below.refl _ _ | refine Below.setCell ?_ (Nat.le_refl _) _ | refine Below.alloc ?_ (Nat.le_refl _) _)

end Go.Proofs.YtaafnenmdombiaaGreat
