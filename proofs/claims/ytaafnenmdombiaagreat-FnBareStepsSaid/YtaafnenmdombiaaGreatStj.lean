/- Contracts of BareStep, of the program and of the reference. No condition but that the arguments lie in memory. -/
import Derived.Test.YtaafnenmdombiaaGreatSta
import Derived.Test.YtaafnenmdombiaaGreatStc
import Derived.Test.YtaafnenmdombiaaGreatStf
import Derived.Test.YtaafnenmdombiaaGreatSth
namespace Go.Proofs.YtaafnenmdombiaaGreat
set_option linter.unusedSimpArgs false
set_option linter.unusedVariables false
open Go.RowKit
theorem wgS_size (m : MB) (g : Int) (x : MG) : (withGuestM m g x).size ≤ m.size + x.size := by
  unfold withGuestM; split
  · have h : ∀ (l : List MG) (k : Nat), ((l.set k x).map MG.size).sum ≤ (l.map MG.size).sum + x.size := by
      intro l
      induction l with
      | nil => intro k; simp
      | cons y l ih => intro k; cases k with
        | zero => simp; omega
        | succ k => have := ih k; simp only [List.set_cons_succ, List.map_cons, List.sum_cons]; omega
    have h1 := h m.guests g.toNat
    unfold MB.size gsSize
    simp only [List.length_set]
    omega
  · omega
theorem sawS_size (m : MG) (n : Int) : (sawM m n).size ≤ m.size + 1 := by
  unfold sawM; split
  · unfold MG.size; simp; omega
  · omega
theorem plainlyS_size (m : MG) : (plainlyM m).size = m.size := by
  unfold plainlyM; repeat' split
  all_goals rfl
theorem interruptedS_size (m : MG) : (interruptedM m).size ≤ m.size + 1 := by
  unfold interruptedM; split
  · exact sawS_size { m with pending := tookI m.pending } _
  · omega
theorem loadedS_size (m : MG) (v : Int) : (loadedM m v).size ≤ m.size + 1 := sawS_size { m with a := v } v
theorem stepW_size {m : MB} {g : Int} {x : MG} (h : x.size ≤ m.size) : (stepWM m g x (wantM x)).size ≤ 2 * m.size + 2 := by
  have h1 := interruptedS_size x
  have h2 := plainlyS_size x
  have hp : ∀ n, (putOutM m n).size ≤ m.size + 1 := putOutS_size m
  unfold stepWM memStepM
  repeat' split
  all_goals refine Nat.le_trans (wgS_size _ _ _) ?_
  all_goals first
    | omega
    | (have : (movedM x).size = x.size := rfl; rw [stS_size]; omega)
    | (have h3 := loadedS_size x (cellAtM m.memory (walkPageM x.live (addrPageM (addrM x)) 1) (addrCellM (addrM x))); omega)
    | (have : ∀ e, (stoppedM x e).size = x.size := fun _ => rfl; rw [this]; omega)
    | (have : (movedM x).size = x.size := rfl; have := hp (insAtM x.prog x.pc).x; omega)
    | (have : (heldM x).size = x.size := rfl; omega)
theorem stepM_size (m : MB) (g : Int) : (stepM m g).size ≤ m.size ∨ (stepM m g).size ≤ 1000 := by
  unfold stepM; split
  · rename_i h
    unfold stepOkM at h; simp only [Bool.and_eq_true] at h
    have h1 := bareOk_size h.1.1
    have h2 := stepW_size (m := m) (g := g) (gAtM_size m g)
    right; omega
  · left; exact Nat.le_refl _
theorem step_eq {m : MB} {g n : Int} (h1 : bareOkM m = true) (h2 : hasM m g = true) (hw : wantM (gAtM m g) = n) (hn : (n == 0) = false) : stepOkM m g = true ∧ stepM m g = stepWM m g (gAtM m g) n := by
  have h : stepOkM m g = true := by unfold stepOkM; rw [h1, h2, hw, hn]; rfl
  refine ⟨h, ?_⟩
  unfold stepM; rw [if_pos h, hw]
theorem step_no {m : MB} {g : Int} (h : stepOkM m g = false) : stepM m g = m := by unfold stepM; rw [h]; rfl
set_option maxRecDepth 100000 in
set_option maxHeartbeats 4000000 in
theorem bareStep_c (B : BV) (g : Int) (W0 : World) (R : BRd W0 B) (Z : BBig B) : Calls Tryz.prog 24 #[B.val, .int .i64 g] W0 fun e w' => ∃ d : BV, e = .returned (.tuple #[d.val, .bool (stepOkM B.m g)]) ∧ d.m = stepM B.m g ∧ Hp W0 w' [.bare d] := by
  cases e1 : bareOkM B.m
  · skip
    have hs : stepOkM B.m g = false := by unfold stepOkM; rw [e1]; rfl
    rw [hs, step_no hs]
    exact bareStep_n1 B g e1 W0 R Z
  cases e2 : hasM B.m g
  · skip
    have hs : stepOkM B.m g = false := by unfold stepOkM; rw [e1, e2]; rfl
    rw [hs, step_no hs]
    exact bareStep_n2 B g e1 e2 W0 R Z
  rcases want_cases (gAtM B.m g) with hw | hw | hw | hw | hw | hw | hw | hw
  · skip
    have hs : stepOkM B.m g = false := by unfold stepOkM; rw [e1, e2, hw]; rfl
    rw [hs, step_no hs]
    exact bareStep_n3 B g e1 e2 hw W0 R Z
  · obtain ⟨s1, s2⟩ := step_eq e1 e2 hw rfl
    rw [s1, s2]
    exact bareStep_1 B g e1 e2 hw W0 R Z
  · obtain ⟨s1, s2⟩ := step_eq e1 e2 hw rfl
    rw [s1, s2]
    exact bareStep_2 B g e1 e2 hw W0 R Z
  · obtain ⟨s1, s2⟩ := step_eq e1 e2 hw rfl
    rw [s1, s2]
    cases hk : walkOkM (gAtM B.m g).live (addrPageM (addrM (gAtM B.m g))) 1
    · have e : stepWM B.m g (gAtM B.m g) 3 = withGuestM B.m g (stoppedM (gAtM B.m g) ⟨1, addrPageM (addrM (gAtM B.m g)), false, 0⟩) := by
        show memStepM B.m g (gAtM B.m g) false (addrM (gAtM B.m g)) = _
        unfold memStepM; exact if_neg (by show ¬ walkOkM _ _ 1 = true; rw [hk]; simp)
      rw [e]
      exact bareStep_3f B g e1 e2 hw hk W0 R Z
    · have e : stepWM B.m g (gAtM B.m g) 3 = _ := show memStepM B.m g (gAtM B.m g) false (addrM (gAtM B.m g)) = _ from if_pos hk
      rw [e]
      exact bareStep_3t B g e1 e2 hw hk W0 R Z
  · obtain ⟨s1, s2⟩ := step_eq e1 e2 hw rfl
    rw [s1, s2]
    cases hk : walkOkM (gAtM B.m g).live (addrPageM (addrM (gAtM B.m g))) 2
    · have e : stepWM B.m g (gAtM B.m g) 4 = withGuestM B.m g (stoppedM (gAtM B.m g) ⟨1, addrPageM (addrM (gAtM B.m g)), true, 0⟩) := by
        show memStepM B.m g (gAtM B.m g) true (addrM (gAtM B.m g)) = _
        unfold memStepM; exact if_neg (by show ¬ walkOkM _ _ 2 = true; rw [hk]; simp)
      rw [e]
      exact bareStep_4f B g e1 e2 hw hk W0 R Z
    · have e : stepWM B.m g (gAtM B.m g) 4 = _ := show memStepM B.m g (gAtM B.m g) true (addrM (gAtM B.m g)) = _ from if_pos hk
      rw [e]
      exact bareStep_4t B g e1 e2 hw hk W0 R Z
  · obtain ⟨s1, s2⟩ := step_eq e1 e2 hw rfl
    rw [s1, s2]
    cases ht : hasTrapM (gAtM B.m g).ctl.traps 1
    · have e : stepWM B.m g (gAtM B.m g) 5 = withGuestM (putOutM B.m (insAtM (gAtM B.m g).prog (gAtM B.m g).pc).x) g (movedM (gAtM B.m g)) := by show (if hasTrapM (gAtM B.m g).ctl.traps 1 = true then _ else _) = _; rw [ht]; rfl
      rw [e]
      exact bareStep_5f B g e1 e2 hw ht W0 R Z
    · have e : stepWM B.m g (gAtM B.m g) 5 = withGuestM B.m g (stoppedM (gAtM B.m g) ⟨3, 0, false, (insAtM (gAtM B.m g).prog (gAtM B.m g).pc).x⟩) := by show (if hasTrapM (gAtM B.m g).ctl.traps 1 = true then _ else _) = _; rw [ht]; rfl
      rw [e]
      exact bareStep_5t B g e1 e2 hw ht W0 R Z
  · obtain ⟨s1, s2⟩ := step_eq e1 e2 hw rfl
    rw [s1, s2]
    exact bareStep_6 B g e1 e2 hw W0 R Z
  · obtain ⟨s1, s2⟩ := step_eq e1 e2 hw rfl
    rw [s1, s2]
    cases ht : hasTrapM (gAtM B.m g).ctl.traps 2
    · have e : stepWM B.m g (gAtM B.m g) 7 = withGuestM B.m g (heldM (gAtM B.m g)) := by show (if hasTrapM (gAtM B.m g).ctl.traps 2 = true then _ else _) = _; rw [ht]; rfl
      rw [e]
      exact bareStep_7f B g e1 e2 hw ht W0 R Z
    · have e : stepWM B.m g (gAtM B.m g) 7 = withGuestM B.m g (stoppedM (gAtM B.m g) ⟨4, 0, false, 0⟩) := by show (if hasTrapM (gAtM B.m g).ctl.traps 2 = true then _ else _) = _; rw [ht]; rfl
      rw [e]
      exact bareStep_7t B g e1 e2 hw ht W0 R Z
set_option maxRecDepth 100000 in
set_option maxHeartbeats 4000000 in
theorem specBareStep_c (B : BV) (g : Int) (W0 : World) (R : BRd W0 B) (Z : BBig B) : Calls Tryz.prog 22 #[B.val, .int .i64 g] W0 fun e w' => ∃ d : BV, e = .returned (.tuple #[d.val, .bool (stepOkM B.m g)]) ∧ d.m = stepM B.m g ∧ Hp W0 w' [.bare d] := by
  cases e2 : hasM B.m g
  · skip
    have hs : stepOkM B.m g = false := by unfold stepOkM; rw [e2, Bool.and_false]; rfl
    rw [hs, step_no hs]
    exact specBareStep_n1 B g e2 W0 R Z
  cases e1 : bareOkM B.m
  · skip
    have hs : stepOkM B.m g = false := by unfold stepOkM; rw [e1]; rfl
    rw [hs, step_no hs]
    exact specBareStep_n2 B g e2 e1 W0 R Z
  rcases want_cases (gAtM B.m g) with hw | hw | hw | hw | hw | hw | hw | hw
  · skip
    have hs : stepOkM B.m g = false := by unfold stepOkM; rw [e1, e2, hw]; rfl
    rw [hs, step_no hs]
    exact specBareStep_n3 B g e1 e2 hw W0 R Z
  · obtain ⟨s1, s2⟩ := step_eq e1 e2 hw rfl
    rw [s1, s2]
    exact specBareStep_1 B g e1 e2 hw W0 R Z
  · obtain ⟨s1, s2⟩ := step_eq e1 e2 hw rfl
    rw [s1, s2]
    exact specBareStep_2 B g e1 e2 hw W0 R Z
  · obtain ⟨s1, s2⟩ := step_eq e1 e2 hw rfl
    rw [s1, s2]
    cases hk : walkOkM (gAtM B.m g).live (addrPageM (addrM (gAtM B.m g))) 1
    · have e : stepWM B.m g (gAtM B.m g) 3 = withGuestM B.m g (stoppedM (gAtM B.m g) ⟨1, addrPageM (addrM (gAtM B.m g)), false, 0⟩) := by
        show memStepM B.m g (gAtM B.m g) false (addrM (gAtM B.m g)) = _
        unfold memStepM; exact if_neg (by show ¬ walkOkM _ _ 1 = true; rw [hk]; simp)
      rw [e]
      exact specBareStep_3f B g e1 e2 hw hk W0 R Z
    · have e : stepWM B.m g (gAtM B.m g) 3 = _ := show memStepM B.m g (gAtM B.m g) false (addrM (gAtM B.m g)) = _ from if_pos hk
      rw [e]
      exact specBareStep_3t B g e1 e2 hw hk W0 R Z
  · obtain ⟨s1, s2⟩ := step_eq e1 e2 hw rfl
    rw [s1, s2]
    cases hk : walkOkM (gAtM B.m g).live (addrPageM (addrM (gAtM B.m g))) 2
    · have e : stepWM B.m g (gAtM B.m g) 4 = withGuestM B.m g (stoppedM (gAtM B.m g) ⟨1, addrPageM (addrM (gAtM B.m g)), true, 0⟩) := by
        show memStepM B.m g (gAtM B.m g) true (addrM (gAtM B.m g)) = _
        unfold memStepM; exact if_neg (by show ¬ walkOkM _ _ 2 = true; rw [hk]; simp)
      rw [e]
      exact specBareStep_4f B g e1 e2 hw hk W0 R Z
    · have e : stepWM B.m g (gAtM B.m g) 4 = _ := show memStepM B.m g (gAtM B.m g) true (addrM (gAtM B.m g)) = _ from if_pos hk
      rw [e]
      exact specBareStep_4t B g e1 e2 hw hk W0 R Z
  · obtain ⟨s1, s2⟩ := step_eq e1 e2 hw rfl
    rw [s1, s2]
    cases ht : hasTrapM (gAtM B.m g).ctl.traps 1
    · have e : stepWM B.m g (gAtM B.m g) 5 = withGuestM (putOutM B.m (insAtM (gAtM B.m g).prog (gAtM B.m g).pc).x) g (movedM (gAtM B.m g)) := by show (if hasTrapM (gAtM B.m g).ctl.traps 1 = true then _ else _) = _; rw [ht]; rfl
      rw [e]
      exact specBareStep_5f B g e1 e2 hw ht W0 R Z
    · have e : stepWM B.m g (gAtM B.m g) 5 = withGuestM B.m g (stoppedM (gAtM B.m g) ⟨3, 0, false, (insAtM (gAtM B.m g).prog (gAtM B.m g).pc).x⟩) := by show (if hasTrapM (gAtM B.m g).ctl.traps 1 = true then _ else _) = _; rw [ht]; rfl
      rw [e]
      exact specBareStep_5t B g e1 e2 hw ht W0 R Z
  · obtain ⟨s1, s2⟩ := step_eq e1 e2 hw rfl
    rw [s1, s2]
    exact specBareStep_6 B g e1 e2 hw W0 R Z
  · obtain ⟨s1, s2⟩ := step_eq e1 e2 hw rfl
    rw [s1, s2]
    cases ht : hasTrapM (gAtM B.m g).ctl.traps 2
    · have e : stepWM B.m g (gAtM B.m g) 7 = withGuestM B.m g (heldM (gAtM B.m g)) := by show (if hasTrapM (gAtM B.m g).ctl.traps 2 = true then _ else _) = _; rw [ht]; rfl
      rw [e]
      exact specBareStep_7f B g e1 e2 hw ht W0 R Z
    · have e : stepWM B.m g (gAtM B.m g) 7 = withGuestM B.m g (stoppedM (gAtM B.m g) ⟨4, 0, false, 0⟩) := by show (if hasTrapM (gAtM B.m g).ctl.traps 2 = true then _ else _) = _; rw [ht]; rfl
      rw [e]
      exact specBareStep_7t B g e1 e2 hw ht W0 R Z
end Go.Proofs.YtaafnenmdombiaaGreat
