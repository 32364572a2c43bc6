/- Contracts of BareStep, of the program and of the reference. No condition but that the arguments lie in memory. -/
import Derived.Test.YtaafnenmdombiaaGreatSta
import Derived.Test.YtaafnenmdombiaaGreatStc
import Derived.Test.YtaafnenmdombiaaGreatStf
import Derived.Test.YtaafnenmdombiaaGreatSth
namespace Go.Proofs.YtaafnenmdombiaaGreat
set_option linter.unusedSimpArgs false
set_option linter.unusedVariables false
open Go.RowKit
theorem step_eq {m : MB} {g n : Int} (h1 : bareOkM m = true) (h2 : hasM m g = true) (hw : wantM (gAtM m g) = n) (hn : (n == 0) = false) : stepOkM m g = true ∧ stepM m g = stepWM m g (gAtM m g) n := by
  have h : stepOkM m g = true := by unfold stepOkM; rw [h1, h2, hw, hn]; rfl
  refine ⟨h, ?_⟩
  unfold stepM; rw [if_pos h, hw]
theorem step_no {m : MB} {g : Int} (h : stepOkM m g = false) : stepM m g = m := by unfold stepM; rw [h]; rfl
set_option maxRecDepth 100000 in
set_option maxHeartbeats 4000000 in
theorem bareStep_c (B : BV) (g : Int) (W0 : World) (R : BRd W0 B) (Z : BBig B) : Calls Tryz.prog 24 #[B.val, .int .i64 g] W0 fun e w' => ∃ d : BV, e = .returned (.tuple #[d.val, .bool (stepOkM B.m g)]) ∧ d.m = stepM B.m g ∧ Hp W0 w' [.bare d] := by
  cases e1 : bareOkM B.m
  · skip
    have hs : stepOkM B.m g = false := by unfold stepOkM; rw [e1]; rfl
    rw [hs, step_no hs]
    exact bareStep_n1 B g e1 W0 R Z
  cases e2 : hasM B.m g
  · skip
    have hs : stepOkM B.m g = false := by unfold stepOkM; rw [e1, e2]; rfl
    rw [hs, step_no hs]
    exact bareStep_n2 B g e1 e2 W0 R Z
  rcases want_cases (gAtM B.m g) with hw | hw | hw | hw | hw | hw | hw | hw
  · skip
    have hs : stepOkM B.m g = false := by unfold stepOkM; rw [e1, e2, hw]; rfl
    rw [hs, step_no hs]
    exact bareStep_n3 B g e1 e2 hw W0 R Z
  · obtain ⟨s1, s2⟩ := step_eq e1 e2 hw rfl
    rw [s1, s2]
    exact bareStep_1 B g e1 e2 hw W0 R Z
  · obtain ⟨s1, s2⟩ := step_eq e1 e2 hw rfl
    rw [s1, s2]
    exact bareStep_2 B g e1 e2 hw W0 R Z
  · obtain ⟨s1, s2⟩ := step_eq e1 e2 hw rfl
    rw [s1, s2]
    cases hk : walkOkM (gAtM B.m g).live (addrPageM (addrM (gAtM B.m g))) 1
    · have e : stepWM B.m g (gAtM B.m g) 3 = withGuestM B.m g (stoppedM (gAtM B.m g) ⟨1, addrPageM (addrM (gAtM B.m g)), false, 0⟩) := by
        show memStepM B.m g (gAtM B.m g) false (addrM (gAtM B.m g)) = _
        unfold memStepM; exact if_neg (by show ¬ walkOkM _ _ 1 = true; rw [hk]; simp)
      rw [e]
      exact bareStep_3f B g e1 e2 hw hk W0 R Z
    · have e : stepWM B.m g (gAtM B.m g) 3 = _ := show memStepM B.m g (gAtM B.m g) false (addrM (gAtM B.m g)) = _ from if_pos hk
      rw [e]
      exact bareStep_3t B g e1 e2 hw hk W0 R Z
  · obtain ⟨s1, s2⟩ := step_eq e1 e2 hw rfl
    rw [s1, s2]
    cases hk : walkOkM (gAtM B.m g).live (addrPageM (addrM (gAtM B.m g))) 2
    · have e : stepWM B.m g (gAtM B.m g) 4 = withGuestM B.m g (stoppedM (gAtM B.m g) ⟨1, addrPageM (addrM (gAtM B.m g)), true, 0⟩) := by
        show memStepM B.m g (gAtM B.m g) true (addrM (gAtM B.m g)) = _
        unfold memStepM; exact if_neg (by show ¬ walkOkM _ _ 2 = true; rw [hk]; simp)
      rw [e]
      exact bareStep_4f B g e1 e2 hw hk W0 R Z
    · have e : stepWM B.m g (gAtM B.m g) 4 = _ := show memStepM B.m g (gAtM B.m g) true (addrM (gAtM B.m g)) = _ from if_pos hk
      rw [e]
      exact bareStep_4t B g e1 e2 hw hk W0 R Z
  · obtain ⟨s1, s2⟩ := step_eq e1 e2 hw rfl
    rw [s1, s2]
    cases ht : hasTrapM (gAtM B.m g).ctl.traps 1
    · have e : stepWM B.m g (gAtM B.m g) 5 = withGuestM (putOutM B.m (insAtM (gAtM B.m g).prog (gAtM B.m g).pc).x) g (movedM (gAtM B.m g)) := by show (if hasTrapM (gAtM B.m g).ctl.traps 1 = true then _ else _) = _; rw [ht]; rfl
      rw [e]
      exact bareStep_5f B g e1 e2 hw ht W0 R Z
    · have e : stepWM B.m g (gAtM B.m g) 5 = withGuestM B.m g (stoppedM (gAtM B.m g) ⟨3, 0, false, (insAtM (gAtM B.m g).prog (gAtM B.m g).pc).x⟩) := by show (if hasTrapM (gAtM B.m g).ctl.traps 1 = true then _ else _) = _; rw [ht]; rfl
      rw [e]
      exact bareStep_5t B g e1 e2 hw ht W0 R Z
  · obtain ⟨s1, s2⟩ := step_eq e1 e2 hw rfl
    rw [s1, s2]
    exact bareStep_6 B g e1 e2 hw W0 R Z
  · obtain ⟨s1, s2⟩ := step_eq e1 e2 hw rfl
    rw [s1, s2]
    cases ht : hasTrapM (gAtM B.m g).ctl.traps 2
    · have e : stepWM B.m g (gAtM B.m g) 7 = withGuestM B.m g (heldM (gAtM B.m g)) := by show (if hasTrapM (gAtM B.m g).ctl.traps 2 = true then _ else _) = _; rw [ht]; rfl
      rw [e]
      exact bareStep_7f B g e1 e2 hw ht W0 R Z
    · have e : stepWM B.m g (gAtM B.m g) 7 = withGuestM B.m g (stoppedM (gAtM B.m g) ⟨4, 0, false, 0⟩) := by show (if hasTrapM (gAtM B.m g).ctl.traps 2 = true then _ else _) = _; rw [ht]; rfl
      rw [e]
      exact bareStep_7t B g e1 e2 hw ht W0 R Z
set_option maxRecDepth 100000 in
set_option maxHeartbeats 4000000 in
theorem specBareStep_c (B : BV) (g : Int) (W0 : World) (R : BRd W0 B) (Z : BBig B) : Calls Tryz.prog 22 #[B.val, .int .i64 g] W0 fun e w' => ∃ d : BV, e = .returned (.tuple #[d.val, .bool (stepOkM B.m g)]) ∧ d.m = stepM B.m g ∧ Hp W0 w' [.bare d] := by
  cases e2 : hasM B.m g
  · skip
    have hs : stepOkM B.m g = false := by unfold stepOkM; rw [e2, Bool.and_false]; rfl
    rw [hs, step_no hs]
    exact specBareStep_n1 B g e2 W0 R Z
  cases e1 : bareOkM B.m
  · skip
    have hs : stepOkM B.m g = false := by unfold stepOkM; rw [e1]; rfl
    rw [hs, step_no hs]
    exact specBareStep_n2 B g e2 e1 W0 R Z
  rcases want_cases (gAtM B.m g) with hw | hw | hw | hw | hw | hw | hw | hw
  · skip
    have hs : stepOkM B.m g = false := by unfold stepOkM; rw [e1, e2, hw]; rfl
    rw [hs, step_no hs]
    exact specBareStep_n3 B g e1 e2 hw W0 R Z
  · obtain ⟨s1, s2⟩ := step_eq e1 e2 hw rfl
    rw [s1, s2]
    exact specBareStep_1 B g e1 e2 hw W0 R Z
  · obtain ⟨s1, s2⟩ := step_eq e1 e2 hw rfl
    rw [s1, s2]
    exact specBareStep_2 B g e1 e2 hw W0 R Z
  · obtain ⟨s1, s2⟩ := step_eq e1 e2 hw rfl
    rw [s1, s2]
    cases hk : walkOkM (gAtM B.m g).live (addrPageM (addrM (gAtM B.m g))) 1
    · have e : stepWM B.m g (gAtM B.m g) 3 = withGuestM B.m g (stoppedM (gAtM B.m g) ⟨1, addrPageM (addrM (gAtM B.m g)), false, 0⟩) := by
        show memStepM B.m g (gAtM B.m g) false (addrM (gAtM B.m g)) = _
        unfold memStepM; exact if_neg (by show ¬ walkOkM _ _ 1 = true; rw [hk]; simp)
      rw [e]
      exact specBareStep_3f B g e1 e2 hw hk W0 R Z
    · have e : stepWM B.m g (gAtM B.m g) 3 = _ := show memStepM B.m g (gAtM B.m g) false (addrM (gAtM B.m g)) = _ from if_pos hk
      rw [e]
      exact specBareStep_3t B g e1 e2 hw hk W0 R Z
  · obtain ⟨s1, s2⟩ := step_eq e1 e2 hw rfl
    rw [s1, s2]
    cases hk : walkOkM (gAtM B.m g).live (addrPageM (addrM (gAtM B.m g))) 2
    · have e : stepWM B.m g (gAtM B.m g) 4 = withGuestM B.m g (stoppedM (gAtM B.m g) ⟨1, addrPageM (addrM (gAtM B.m g)), true, 0⟩) := by
        show memStepM B.m g (gAtM B.m g) true (addrM (gAtM B.m g)) = _
        unfold memStepM; exact if_neg (by show ¬ walkOkM _ _ 2 = true; rw [hk]; simp)
      rw [e]
      exact specBareStep_4f B g e1 e2 hw hk W0 R Z
    · have e : stepWM B.m g (gAtM B.m g) 4 = _ := show memStepM B.m g (gAtM B.m g) true (addrM (gAtM B.m g)) = _ from if_pos hk
      rw [e]
      exact specBareStep_4t B g e1 e2 hw hk W0 R Z
  · obtain ⟨s1, s2⟩ := step_eq e1 e2 hw rfl
    rw [s1, s2]
    cases ht : hasTrapM (gAtM B.m g).ctl.traps 1
    · have e : stepWM B.m g (gAtM B.m g) 5 = withGuestM (putOutM B.m (insAtM (gAtM B.m g).prog (gAtM B.m g).pc).x) g (movedM (gAtM B.m g)) := by show (if hasTrapM (gAtM B.m g).ctl.traps 1 = true then _ else _) = _; rw [ht]; rfl
      rw [e]
      exact specBareStep_5f B g e1 e2 hw ht W0 R Z
    · have e : stepWM B.m g (gAtM B.m g) 5 = withGuestM B.m g (stoppedM (gAtM B.m g) ⟨3, 0, false, (insAtM (gAtM B.m g).prog (gAtM B.m g).pc).x⟩) := by show (if hasTrapM (gAtM B.m g).ctl.traps 1 = true then _ else _) = _; rw [ht]; rfl
      rw [e]
      exact specBareStep_5t B g e1 e2 hw ht W0 R Z
  · obtain ⟨s1, s2⟩ := step_eq e1 e2 hw rfl
    rw [s1, s2]
    exact specBareStep_6 B g e1 e2 hw W0 R Z
  · obtain ⟨s1, s2⟩ := step_eq e1 e2 hw rfl
    rw [s1, s2]
    cases ht : hasTrapM (gAtM B.m g).ctl.traps 2
    · have e : stepWM B.m g (gAtM B.m g) 7 = withGuestM B.m g (heldM (gAtM B.m g)) := by show (if hasTrapM (gAtM B.m g).ctl.traps 2 = true then _ else _) = _; rw [ht]; rfl
      rw [e]
      exact specBareStep_7f B g e1 e2 hw ht W0 R Z
    · have e : stepWM B.m g (gAtM B.m g) 7 = withGuestM B.m g (stoppedM (gAtM B.m g) ⟨4, 0, false, 0⟩) := by show (if hasTrapM (gAtM B.m g).ctl.traps 2 = true then _ else _) = _; rw [ht]; rfl
      rw [e]
      exact specBareStep_7t B g e1 e2 hw ht W0 R Z
end Go.Proofs.YtaafnenmdombiaaGreat
