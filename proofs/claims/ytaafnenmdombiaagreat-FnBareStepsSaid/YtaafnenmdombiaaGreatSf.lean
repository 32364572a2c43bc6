/- Plain facts of FnBareSteps: what a step leaves. No condition. -/
import Derived.Test.YtaafnenmdombiaaGreatSt
import Derived.Test.YtaafnenmdombiaaGreatBz
namespace Go.Proofs.YtaafnenmdombiaaGreat
open Go.RowKit
theorem gok_iff (x : MG) : guestOkM x = true ↔ (progOkM x.prog = true ∧ inB x.a 0 99 = true ∧ inB x.pc 0 12 = true ∧ tableOkM 4 8 x.written = true ∧ tableOkM 4 8 x.live = true ∧ ctlOkM x.ctl = true ∧ pendB x.pending = true ∧ exitOkM x.exit = true ∧ x.seen.length ≤ 40) := by
  unfold guestOkM
  simp only [Bool.and_eq_true, decide_eq_true_eq]
  constructor
  · rintro ⟨⟨⟨⟨⟨⟨⟨⟨h1, h2⟩, h3⟩, h4⟩, h5⟩, h6⟩, h7⟩, h8⟩, h9⟩
    exact ⟨h1, h2, h3, h4, h5, h6, h7, h8, by omega⟩
  · rintro ⟨h1, h2, h3, h4, h5, h6, h7, h8, h9⟩
    exact ⟨⟨⟨⟨⟨⟨⟨⟨h1, h2⟩, h3⟩, h4⟩, h5⟩, h6⟩, h7⟩, h8⟩, by omega⟩
theorem wrapS (x : Int) (h0 : -1000000 ≤ x) (h1 : x ≤ 1000000) : wrap64 x = x := by
  have h : IntKind.i64.wrap x = x := by
    simp only [IntKind.wrap, IntKind.bits, IntKind.signed]
    simp; omega
  first | (unfold wrap64; omega) | (rw [IntKind.wrap_i64] at h; exact h) | (rw [← IntKind.wrap_i64]; exact h) | (simpa using h)
theorem moved_ok {x : MG} (h : guestOkM x = true) : guestOkM (movedM x) = true := by
  rw [gok_iff] at h ⊢
  obtain ⟨h1, h2, h3, h4, h5, h6, h7, h8, h9⟩ := h
  refine ⟨h1, h2, ?_, h4, h5, h6, h7, h8, h9⟩
  rw [inB_iff] at h3 ⊢
  have e : (movedM x).pc = if 12 ≤ x.pc then 12 else wrap64 (x.pc + 1) := by unfold movedM; rfl
  rw [e]
  split
  · omega
  · rw [wrapS _ (by omega) (by omega)]; omega
theorem saw_ok {x : MG} (h : guestOkM x = true) (n : Int) : guestOkM (sawM x n) = true := by
  unfold sawM
  split
  · rename_i hl
    rw [gok_iff] at h ⊢
    obtain ⟨h1, h2, h3, h4, h5, h6, h7, h8, h9⟩ := h
    exact ⟨h1, h2, h3, h4, h5, h6, h7, h8, by simp; omega⟩
  · exact h
theorem setA_ok {x : MG} (h : guestOkM x = true) {v : Int} (hv : inB v 0 99 = true) : guestOkM { x with a := v } = true := by
  rw [gok_iff] at h ⊢
  obtain ⟨h1, h2, h3, h4, h5, h6, h7, h8, h9⟩ := h
  exact ⟨h1, hv, h3, h4, h5, h6, h7, h8, h9⟩
theorem stopped_ok {x : MG} (h : guestOkM x = true) {e : Exit} (he : exitOkM e = true) : guestOkM (stoppedM x e) = true := by
  rw [gok_iff] at h ⊢
  obtain ⟨h1, h2, h3, h4, h5, h6, h7, h8, h9⟩ := h
  exact ⟨h1, h2, h3, h4, h5, h6, h7, he, h9⟩
theorem held_ok {x : MG} (h : guestOkM x = true) : guestOkM (heldM x) = true := by
  refine moved_ok (x := { x with halted := true }) ?_
  rw [gok_iff] at h ⊢
  exact h
theorem loaded_ok {x : MG} (h : guestOkM x = true) {v : Int} (hv : inB v 0 99 = true) : guestOkM (loadedM x v) = true := moved_ok (saw_ok (setA_ok h hv) v)
theorem took_all : (List.range 256).all (fun a => pendB (tookI a)) = true := by decide +kernel
theorem took_ok {p : Int} (h : pendB p = true) : pendB (tookI p) = true := by
  have h2 := (pendB_iff p).1 h
  obtain ⟨a, rfl⟩ := Int.eq_ofNat_of_zero_le h2.1
  exact List.all_eq_true.1 took_all a (List.mem_range.2 (by omega))
theorem interrupted_ok {x : MG} (h : guestOkM x = true) : guestOkM (interruptedM x) = true := by
  unfold interruptedM
  split
  · refine saw_ok ?_ _
    rw [gok_iff] at h ⊢
    obtain ⟨h1, h2, h3, h4, h5, h6, h7, h8, h9⟩ := h
    exact ⟨h1, h2, h3, h4, h5, h6, took_ok h7, h8, h9⟩
  · exact h
theorem ins_ok {p : List Ins} (h : progOkM p = true) (pc : Int) : insOkM (insAtM p pc) = true := by
  unfold progOkM at h
  simp only [Bool.and_eq_true] at h
  unfold insAtM
  split
  · rename_i hp
    have hl : pc.toNat < p.length := by omega
    rw [List.getD_eq_getElem?_getD, List.getElem?_eq_getElem hl]
    exact List.all_eq_true.1 h.1 _ (List.getElem_mem hl)
  · decide
theorem plainly_ok {x : MG} (h : guestOkM x = true) : guestOkM (plainlyM x) = true := by
  have hi := ins_ok ((gok_iff x).1 h).1 x.pc
  unfold plainlyM
  split
  · split
    · rename_i hb
      simp only [Bool.and_eq_true] at hb
      split
      · exact setA_ok (moved_ok h) hb.2
      · split
        · refine setA_ok (moved_ok h) ?_
          rw [inB_iff]; omega
        · split
          · rename_i h8
            have hx : inB (insAtM x.prog x.pc).x 0 11 = true := by
              unfold insOkM at hi
              rw [if_neg (by omega), if_neg (by omega), if_neg (by omega), if_pos h8.1] at hi
              exact hi
            rw [inB_iff] at hx
            rw [gok_iff] at h ⊢
            obtain ⟨h1, h2, h3, h4, h5, h6, h7, h8, h9⟩ := h
            exact ⟨h1, h2, by rw [inB_iff]; show 0 ≤ (insAtM x.prog x.pc).x ∧ (insAtM x.prog x.pc).x ≤ 12; omega, h4, h5, h6, h7, h8, h9⟩
          · exact moved_ok h
    · exact moved_ok h
  · exact h
theorem want_op {x : MG} (h : wantM x = 5 ∨ wantM x = 6) : inB (insAtM x.prog x.pc).x 0 99 = true ∨ ¬ guestOkM x = true := by
  by_cases hg : guestOkM x = true
  · left
    have hi := ins_ok ((gok_iff x).1 hg).1 x.pc
    have hop : (insAtM x.prog x.pc).op = 5 ∨ (insAtM x.prog x.pc).op = 6 := by
      unfold wantM at h
      simp only at h
      repeat' split at h
      all_goals simp_all
    unfold insOkM at hi
    rw [if_pos (by omega)] at hi
    exact hi
  · right; exact hg
theorem mem_cell {M : List (List Int)} (h : memOkM 8 M = true) (p c : Int) : inB (cellAtM M p c) 0 99 = true := by
  unfold cellAtM
  split
  · rename_i hc
    unfold cellOkM hasB at hc
    simp only [Bool.and_eq_true, decide_eq_true_eq] at hc
    unfold memOkM at h
    simp only [Bool.and_eq_true] at h
    have hp : p.toNat < M.length := by omega
    have hr : rowM M p = M[p.toNat] := by unfold rowM; rw [List.getElem?_eq_getElem hp]; rfl
    rw [hr] at hc ⊢
    have h2 := List.all_eq_true.1 h.1 _ (List.getElem_mem hp)
    unfold pageOkM at h2
    simp only [Bool.and_eq_true] at h2
    have hcl : c.toNat < (M[p.toNat]).length := by omega
    rw [List.getElem?_eq_getElem hcl]
    exact List.all_eq_true.1 h2.1 _ (List.getElem_mem hcl)
  · decide
theorem all_set {α : Type} {f : α → Bool} {l : List α} (h : l.all f = true) (k : Nat) {x : α} (hx : f x = true) : (l.set k x).all f = true := by
  rw [List.all_eq_true]
  intro y hy
  rcases List.mem_or_eq_of_mem_set hy with hy | hy
  · exact List.all_eq_true.1 h y hy
  · rw [hy]; exact hx
theorem mem_with {M : List (List Int)} (h : memOkM 8 M = true) (p c v : Int) : memOkM 8 (withCellM M p c v) = true := by
  unfold withCellM
  split
  · rename_i hc
    simp only [Bool.and_eq_true] at hc
    have hc1 := hc.1
    unfold cellOkM hasB at hc1
    simp only [Bool.and_eq_true, decide_eq_true_eq] at hc1
    unfold memOkM at h ⊢
    simp only [Bool.and_eq_true, decide_eq_true_eq] at h ⊢
    have hp : p.toNat < M.length := by omega
    have hr : rowM M p = M[p.toNat] := by unfold rowM; rw [List.getElem?_eq_getElem hp]; rfl
    have h2 := List.all_eq_true.1 h.1 _ (List.getElem_mem hp)
    refine ⟨all_set h.1 _ ?_, by rw [List.length_set]; exact h.2⟩
    rw [hr]
    unfold pageOkM at h2 ⊢
    simp only [Bool.and_eq_true, decide_eq_true_eq] at h2 ⊢
    exact ⟨all_set h2.1 _ hc.2, by rw [List.length_set]; exact h2.2⟩
  · exact h
theorem slot_mem {t : List Slot} {p n : Int} (h : walkOkM t p n = true) : ∃ s ∈ t, s.page = walkPageM t p n ∧ enoughM s.rights n = true := by
  have h0 := h
  unfold walkOkM at h
  simp only [Bool.and_eq_true, Bool.not_eq_true', beq_eq_false_iff_ne] at h
  have hp : (slotAtM t p).page ≠ -1 := h.1.1
  have hm : slotAtM t p ∈ t := by
    unfold slotAtM at hp ⊢
    split
    · rename_i hb
      unfold hasB at hb
      simp only [Bool.and_eq_true, decide_eq_true_eq] at hb
      have hl : p.toNat < t.length := by omega
      rw [List.getElem?_eq_getElem hl]
      exact List.getElem_mem hl
    · rename_i hb
      rw [if_neg hb] at hp
      exact absurd rfl hp
  exact ⟨slotAtM t p, hm, by unfold walkPageM; rw [if_pos h0], h.1.2⟩
theorem with_other {M : List (List Int)} {q c v : Int} {p : Nat} (h : (p : Int) ≠ q) : (withCellM M q c v)[p]? = M[p]? := by
  unfold withCellM
  split
  · rename_i hc
    simp only [Bool.and_eq_true] at hc
    have hc1 := hc.1
    unfold cellOkM hasB at hc1
    simp only [Bool.and_eq_true, decide_eq_true_eq] at hc1
    exact List.getElem?_set_ne (by omega)
  · rfl
/-- What a step leaves. -/
def StepForm (m : MB) (g : Int) (r : MB) : Prop := ∃ (k : Nat) (x : MG) (M : List (List Int)) (O : List Int), g = k ∧ k < m.guests.length ∧ r = ⟨M, m.guests.set k x, O, m.pending⟩ ∧ guestOkM x = true ∧ memOkM 8 M = true ∧ O.length ≤ 40 ∧ ∀ p : Nat, M[p]? = m.memory[p]? ∨ ∃ s ∈ (gAtM m g).live, s.page = (p : Int) ∧ enoughM s.rights 2 = true
theorem wg_form {m : MB} {k : Nat} (hk : k < m.guests.length) (M : List (List Int)) (O : List Int) (x : MG) : withGuestM ⟨M, m.guests, O, m.pending⟩ k x = ⟨M, m.guests.set k x, O, m.pending⟩ := by
  unfold withGuestM
  rw [if_pos (by simp [hasM, hasB, hk])]; rfl
theorem step_form {m : MB} {g : Int} (h : stepOkM m g = true) : StepForm m g (stepM m g) := by
  have e : stepM m g = stepWM m g (gAtM m g) (wantM (gAtM m g)) := by unfold stepM; rw [if_pos h]
  have h0 := h
  unfold stepOkM at h0
  simp only [Bool.and_eq_true] at h0
  obtain ⟨⟨hb, hm⟩, hw0⟩ := h0
  have hm2 := hm
  unfold hasM hasB at hm2
  simp only [Bool.and_eq_true, decide_eq_true_eq] at hm2
  obtain ⟨k, rfl⟩ := Int.eq_ofNat_of_zero_le hm2.1
  have hk : k < m.guests.length := by omega
  have hb2 := hb
  unfold bareOkM at hb2
  simp only [Bool.and_eq_true, decide_eq_true_eq] at hb2
  obtain ⟨hgs, ⟨⟨⟨hmem, hgl⟩, hout⟩, hpd⟩⟩ := hb2
  have hgx : gAtM m (k : Int) = m.guests[k] := by unfold gAtM; rw [if_pos hm]; simp [hk]
  have hok : guestOkM (gAtM m (k : Int)) = true := by rw [hgx]; exact List.all_eq_true.1 hgs _ (List.getElem_mem hk)
  have hol : m.outs.length ≤ 40 := by omega
  have em : m = ⟨m.memory, m.guests, m.outs, m.pending⟩ := rfl
  have wg : ∀ x, withGuestM m (k : Int) x = ⟨m.memory, m.guests.set k x, m.outs, m.pending⟩ := fun x => wg_form hk m.memory m.outs x
  obtain ⟨x, hx⟩ : ∃ x, x = gAtM m (k : Int) := ⟨_, rfl⟩
  have hab := @addr_bd m (k : Int) hb hm
  rw [← hx] at e hok hw0 hab
  rw [e]
  have plain : ∀ (r : MB) (y : MG), r = withGuestM m (k : Int) y → guestOkM y = true → StepForm m (k : Int) r := fun r y er hy => ⟨k, y, m.memory, m.outs, rfl, hk, by rw [er, wg], hy, hmem, hol, fun p => .inl rfl⟩
  have hfault : ∀ wr : Bool, (wantM x = 3 ∨ wantM x = 4) → exitOkM ⟨1, addrPageM (addrM x), wr, 0⟩ = true := by
    intro wr h34
    have hbd := hab h34
    unfold exitOkM
    rw [if_neg (by simp), if_pos rfl]
    unfold addrPageM
    rw [if_neg (by omega)]
    simp [inB]; omega
  have hcall : (wantM x = 5 ∨ wantM x = 6) → inB (insAtM x.prog x.pc).x 0 99 = true := fun h56 => (want_op h56).elim id (fun h => absurd hok h)
  rcases want_cases x with hw | hw | hw | hw | hw | hw | hw | hw
  · rw [hw] at hw0; simp at hw0
  · rw [hw]; exact plain _ (interruptedM x) (by simp [stepWM]) (interrupted_ok hok)
  · rw [hw]; exact plain _ (plainlyM x) (by simp [stepWM]) (plainly_ok hok)
  · have hf := hfault false (.inl hw)
    rw [hw]
    have e3 : stepWM m (k : Int) x 3 = (if walkOkM x.live (addrPageM (addrM x)) 1 = true then withGuestM m (k : Int) (loadedM x (cellAtM m.memory (walkPageM x.live (addrPageM (addrM x)) 1) (addrCellM (addrM x)))) else withGuestM m (k : Int) (stoppedM x ⟨1, addrPageM (addrM x), false, 0⟩)) := by simp [stepWM, memStepM]
    rw [e3]
    by_cases hwk : walkOkM x.live (addrPageM (addrM x)) 1 = true
    · rw [if_pos hwk]; exact plain _ _ rfl (loaded_ok hok (mem_cell hmem _ _))
    · rw [if_neg hwk]; exact plain _ _ rfl (stopped_ok hok hf)
  · have hf := hfault true (.inr hw)
    rw [hw]
    have e3 : stepWM m (k : Int) x 4 = (if walkOkM x.live (addrPageM (addrM x)) 2 = true then withGuestM { m with memory := withCellM m.memory (walkPageM x.live (addrPageM (addrM x)) 2) (addrCellM (addrM x)) x.a } (k : Int) (movedM x) else withGuestM m (k : Int) (stoppedM x ⟨1, addrPageM (addrM x), true, 0⟩)) := by simp [stepWM, memStepM]
    rw [e3]
    by_cases hwk : walkOkM x.live (addrPageM (addrM x)) 2 = true
    · rw [if_pos hwk]
      refine ⟨k, movedM x, withCellM m.memory (walkPageM x.live (addrPageM (addrM x)) 2) (addrCellM (addrM x)) x.a, m.outs, rfl, hk, wg_form hk _ _ _, moved_ok hok, mem_with hmem _ _ _, hol, ?_⟩
      intro p
      by_cases hp : (p : Int) = walkPageM x.live (addrPageM (addrM x)) 2
      · right
        obtain ⟨s, hs, h1, h2⟩ := slot_mem hwk
        exact ⟨s, by rw [← hx]; exact hs, by rw [h1, hp], h2⟩
      · left; exact with_other hp
    · rw [if_neg hwk]; exact plain _ _ rfl (stopped_ok hok hf)
  · have hc := hcall (.inl hw)
    rw [hw]
    have e5 : stepWM m (k : Int) x 5 = (if hasTrapM x.ctl.traps 1 then withGuestM m (k : Int) (stoppedM x ⟨3, 0, false, (insAtM x.prog x.pc).x⟩) else withGuestM (putOutM m (insAtM x.prog x.pc).x) (k : Int) (movedM x)) := by simp [stepWM]
    rw [e5]
    split
    · exact plain _ _ rfl (stopped_ok hok (by unfold exitOkM; rw [if_neg (by simp), if_neg (by simp), if_pos (by simp)]; rw [hc]; rfl))
    · unfold putOutM
      split
      · rename_i hl
        exact ⟨k, movedM x, m.memory, m.outs ++ [(insAtM x.prog x.pc).x], rfl, hk, wg_form hk _ _ _, moved_ok hok, hmem, by simp; omega, fun p => .inl rfl⟩
      · exact plain _ _ rfl (moved_ok hok)
  · have hc := hcall (.inr hw)
    rw [hw]
    exact plain _ (stoppedM x ⟨2, 0, false, (insAtM x.prog x.pc).x⟩) (by simp [stepWM]) (stopped_ok hok (by unfold exitOkM; rw [if_neg (by simp), if_neg (by simp), if_pos (by simp)]; rw [hc]; rfl))
  · rw [hw]
    have e7 : stepWM m (k : Int) x 7 = (if hasTrapM x.ctl.traps 2 then withGuestM m (k : Int) (stoppedM x ⟨4, 0, false, 0⟩) else withGuestM m (k : Int) (heldM x)) := by simp [stepWM]
    rw [e7]
    split
    · exact plain _ _ rfl (stopped_ok hok (by decide))
    · exact plain _ _ rfl (held_ok hok)
theorem step_ok {m : MB} {g : Int} (h : stepOkM m g = true) : bareOkM (stepM m g) = true := by
  obtain ⟨k, x, M, O, _, hk, e, hx, hM, hO, _⟩ := step_form h
  unfold stepOkM at h
  simp only [Bool.and_eq_true] at h
  have hb := h.1.1
  unfold bareOkM at hb ⊢
  simp only [Bool.and_eq_true, decide_eq_true_eq] at hb ⊢
  obtain ⟨hgs, ⟨⟨⟨hmem, hgl⟩, hout⟩, hpd⟩⟩ := hb
  rw [e]
  exact ⟨all_set hgs _ hx, ⟨⟨⟨hM, by simpa using hgl⟩, by show (O.length : Int) ≤ 40; omega⟩, hpd⟩⟩
theorem step_stays {m : MB} {g : Int} (h : stepOkM m g = false) : stepM m g = m := by unfold stepM; rw [h]; rfl
/-- Some live slot lets the guest write on page p. -/
def mayM (p : Int) (t : List Slot) : Bool := t.any fun s => s.page == p && enoughM s.rights 2
theorem may_snoc {p : Int} {t : List Slot} {i : Nat} {z : Slot} (h : t[i]? = some z) : mayM p (t.take (i + 1)) = (mayM p (t.take i) || (z.page == p && enoughM z.rights 2)) := by
  unfold mayM
  rw [List.take_add_one, h, Option.toList_some, List.any_append]; simp
theorem gs_at' {B : BV} {k : Nat} {x : MG} (h : B.m.guests[k]? = some x) : ∃ y, B.gs.xs[k]? = some y ∧ y.m = x := by
  have h2 : (B.gs.xs.map GV.m)[k]? = some x := h
  rw [List.getElem?_map] at h2
  exact Option.map_eq_some_iff.1 h2
theorem mem_at' {B : BV} {k : Nat} {x : List Int} (h : B.m.memory[k]? = some x) : ∃ y, B.mem.xs[k]? = some y ∧ y.xs = x := by
  have h2 : (B.mem.xs.map (fun y => y.xs))[k]? = some x := h
  rw [List.getElem?_map] at h2
  exact Option.map_eq_some_iff.1 h2
/-- A step told in what lies in memory. -/
theorem steps_facts {b d : BV} {g : Int} (hd : d.m = stepM b.m g) (h : stepOkM b.m g = true) :
    ∃ (k : Nat) (y : GV), g = k ∧ b.gs.xs[k]? = some y ∧ y.live.xs.length = 4 ∧ d.gs.xs.length = b.gs.xs.length ∧
      (∀ i : Nat, i < b.gs.xs.length → i ≠ k → ∃ y1 y0 : GV, d.gs.xs[i]? = some y1 ∧ b.gs.xs[i]? = some y0 ∧ y1.m = y0.m) ∧
      (∀ p : Nat, p < 8 → ∃ r1 r0 : Sl Int, d.mem.xs[p]? = some r1 ∧ b.mem.xs[p]? = some r0 ∧ (mayM p y.live.xs = false → r1.xs = r0.xs)) ∧ bareOkM d.m = true := by
  have hok := step_ok h
  rw [← hd] at hok
  obtain ⟨k, x, M, O, hg, hk, e, hx, hM, hO, hpp⟩ := step_form h
  rw [← hd] at e
  have hb : bareOkM b.m = true := by
    unfold stepOkM at h; simp only [Bool.and_eq_true] at h; exact h.1.1
  have hb2 := hb
  unfold bareOkM at hb2
  simp only [Bool.and_eq_true, decide_eq_true_eq] at hb2
  obtain ⟨hgs, ⟨⟨⟨hmem, hgl⟩, hout⟩, hpd⟩⟩ := hb2
  obtain ⟨y, hy, hym⟩ := gs_at' (List.getElem?_eq_getElem hk)
  have hyok : guestOkM y.m = true := by rw [hym]; exact List.all_eq_true.1 hgs _ (List.getElem_mem hk)
  have hlive : (gAtM b.m g).live = y.live.xs := by rw [hg, (gAtM_hit hy).1]; rfl
  have hl4 : y.live.xs.length = 4 := by
    have h5 := ((gok_iff _).1 hyok).2.2.2.2.1
    unfold tableOkM at h5
    simp only [Bool.and_eq_true, decide_eq_true_eq] at h5
    have h6 : (y.live.xs.length : Int) = 4 := h5.2
    omega
  have hlen : d.gs.xs.length = b.gs.xs.length := by
    have h1 := congrArg (fun m => m.guests.length) e
    simpa [BV.m, gsOf] using h1
  have hbl : b.gs.xs.length = b.m.guests.length := by simp [BV.m, gsOf]
  refine ⟨k, y, hg, hy, hl4, hlen, ?_, ?_, hok⟩
  · intro i hi hik
    have hi2 : i < b.m.guests.length := by omega
    have e1 : d.m.guests[i]? = some b.m.guests[i] := by
      rw [e]
      show (b.m.guests.set k x)[i]? = _
      rw [List.getElem?_set_ne (by omega), List.getElem?_eq_getElem hi2]
    obtain ⟨y1, a1, b1⟩ := gs_at' e1
    obtain ⟨y0, a0, b0⟩ := gs_at' (List.getElem?_eq_getElem hi2)
    exact ⟨y1, y0, a1, a0, b1.trans b0.symm⟩
  · intro p hp
    have hm1 : M.length = 8 := by unfold memOkM at hM; simp only [Bool.and_eq_true, decide_eq_true_eq] at hM; omega
    have hm0 : b.m.memory.length = 8 := by unfold memOkM at hmem; simp only [Bool.and_eq_true, decide_eq_true_eq] at hmem; omega
    have e1 : d.m.memory[p]? = some M[p] := by
      rw [e]
      show M[p]? = some M[p]
      exact List.getElem?_eq_getElem (by omega)
    have e0 : b.m.memory[p]? = some b.m.memory[p] := List.getElem?_eq_getElem (by omega)
    obtain ⟨r1, a1, b1⟩ := mem_at' e1
    obtain ⟨r0, a0, b0⟩ := mem_at' e0
    refine ⟨r1, r0, a1, a0, fun hmay => ?_⟩
    rw [b1, b0]
    rcases hpp p with hq | ⟨s, hs, h1, h2⟩
    · rw [List.getElem?_eq_getElem (by omega), List.getElem?_eq_getElem (by omega)] at hq
      exact Option.some.inj hq
    · rw [hlive] at hs
      unfold mayM at hmay
      have h3 := List.any_eq_false.1 hmay s hs
      simp [h1, h2] at h3
end Go.Proofs.YtaafnenmdombiaaGreat
