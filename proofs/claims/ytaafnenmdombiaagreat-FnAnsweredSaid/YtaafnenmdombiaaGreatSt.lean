/- Models and small parts of BareStep, of the program and of the reference. No condition but that the arguments lie in memory. -/
import Derived.Maps.RangeWalk
import Derived.Test.YtaafnenmdombiaaGreatBu
import Derived.Test.YtaafnenmdombiaaGreatMl
import Derived.Test.YtaafnenmdombiaaGreatBb
import Derived.Test.YtaafnenmdombiaaGreatGWant
import Derived.Test.YtaafnenmdombiaaGreatBp
namespace Go.Proofs.YtaafnenmdombiaaGreat
set_option linter.unusedSimpArgs false
set_option linter.unusedVariables false
open Go.RowKit
def hasTrapM (t k : Int) : Bool := inB t 0 3 && (k == 1 || k == 2) && !(bits .and .i64 t k == 0)
def memStepM (m : MB) (g : Int) (x : MG) (wr : Bool) (a : Int) : MB :=
  if walkOkM x.live (addrPageM a) (if wr then 2 else 1) then
    (if wr then withGuestM { m with memory := withCellM m.memory (walkPageM x.live (addrPageM a) 2) (addrCellM a) x.a } g (movedM x)
    else withGuestM m g (loadedM x (cellAtM m.memory (walkPageM x.live (addrPageM a) 1) (addrCellM a))))
  else withGuestM m g (stoppedM x ⟨1, addrPageM a, wr, 0⟩)
def stepOkM (m : MB) (g : Int) : Bool := bareOkM m && hasM m g && !(wantM (gAtM m g) == 0)
def stepWM (m : MB) (g : Int) (x : MG) (want : Int) : MB :=
  if want == 1 then withGuestM m g (interruptedM x)
  else if want == 2 then withGuestM m g (plainlyM x)
  else if want == 3 then memStepM m g x false (addrM x)
  else if want == 4 then memStepM m g x true (addrM x)
  else if want == 6 then withGuestM m g (stoppedM x ⟨2, 0, false, (insAtM x.prog x.pc).x⟩)
  else if want == 5 then
    (if hasTrapM x.ctl.traps 1 then withGuestM m g (stoppedM x ⟨3, 0, false, (insAtM x.prog x.pc).x⟩)
    else withGuestM (putOutM m (insAtM x.prog x.pc).x) g (movedM x))
  else (if hasTrapM x.ctl.traps 2 then withGuestM m g (stoppedM x ⟨4, 0, false, 0⟩) else withGuestM m g (heldM x))
def stepM (m : MB) (g : Int) : MB := if stepOkM m g then stepWM m g (gAtM m g) (wantM (gAtM m g)) else m
theorem want_cases (x : MG) : wantM x = 0 ∨ wantM x = 1 ∨ wantM x = 2 ∨ wantM x = 3 ∨ wantM x = 4 ∨ wantM x = 5 ∨ wantM x = 6 ∨ wantM x = 7 := by
  unfold wantM
  cases canRunM x
  · simp
  · cases takesM x
    · dsimp only
      generalize (insAtM x.prog x.pc).op = o
      by_cases h3 : o = 3
      · simp [h3]
      by_cases h4 : o = 4
      · simp [h4]
      by_cases h5 : o = 5
      · simp [h5]
      by_cases h6 : o = 6
      · simp [h6]
      by_cases h7 : o = 7
      · simp [h7]
      simp [h3, h4, h5, h6, h7]
    · simp
theorem addr_bd {m : MB} {g : Int} (h1 : bareOkM m = true) (h2 : hasM m g = true) (h3 : wantM (gAtM m g) = 3 ∨ wantM (gAtM m g) = 4) : 0 ≤ addrM (gAtM m g) ∧ addrM (gAtM m g) ≤ 15 := by
  have hin : gAtM m g ∈ m.guests := by
    have hg : 0 ≤ g ∧ g < m.guests.length := by simpa [hasM, hasB] using h2
    unfold gAtM; rw [if_pos h2]
    have hl : g.toNat < m.guests.length := by omega
    rw [List.getElem?_eq_getElem hl]
    exact List.getElem_mem _
  obtain ⟨x, hx⟩ : ∃ x, x = gAtM m g := ⟨_, rfl⟩
  rw [← hx] at hin h3 ⊢
  have hok : guestOkM x = true := by
    unfold bareOkM at h1; simp only [Bool.and_eq_true] at h1
    exact List.all_eq_true.1 h1.1 x hin
  have hp : x.prog.all insOkM = true := by
    unfold guestOkM progOkM at hok; simp only [Bool.and_eq_true] at hok; exact hok.1.1.1.1.1.1.1.1.1
  have hop : (insAtM x.prog x.pc).op = 3 ∨ (insAtM x.prog x.pc).op = 4 := by
    unfold wantM at h3
    simp only at h3
    repeat' split at h3
    all_goals simp_all
  have ha : addrM x = (insAtM x.prog x.pc).x := by
    unfold addrM; rcases h3 with h | h <;> simp [h]
  rw [ha]
  have hi : insOkM (insAtM x.prog x.pc) = true := by
    unfold insAtM at hop ⊢
    split at hop
    · rename_i hc
      rw [if_pos hc]
      have hl : x.pc.toNat < x.prog.length := by omega
      rw [List.getD_eq_getElem?_getD, List.getElem?_eq_getElem hl]
      exact List.all_eq_true.1 hp _ (List.getElem_mem _)
    · simp at hop
  unfold insOkM at hi
  rw [if_neg (by rcases hop with h | h <;> simp [h]), if_pos hop] at hi
  simpa [inB] using hi
theorem ctl_traps {x : GV} {m : MG} (h : Hid (x.m = m)) : x.ctl.traps = m.ctl.traps := congrArg (fun g : MG => g.ctl.traps) h.out
theorem belowS {P : Program} {f : FuncId} {args : Array Value} {w0 w : World} {L : List En} {v : Value} (H : Hp w0 w L) (h : Calls P f args w (fun e w' => e = .returned v ∧ Below w.heap.size w w')) : Calls P f args w (fun e w' => ∃ u, e = .returned u ∧ (u = v ∧ Hp w0 w' L)) :=
  h.mono fun _ _ ⟨he, hb⟩ => ⟨_, he, rfl, H.still hb⟩
theorem mkgS {w : World} {e : Ending} {w' : World} {m : MG} (h : MkG w m e w') : ∃ d : GV, e = .returned d.val ∧ d.m = m ∧ Hp w w' [.gst d] := by
  obtain ⟨d, he, hm, ho, hb⟩ := MkGc.val h
  exact ⟨d, he, hm, Hp.of_gst ho hb⟩
theorem glenS {d : BV} {m : MB} (h : Hid (d.m = m)) : d.gs.xs.length = m.guests.length := by rw [← h.out]; simp [BV.m, gsOf]
theorem hasS {m : MB} {k : Nat} (h : k < m.guests.length) : hasM m k = true := by simp [hasM, hasB, h]
theorem wgPut {d : BV} {m : MB} {k : Nat} {q : GV} {z : MG} (hd : Hid (d.m = m)) (hk : k < d.gs.xs.length) (hq : q.m = z) : (⟨d.mem, ⟨d.gs.A, d.gs.c, d.gs.xs.set k q⟩, d.outs, d.pend⟩ : BV).m = withGuestM m k z := by
  have h : hasM m k = true := hasS (by rw [← glenS hd]; exact hk)
  unfold withGuestM; rw [if_pos h, ← hd.out]
  simp only [BV.m, gsOf, List.map_set]; rw [hq]; rfl
theorem sum_leS {α : Type} (f : α → Nat) (c : Nat) : ∀ l : List α, (∀ x ∈ l, f x ≤ c) → (l.map f).sum ≤ l.length * c
  | [], _ => by simp
  | x :: l, h => by
    have h1 := h x (by simp)
    have h2 := sum_leS f c l (fun y hy => h y (by simp [hy]))
    simp only [List.map_cons, List.sum_cons, List.length_cons, Nat.succ_mul]; omega
theorem guestOk_size {x : MG} (h : guestOkM x = true) : x.size ≤ 60 := by
  unfold guestOkM progOkM tableOkM at h
  simp only [Bool.and_eq_true, decide_eq_true_eq, inB] at h
  unfold MG.size
  have h1 := h.1.1.1.1.1.1.1.1.2
  obtain ⟨⟨⟨⟨⟨⟨⟨⟨h1, _⟩, _⟩, h2⟩, h3⟩, _⟩, _⟩, _⟩, h4⟩ := h
  have h5 := h1.2
  have h6 := h2.2
  have h7 := h3.2
  omega
theorem bareOk_size {m : MB} (h : bareOkM m = true) : m.size ≤ 300 := by
  unfold bareOkM memOkM at h
  simp only [Bool.and_eq_true, decide_eq_true_eq, inB] at h
  obtain ⟨h1, ⟨⟨⟨h2, h2'⟩, h3⟩, h4⟩, _⟩ := h
  have a1 := sum_leS MG.size 60 m.guests (fun x hx => guestOk_size (List.all_eq_true.1 h1 x hx))
  have a2 := sum_leS List.length 4 m.memory (fun x hx => by
    have := List.all_eq_true.1 h2 x hx
    unfold pageOkM at this
    simp only [Bool.and_eq_true, decide_eq_true_eq] at this
    omega)
  unfold MB.size rowsSize gsSize
  omega
theorem putOut_glen (m : MB) (n : Int) : (putOutM m n).guests = m.guests := by unfold putOutM; split <;> rfl
theorem putOutS_size (m : MB) (n : Int) : (putOutM m n).size ≤ m.size + 1 := by
  unfold putOutM; split
  · unfold MB.size; simp; omega
  · omega
set_option maxRecDepth 100000 in
set_option maxHeartbeats 4000000 in
theorem hasTrap_c (t k : Int) (hk : k = 1 ∨ k = 2) (W0 : World) : Calls Tryz.prog 128 #[.int .i64 t, .int .i64 k] W0 fun e w' => e = .returned (.bool (hasTrapM t k)) ∧ Hp W0 w' [] := by
  rcases hk with rfl | rfl <;> cases e1 : inB t 0 3
  all_goals
    have H := Hp.start W0
    go_enter Tryz.func128, Tryz.ntmps128
    go_wp2_with (first
      | go_skip
      | ((with_reducible refine at_box ?_); first | (refine wpList_box_H rfl rfl H rfl (by constructor) ?_; clear H; intro b w H))
      | ((with_reducible refine at_alloc ?_); first | (refine wpList_alloc_H rfl rfl H ?_; clear H; intro b w H))
      | ((with_reducible refine at_load ?_); first | (refine wpList_load_H rfl rfl H rfl (by repeat constructor) ?_) | (refine wpList_loads_H rfl rfl H rfl (by repeat constructor) ?_))
      | ((with_reducible refine at_store ?_); first | (refine wpList_store_H rfl rfl H rfl rfl (by repeat constructor) ?_; clear H; intro w H))
      | (go_at_call 72; refine (within_any _ _ _ _).mono ?_; rintro e w' ⟨he, hw⟩; subst hw; rw [e1] at he; subst he))
    all_goals (go_ret; exact ⟨ret_bool (by simp [hasTrapM, e1, bne]), H⟩)
set_option maxRecDepth 100000 in
set_option maxHeartbeats 4000000 in
theorem faultExit_c (p : Int) (wr : Bool) (W0 : World) : Calls Tryz.prog 121 #[.int .i64 p, .bool wr] W0 fun e w' => e = .returned (Exit.val ⟨1, p, wr, 0⟩) ∧ Hp W0 w' [] := by
  have H := Hp.start W0
  go_enter Tryz.func121, Tryz.ntmps121
  go_wp2_with (first
    | go_skip
    | ((with_reducible refine at_box ?_); first | (refine wpList_box_H rfl rfl H rfl (by constructor) ?_; clear H; intro b w H))
    | ((with_reducible refine at_alloc ?_); first | (refine wpList_alloc_H rfl rfl H ?_; clear H; intro bR w H))
    | ((with_reducible refine at_load ?_); first | (refine wpList_load_H rfl rfl H rfl (by repeat constructor) ?_) | (refine wpList_loads_H rfl rfl H rfl (by repeat constructor) ?_))
    | ((with_reducible refine at_store ?_); first | (refine wpList_store_H rfl rfl H rfl rfl (by repeat constructor) ?_; clear H; intro w H)))
  refine bodyPost_ret (results_H rfl H rfl (by repeat constructor)) rfl ⟨rfl, H.pick .nil⟩
set_option maxRecDepth 100000 in
set_option maxHeartbeats 4000000 in
theorem callExit_c (n : Int) (W0 : World) : Calls Tryz.prog 127 #[.int .i64 n] W0 fun e w' => e = .returned (Exit.val ⟨2, 0, false, n⟩) ∧ Hp W0 w' [] := by
  have H := Hp.start W0
  go_enter Tryz.func127, Tryz.ntmps127
  go_wp2_with (first
    | go_skip
    | ((with_reducible refine at_box ?_); first | (refine wpList_box_H rfl rfl H rfl (by constructor) ?_; clear H; intro b w H))
    | ((with_reducible refine at_alloc ?_); first | (refine wpList_alloc_H rfl rfl H ?_; clear H; intro bR w H))
    | ((with_reducible refine at_load ?_); first | (refine wpList_load_H rfl rfl H rfl (by repeat constructor) ?_) | (refine wpList_loads_H rfl rfl H rfl (by repeat constructor) ?_))
    | ((with_reducible refine at_store ?_); first | (refine wpList_store_H rfl rfl H rfl rfl (by repeat constructor) ?_; clear H; intro w H)))
  refine bodyPost_ret (results_H rfl H rfl (by repeat constructor)) rfl ⟨rfl, H.pick .nil⟩
set_option maxRecDepth 100000 in
set_option maxHeartbeats 4000000 in
theorem outExit_c (n : Int) (W0 : World) : Calls Tryz.prog 190 #[.int .i64 n] W0 fun e w' => e = .returned (Exit.val ⟨3, 0, false, n⟩) ∧ Hp W0 w' [] := by
  have H := Hp.start W0
  go_enter Tryz.func190, Tryz.ntmps190
  go_wp2_with (first
    | go_skip
    | ((with_reducible refine at_box ?_); first | (refine wpList_box_H rfl rfl H rfl (by constructor) ?_; clear H; intro b w H))
    | ((with_reducible refine at_alloc ?_); first | (refine wpList_alloc_H rfl rfl H ?_; clear H; intro bR w H))
    | ((with_reducible refine at_load ?_); first | (refine wpList_load_H rfl rfl H rfl (by repeat constructor) ?_) | (refine wpList_loads_H rfl rfl H rfl (by repeat constructor) ?_))
    | ((with_reducible refine at_store ?_); first | (refine wpList_store_H rfl rfl H rfl rfl (by repeat constructor) ?_; clear H; intro w H)))
  refine bodyPost_ret (results_H rfl H rfl (by repeat constructor)) rfl ⟨rfl, H.pick .nil⟩
set_option maxRecDepth 100000 in
set_option maxHeartbeats 4000000 in
theorem needOf_c (wr : Bool) (W0 : World) : Calls Tryz.prog 120 #[.bool wr] W0 fun e w' => e = .returned (.int .i64 (if wr then 2 else 1)) ∧ Hp W0 w' [] := by
  cases wr
  all_goals
    have H := Hp.start W0
    go_enter Tryz.func120, Tryz.ntmps120
    go_wp2_with (first
      | go_skip
      | ((with_reducible refine at_box ?_); first | (refine wpList_box_H rfl rfl H rfl (by constructor) ?_; clear H; intro b w H))
      | ((with_reducible refine at_alloc ?_); first | (refine wpList_alloc_H rfl rfl H ?_; clear H; intro b w H))
      | ((with_reducible refine at_load ?_); first | (refine wpList_load_H rfl rfl H rfl (by repeat constructor) ?_) | (refine wpList_loads_H rfl rfl H rfl (by repeat constructor) ?_))
      | ((with_reducible refine at_store ?_); first | (refine wpList_store_H rfl rfl H rfl rfl (by repeat constructor) ?_; clear H; intro w H)))
    go_ret
    exact ⟨rfl, H⟩
set_option maxRecDepth 100000 in
set_option maxHeartbeats 4000000 in
theorem specHasTrap_c (t k : Int) (hk : k = 1 ∨ k = 2) (W0 : World) : Calls Tryz.prog 179 #[.int .i64 t, .int .i64 k] W0 fun e w' => e = .returned (.bool (hasTrapM t k)) ∧ Hp W0 w' [] := by
  rcases hk with rfl | rfl <;> cases e1 : inB t 0 3
  all_goals
    have e2 : inB 1 1 2 = true := rfl
    have e3 : inB 2 1 2 = true := rfl
    have H := Hp.start W0
    go_enter Tryz.func179, Tryz.ntmps179
    go_wp2_with (first
      | go_skip
      | ((with_reducible refine at_box ?_); first | (refine wpList_box_H rfl rfl H rfl (by constructor) ?_; clear H; intro b w H))
      | ((with_reducible refine at_alloc ?_); first | (refine wpList_alloc_H rfl rfl H ?_; clear H; intro b w H))
      | ((with_reducible refine at_load ?_); first | (refine wpList_load_H rfl rfl H rfl (by repeat constructor) ?_) | (refine wpList_loads_H rfl rfl H rfl (by repeat constructor) ?_))
      | ((with_reducible refine at_store ?_); first | (refine wpList_store_H rfl rfl H rfl rfl (by repeat constructor) ?_; clear H; intro w H))
      | (go_at_call 78; refine (in_any _ _ _ _).mono ?_; rintro e w' ⟨he, hw⟩; subst hw; (first | rw [e1] at he | rw [e2] at he | rw [e3] at he); subst he))
    all_goals (go_ret; exact ⟨ret_bool (by simp [hasTrapM, e1, bne]), H⟩)
set_option maxRecDepth 100000 in
set_option maxHeartbeats 4000000 in
theorem specFaultExit_c (p : Int) (wr : Bool) (W0 : World) : Calls Tryz.prog 102 #[.int .i64 p, .bool wr] W0 fun e w' => e = .returned (Exit.val ⟨1, p, wr, 0⟩) ∧ Hp W0 w' [] := by
  have H := Hp.start W0
  go_enter Tryz.func102, Tryz.ntmps102
  go_wp2_with (first
    | go_skip
    | ((with_reducible refine at_box ?_); first | (refine wpList_box_H rfl rfl H rfl (by constructor) ?_; clear H; intro b w H))
    | ((with_reducible refine at_alloc ?_); first | (refine wpList_alloc_H rfl rfl H ?_; clear H; intro bR w H))
    | ((with_reducible refine at_load ?_); first | (refine wpList_load_H rfl rfl H rfl (by repeat constructor) ?_) | (refine wpList_loads_H rfl rfl H rfl (by repeat constructor) ?_))
    | ((with_reducible refine at_store ?_); first | (refine wpList_store_H rfl rfl H rfl rfl (by repeat constructor) ?_; clear H; intro w H)))
  refine bodyPost_ret (results_H rfl H rfl (by repeat constructor)) rfl ⟨rfl, H.pick .nil⟩
set_option maxRecDepth 100000 in
set_option maxHeartbeats 4000000 in
theorem specCallExit_c (n : Int) (W0 : World) : Calls Tryz.prog 167 #[.int .i64 n] W0 fun e w' => e = .returned (Exit.val ⟨2, 0, false, n⟩) ∧ Hp W0 w' [] := by
  have H := Hp.start W0
  go_enter Tryz.func167, Tryz.ntmps167
  go_wp2_with (first
    | go_skip
    | ((with_reducible refine at_box ?_); first | (refine wpList_box_H rfl rfl H rfl (by constructor) ?_; clear H; intro b w H))
    | ((with_reducible refine at_alloc ?_); first | (refine wpList_alloc_H rfl rfl H ?_; clear H; intro bR w H))
    | ((with_reducible refine at_load ?_); first | (refine wpList_load_H rfl rfl H rfl (by repeat constructor) ?_) | (refine wpList_loads_H rfl rfl H rfl (by repeat constructor) ?_))
    | ((with_reducible refine at_store ?_); first | (refine wpList_store_H rfl rfl H rfl rfl (by repeat constructor) ?_; clear H; intro w H)))
  refine bodyPost_ret (results_H rfl H rfl (by repeat constructor)) rfl ⟨rfl, H.pick .nil⟩
set_option maxRecDepth 100000 in
set_option maxHeartbeats 4000000 in
theorem specOutExit_c (n : Int) (W0 : World) : Calls Tryz.prog 168 #[.int .i64 n] W0 fun e w' => e = .returned (Exit.val ⟨3, 0, false, n⟩) ∧ Hp W0 w' [] := by
  have H := Hp.start W0
  go_enter Tryz.func168, Tryz.ntmps168
  go_wp2_with (first
    | go_skip
    | ((with_reducible refine at_box ?_); first | (refine wpList_box_H rfl rfl H rfl (by constructor) ?_; clear H; intro b w H))
    | ((with_reducible refine at_alloc ?_); first | (refine wpList_alloc_H rfl rfl H ?_; clear H; intro bR w H))
    | ((with_reducible refine at_load ?_); first | (refine wpList_load_H rfl rfl H rfl (by repeat constructor) ?_) | (refine wpList_loads_H rfl rfl H rfl (by repeat constructor) ?_))
    | ((with_reducible refine at_store ?_); first | (refine wpList_store_H rfl rfl H rfl rfl (by repeat constructor) ?_; clear H; intro w H)))
  refine bodyPost_ret (results_H rfl H rfl (by repeat constructor)) rfl ⟨rfl, H.pick .nil⟩
set_option maxRecDepth 100000 in
set_option maxHeartbeats 4000000 in
theorem specNeedOf_c (wr : Bool) (W0 : World) : Calls Tryz.prog 101 #[.bool wr] W0 fun e w' => e = .returned (.int .i64 (if wr then 2 else 1)) ∧ Hp W0 w' [] := by
  cases wr
  all_goals
    have H := Hp.start W0
    go_enter Tryz.func101, Tryz.ntmps101
    go_wp2_with (first
      | go_skip
      | ((with_reducible refine at_box ?_); first | (refine wpList_box_H rfl rfl H rfl (by constructor) ?_; clear H; intro b w H))
      | ((with_reducible refine at_alloc ?_); first | (refine wpList_alloc_H rfl rfl H ?_; clear H; intro b w H))
      | ((with_reducible refine at_load ?_); first | (refine wpList_load_H rfl rfl H rfl (by repeat constructor) ?_) | (refine wpList_loads_H rfl rfl H rfl (by repeat constructor) ?_))
      | ((with_reducible refine at_store ?_); first | (refine wpList_store_H rfl rfl H rfl rfl (by repeat constructor) ?_; clear H; intro w H)))
    go_ret
    exact ⟨rfl, H⟩
set_option maxRecDepth 100000 in
set_option maxHeartbeats 4000000 in
theorem trapOf_5 (W0 : World) : Calls Tryz.prog 129 #[.int .i64 5] W0 fun e w' => e = .returned (.int .i64 1) ∧ Hp W0 w' [] := by
  have H := Hp.start W0
  go_enter Tryz.func129, Tryz.ntmps129
  go_wp2_with (first
    | go_skip
    | ((with_reducible refine at_box ?_); first | (refine wpList_box_H rfl rfl H rfl (by constructor) ?_; clear H; intro b w H))
    | ((with_reducible refine at_alloc ?_); first | (refine wpList_alloc_H rfl rfl H ?_; clear H; intro b w H))
    | ((with_reducible refine at_load ?_); first | (refine wpList_load_H rfl rfl H rfl (by repeat constructor) ?_) | (refine wpList_loads_H rfl rfl H rfl (by repeat constructor) ?_))
    | ((with_reducible refine at_store ?_); first | (refine wpList_store_H rfl rfl H rfl rfl (by repeat constructor) ?_; clear H; intro w H)))
  go_ret
  exact ⟨rfl, H⟩
set_option maxRecDepth 100000 in
set_option maxHeartbeats 4000000 in
theorem trapOf_7 (W0 : World) : Calls Tryz.prog 129 #[.int .i64 7] W0 fun e w' => e = .returned (.int .i64 2) ∧ Hp W0 w' [] := by
  have H := Hp.start W0
  go_enter Tryz.func129, Tryz.ntmps129
  go_wp2_with (first
    | go_skip
    | ((with_reducible refine at_box ?_); first | (refine wpList_box_H rfl rfl H rfl (by constructor) ?_; clear H; intro b w H))
    | ((with_reducible refine at_alloc ?_); first | (refine wpList_alloc_H rfl rfl H ?_; clear H; intro b w H))
    | ((with_reducible refine at_load ?_); first | (refine wpList_load_H rfl rfl H rfl (by repeat constructor) ?_) | (refine wpList_loads_H rfl rfl H rfl (by repeat constructor) ?_))
    | ((with_reducible refine at_store ?_); first | (refine wpList_store_H rfl rfl H rfl rfl (by repeat constructor) ?_; clear H; intro w H)))
  go_ret
  exact ⟨rfl, H⟩
set_option maxRecDepth 100000 in
set_option maxHeartbeats 4000000 in
theorem trapped_5 (x : GV) (W0 : World) (R : GRd W0 x) (Z : GBig x) : Calls Tryz.prog 130 #[x.val, .int .i64 5] W0 fun e w' => ∃ y : GV, e = .returned y.val ∧ y.m = stoppedM x.m ⟨3, 0, false, (insAtM x.m.prog x.m.pc).x⟩ ∧ Hp W0 w' [.gst y] := by
  obtain ⟨i, hi⟩ : ∃ i, i = insAtM x.prog.xs x.pc := ⟨_, rfl⟩
  have HI := Lib.hid hi; clear hi
  have H := Hp.start W0
  go_enter Tryz.func130, Tryz.ntmps130
  go_wp2_with (first
    | go_skip
    | ((with_reducible refine at_box ?_); first | (refine wpList_box_H (cs := (garr x).toList) rfl rfl H rfl CellsOf.agg ?_; clear H; intro bX w H) | (refine wpList_box_H rfl rfl H rfl (by constructor) ?_; clear H; intro b w H))
    | ((with_reducible refine at_alloc ?_); first | ((with_reducible refine at_dst 4 ?_); refine wpList_alloc_H rfl rfl H ?_; clear H; intro bR w H) | (refine wpList_alloc_H rfl rfl H ?_; clear H; intro b w H))
    | ((with_reducible refine at_load ?_); first | (refine wpList_load_H rfl rfl H rfl (by repeat constructor) ?_) | (refine wpList_loads_H rfl rfl H rfl (by repeat constructor) ?_))
    | ((with_reducible refine at_store ?_); first | (refine wpList_store_H rfl rfl H rfl rfl (by repeat constructor) ?_; clear H; intro w H)))
  refine wp_cut (fun u a' w' => ∃ (y : GV), Hid (y.m = stoppedM x.m ⟨3, 0, false, (insAtM x.m.prog x.m.pc).x⟩) ∧ Hp W0 w' [.box bR 53 (garr y).toList, .gst y] ∧ a' = puts u [(7, x.val), (8, .pointer (some ⟨bX, 0, none⟩)), (9, .slice x.prog.A x.prog.xs.length x.prog.c), (10, .pointer (some ⟨bX, 2, none⟩)), (11, (.int .i64 x.pc)), (12, (.agg #[.int .i64 i.op, .int .i64 i.x])), (13, (.int .i64 i.x)), (14, (Exit.val ⟨3, 0, false, i.x⟩)), (15, y.val)]) ?_ ?_
  · refine wp_region_held (S := (fun w' => Rw w' bX 53 (garr x))) (by kernel_rfl) ?_
    replace H := H.drew
    refine tkH (i := 0) rfl .here (yields_loads_R rfl rfl rfl (fun _ hS => hS) (by repeat constructor)) (H.rw_ (by repeat constructor)) ?_
    (try go_frame)
    refine tkH (i := 1) rfl (.of rfl) (yields_val (v := .pointer (some ⟨bX, 0, none⟩)) rfl (fun _ => by go_simp)) (H.rw_ (by repeat constructor)) ?_
    (try go_frame)
    refine tkH (i := 2) rfl (.of rfl) (yields_load1_R rfl rfl rfl (fun _ hS => hS) rfl) (H.rw_ (by repeat constructor)) ?_
    (try go_frame)
    refine tkH (i := 3) rfl (.of rfl) (yields_val (v := .pointer (some ⟨bX, 2, none⟩)) rfl (fun _ => by go_simp)) (H.rw_ (by repeat constructor)) ?_
    (try go_frame)
    refine tkH (i := 4) rfl (.of rfl) (yields_load1_R rfl rfl rfl (fun _ hS => hS) rfl) (H.rw_ (by repeat constructor)) ?_
    (try go_frame)
    refine anyH_1 (i := 5) (by kernel_rfl) ?_
    refine wpOp_at rfl (.of rfl) rfl ?_
    refine wp_call_H Tryz.f115 rfl rfl Tryz.func115 (by kernel_rfl) rfl rfl (belowS H (insAt_c x.prog x.pc _ (R.prog.at_ H) Z.1 i HI.out)) ?_
    clear H
    rintro _ w ⟨rfl, H⟩
    refine ⟨(H.rw_ (by repeat constructor)), ?_⟩
    (try go_frame)
    refine tkH (i := 6) rfl (.of rfl) (yields_val (v := (.int .i64 i.x)) rfl (fun _ => by go_simp)) (H.rw_ (by repeat constructor)) ?_
    (try go_frame)
    refine anyH_1 (i := 7) (by kernel_rfl) ?_
    refine wpOp_at rfl (.of rfl) rfl ?_
    refine wp_call_H Tryz.f190 rfl rfl Tryz.func190 (by kernel_rfl) rfl rfl (val_H (v := Exit.val ⟨3, 0, false, i.x⟩) H (outExit_c i.x _)) ?_
    clear H
    rintro _ w ⟨rfl, H⟩
    refine ⟨(H.rw_ (by repeat constructor)), ?_⟩
    (try go_frame)
    refine anyH_1 (i := 8) (by kernel_rfl) ?_
    refine wpOp_at rfl (.of rfl) rfl ?_
    refine wp_call_H Tryz.f75 rfl rfl Tryz.func75 (by kernel_rfl) rfl rfl (made_H H ((stopped_c x ⟨3, 0, false, i.x⟩ _ rfl _ (R.at_ H) Z).mono fun _ _ h => mkgS h)) ?_
    clear H
    rintro _ w ⟨y, rfl, HY, H⟩
    refine ⟨(H.rw_ (by repeat constructor)), ?_⟩
    (try go_frame)
    refine anyH_1 (i := 9) (by kernel_rfl) ?_
    refine wpOp_at rfl (.of rfl) rfl ?_
    refine wp_store_H rfl H rfl rfl (by repeat constructor) ?_
    clear H
    intro w H
    refine ⟨(H.rw_ (by repeat constructor)), ?_⟩
    (try go_frame)
    refine wpAnyH_done (by kernel_rfl) ?_ _
    exact ⟨rfl, y, (by show _ = _; rw [HY.out, HI.out]; rfl), H.pick (.cons (by repeat constructor) (.cons (by repeat constructor) .nil)), by first | (simp only [puts_cons, puts_nil, Act.put, List.setIfInBounds_toArray, List.set_cons_succ, List.set_cons_zero]; done) | (simp only [puts_cons, puts_nil, Act.put, List.setIfInBounds_toArray, List.set_cons_succ, List.set_cons_zero]; rfl)⟩
  clear H
  rintro u w ⟨y, HY, H, rfl⟩
  simp only [puts_cons, puts_nil, Act.put, List.setIfInBounds_toArray, List.set_cons_succ, List.set_cons_zero]
  go_wp2_with (first
    | go_skip
    | ((with_reducible refine at_box ?_); first | (refine wpList_box_H rfl rfl H rfl (by constructor) ?_; clear H; intro b w H))
    | ((with_reducible refine at_alloc ?_); first | (refine wpList_alloc_H rfl rfl H ?_; clear H; intro b w H))
    | ((with_reducible refine at_load ?_); first | (refine wpList_load_H rfl rfl H rfl (by repeat constructor) ?_) | (refine wpList_loads_H rfl rfl H rfl (by repeat constructor) ?_))
    | ((with_reducible refine at_store ?_); first | (refine wpList_store_H rfl rfl H rfl rfl (by repeat constructor) ?_; clear H; intro w H)))
  refine bodyPost_ret (results_H rfl H rfl (by repeat constructor)) rfl ⟨y, rfl, HY.out, H.pick (.cons (by repeat constructor) .nil)⟩
set_option maxRecDepth 100000 in
set_option maxHeartbeats 4000000 in
theorem trapped_7 (x : GV) (W0 : World) (R : GRd W0 x) (Z : GBig x) : Calls Tryz.prog 130 #[x.val, .int .i64 7] W0 fun e w' => ∃ y : GV, e = .returned y.val ∧ y.m = stoppedM x.m ⟨4, 0, false, 0⟩ ∧ Hp W0 w' [.gst y] := by
  have H := Hp.start W0
  go_enter Tryz.func130, Tryz.ntmps130
  go_wp2_with (first
    | go_skip
    | ((with_reducible refine at_box ?_); first | (refine wpList_box_H (cs := (garr x).toList) rfl rfl H rfl CellsOf.agg ?_; clear H; intro bX w H) | (refine wpList_box_H rfl rfl H rfl (by constructor) ?_; clear H; intro b w H))
    | ((with_reducible refine at_alloc ?_); first | ((with_reducible refine at_dst 4 ?_); refine wpList_alloc_H rfl rfl H ?_; clear H; intro bR w H) | (refine wpList_alloc_H rfl rfl H ?_; clear H; intro b w H))
    | ((with_reducible refine at_load ?_); first | (refine wpList_load_H rfl rfl H rfl (by repeat constructor) ?_) | (refine wpList_loads_H rfl rfl H rfl (by repeat constructor) ?_))
    | ((with_reducible refine at_store ?_); first | (refine wpList_store_H rfl rfl H rfl rfl (by repeat constructor) ?_; clear H; intro w H))
    | (go_at_call 75; refine (stopped_c x ⟨4, 0, false, 0⟩ _ rfl _ (R.at_ H) Z).mono ?_; rintro e w h; obtain ⟨y, rfl, x1, K⟩ := mkgS h; clear h; have HY := Lib.hid x1; clear x1; replace H := H.add_all K; clear K))
  refine bodyPost_ret (results_H rfl H rfl (by repeat constructor)) rfl ⟨y, rfl, HY.out, H.pick (.cons (by repeat constructor) .nil)⟩
set_option maxRecDepth 100000 in
set_option maxHeartbeats 4000000 in
theorem l18Trap_6 (x : GV) (t : Int) (W0 : World) (R : GRd W0 x) (Z : GBig x) : Calls Tryz.prog 108 #[x.val, .int .i64 t, .int .i64 6] W0 fun e w' => ∃ y : GV, e = .returned (.tuple #[y.val, .bool false]) ∧ y.m = stoppedM x.m ⟨2, 0, false, (insAtM x.m.prog x.m.pc).x⟩ ∧ Hp W0 w' [.gst y] := by
  obtain ⟨i, hi⟩ : ∃ i, i = insAtM x.prog.xs x.pc := ⟨_, rfl⟩
  have HI := Lib.hid hi; clear hi
  have H := Hp.start W0
  go_enter Tryz.func108, Tryz.ntmps108
  go_wp2_with (first
    | go_skip
    | ((with_reducible refine at_box ?_); first | (refine wpList_box_H (cs := (garr x).toList) rfl rfl H rfl CellsOf.agg ?_; clear H; intro bX w H) | (refine wpList_box_H rfl rfl H rfl (by constructor) ?_; clear H; intro b w H))
    | ((with_reducible refine at_alloc ?_); first | ((with_reducible refine at_dst 6 ?_); refine wpList_alloc_H rfl rfl H ?_; clear H; intro bR w H) | ((with_reducible refine at_dst 8 ?_); refine wpList_alloc_H rfl rfl H ?_; clear H; intro bI w H) | (refine wpList_alloc_H rfl rfl H ?_; clear H; intro b w H))
    | ((with_reducible refine at_load ?_); first | (refine wpList_load_H rfl rfl H rfl (by repeat constructor) ?_) | (refine wpList_loads_H rfl rfl H rfl (by repeat constructor) ?_))
    | ((with_reducible refine at_store ?_); first | (refine wpList_store_H rfl rfl H rfl rfl (by repeat constructor) ?_; clear H; intro w H))
    | (go_at_call 109; refine (specInsAt_c x.prog x.pc _ (R.prog.at_ H) Z.1 i HI.out).mono ?_; rintro e w ⟨rfl, hb⟩; replace H := H.still hb; clear hb))
  refine wp_cut (fun u a' w' => ∃ (y : GV), Hid (y.m = stoppedM x.m ⟨2, 0, false, (insAtM x.m.prog x.m.pc).x⟩) ∧ Hp W0 w' [.box bR 53 (garr y).toList, .gst y] ∧ a' = puts u [(17, x.val), (18, .pointer (some ⟨bI, 1, none⟩)), (19, (.int .i64 i.x)), (20, (Exit.val ⟨2, 0, false, i.x⟩)), (21, y.val), (7, (.bool false))]) ?_ ?_
  · refine wp_region_held (S := (fun w' => Rw w' bX 53 (garr x) ∧ Rw w' bI 45 ([.int .i64 i.op, .int .i64 i.x] : List Value).toArray)) (by kernel_rfl) ?_
    replace H := H.drew
    refine tkH (i := 0) rfl .here (yields_loads_R rfl rfl rfl (fun _ hS => hS.1) (by repeat constructor)) ⟨H.rw_ (by repeat constructor), H.rw_ (by repeat constructor)⟩ ?_
    (try go_frame)
    refine tkH (i := 1) rfl (.of rfl) (yields_val (v := .pointer (some ⟨bI, 1, none⟩)) rfl (fun _ => by go_simp)) ⟨H.rw_ (by repeat constructor), H.rw_ (by repeat constructor)⟩ ?_
    (try go_frame)
    refine tkH (i := 2) rfl (.of rfl) (yields_load1_R rfl rfl rfl (fun _ hS => hS.2) rfl) ⟨H.rw_ (by repeat constructor), H.rw_ (by repeat constructor)⟩ ?_
    (try go_frame)
    refine anyH_1 (i := 3) (by kernel_rfl) ?_
    refine wpOp_at rfl (.of rfl) rfl ?_
    refine wp_call_H Tryz.f167 rfl rfl Tryz.func167 (by kernel_rfl) rfl rfl (val_H (v := Exit.val ⟨2, 0, false, i.x⟩) H (specCallExit_c i.x _)) ?_
    clear H
    rintro _ w ⟨rfl, H⟩
    refine ⟨⟨H.rw_ (by repeat constructor), H.rw_ (by repeat constructor)⟩, ?_⟩
    (try go_frame)
    refine anyH_1 (i := 4) (by kernel_rfl) ?_
    refine wpOp_at rfl (.of rfl) rfl ?_
    refine wp_call_H Tryz.f80 rfl rfl Tryz.func80 (by kernel_rfl) rfl rfl (made_H H ((specStopped_c x ⟨2, 0, false, i.x⟩ _ rfl _ (R.at_ H) Z).mono fun _ _ h => mkgS h)) ?_
    clear H
    rintro _ w ⟨y, rfl, HY, H⟩
    refine ⟨⟨H.rw_ (by repeat constructor), H.rw_ (by repeat constructor)⟩, ?_⟩
    (try go_frame)
    refine anyH_1 (i := 5) (by kernel_rfl) ?_
    refine wpOp_at rfl (.of rfl) rfl ?_
    refine wp_store_H rfl H rfl rfl (by repeat constructor) ?_
    clear H
    intro w H
    refine ⟨⟨H.rw_ (by repeat constructor), H.rw_ (by repeat constructor)⟩, ?_⟩
    (try go_frame)
    refine tkH (i := 6) rfl (.of rfl) (yields_val (v := (.bool false)) rfl (fun _ => by go_simp)) ⟨H.rw_ (by repeat constructor), H.rw_ (by repeat constructor)⟩ ?_
    (try go_frame)
    refine wpAnyH_done (by kernel_rfl) ?_ _
    exact ⟨rfl, y, (by show _ = _; rw [HY.out, HI.out]; rfl), H.pick (.cons (by repeat constructor) (.cons (by repeat constructor) .nil)), by first | (simp only [puts_cons, puts_nil, Act.put, List.setIfInBounds_toArray, List.set_cons_succ, List.set_cons_zero]; done) | (simp only [puts_cons, puts_nil, Act.put, List.setIfInBounds_toArray, List.set_cons_succ, List.set_cons_zero]; rfl)⟩
  clear H
  rintro u w ⟨y, HY, H, rfl⟩
  simp only [puts_cons, puts_nil, Act.put, List.setIfInBounds_toArray, List.set_cons_succ, List.set_cons_zero]
  go_wp2_with (first
    | go_skip
    | ((with_reducible refine at_box ?_); first | (refine wpList_box_H rfl rfl H rfl (by constructor) ?_; clear H; intro b w H))
    | ((with_reducible refine at_alloc ?_); first | (refine wpList_alloc_H rfl rfl H ?_; clear H; intro b w H))
    | ((with_reducible refine at_load ?_); first | (refine wpList_load_H rfl rfl H rfl (by repeat constructor) ?_) | (refine wpList_loads_H rfl rfl H rfl (by repeat constructor) ?_))
    | ((with_reducible refine at_store ?_); first | (refine wpList_store_H rfl rfl H rfl rfl (by repeat constructor) ?_; clear H; intro w H)))
  refine bodyPost_ret (results_H2 rfl H rfl (by repeat constructor)) rfl ⟨y, rfl, HY.out, H.pick (.cons (by repeat constructor) .nil)⟩
set_option maxRecDepth 100000 in
set_option maxHeartbeats 4000000 in
theorem l18Trap_5t (x : GV) (t : Int) (ht : hasTrapM t 1 = true) (W0 : World) (R : GRd W0 x) (Z : GBig x) : Calls Tryz.prog 108 #[x.val, .int .i64 t, .int .i64 5] W0 fun e w' => ∃ y : GV, e = .returned (.tuple #[y.val, .bool false]) ∧ y.m = stoppedM x.m ⟨3, 0, false, (insAtM x.m.prog x.m.pc).x⟩ ∧ Hp W0 w' [.gst y] := by
  obtain ⟨i, hi⟩ : ∃ i, i = insAtM x.prog.xs x.pc := ⟨_, rfl⟩
  have HI := Lib.hid hi; clear hi
  have H := Hp.start W0
  go_enter Tryz.func108, Tryz.ntmps108
  go_wp2_with (first
    | go_skip
    | ((with_reducible refine at_box ?_); first | (refine wpList_box_H (cs := (garr x).toList) rfl rfl H rfl CellsOf.agg ?_; clear H; intro bX w H) | (refine wpList_box_H rfl rfl H rfl (by constructor) ?_; clear H; intro b w H))
    | ((with_reducible refine at_alloc ?_); first | ((with_reducible refine at_dst 6 ?_); refine wpList_alloc_H rfl rfl H ?_; clear H; intro bR w H) | ((with_reducible refine at_dst 8 ?_); refine wpList_alloc_H rfl rfl H ?_; clear H; intro bI w H) | (refine wpList_alloc_H rfl rfl H ?_; clear H; intro b w H))
    | ((with_reducible refine at_load ?_); first | (refine wpList_load_H rfl rfl H rfl (by repeat constructor) ?_) | (refine wpList_loads_H rfl rfl H rfl (by repeat constructor) ?_))
    | ((with_reducible refine at_store ?_); first | (refine wpList_store_H rfl rfl H rfl rfl (by repeat constructor) ?_; clear H; intro w H))
    | (go_at_call 109; refine (specInsAt_c x.prog x.pc _ (R.prog.at_ H) Z.1 i HI.out).mono ?_; rintro e w ⟨rfl, hb⟩; replace H := H.still hb; clear hb)
    | (go_at_call 179; refine (specHasTrap_c t _ (by decide) _).mono ?_; rintro e w ⟨he, K⟩; rw [ht] at he; subst he; replace H := H.add_all K; clear K))
  refine wp_cut (fun u a' w' => ∃ (y : GV), Hid (y.m = stoppedM x.m ⟨3, 0, false, (insAtM x.m.prog x.m.pc).x⟩) ∧ Hp W0 w' [.box bR 53 (garr y).toList, .gst y] ∧ a' = puts u [(29, x.val), (30, .pointer (some ⟨bI, 1, none⟩)), (31, (.int .i64 i.x)), (32, (Exit.val ⟨3, 0, false, i.x⟩)), (33, y.val), (7, (.bool false))]) ?_ ?_
  · refine wp_region_held (S := (fun w' => Rw w' bX 53 (garr x) ∧ Rw w' bI 45 ([.int .i64 i.op, .int .i64 i.x] : List Value).toArray)) (by kernel_rfl) ?_
    replace H := H.drew
    refine tkH (i := 0) rfl .here (yields_loads_R rfl rfl rfl (fun _ hS => hS.1) (by repeat constructor)) ⟨H.rw_ (by repeat constructor), H.rw_ (by repeat constructor)⟩ ?_
    (try go_frame)
    refine tkH (i := 1) rfl (.of rfl) (yields_val (v := .pointer (some ⟨bI, 1, none⟩)) rfl (fun _ => by go_simp)) ⟨H.rw_ (by repeat constructor), H.rw_ (by repeat constructor)⟩ ?_
    (try go_frame)
    refine tkH (i := 2) rfl (.of rfl) (yields_load1_R rfl rfl rfl (fun _ hS => hS.2) rfl) ⟨H.rw_ (by repeat constructor), H.rw_ (by repeat constructor)⟩ ?_
    (try go_frame)
    refine anyH_1 (i := 3) (by kernel_rfl) ?_
    refine wpOp_at rfl (.of rfl) rfl ?_
    refine wp_call_H Tryz.f168 rfl rfl Tryz.func168 (by kernel_rfl) rfl rfl (val_H (v := Exit.val ⟨3, 0, false, i.x⟩) H (specOutExit_c i.x _)) ?_
    clear H
    rintro _ w ⟨rfl, H⟩
    refine ⟨⟨H.rw_ (by repeat constructor), H.rw_ (by repeat constructor)⟩, ?_⟩
    (try go_frame)
    refine anyH_1 (i := 4) (by kernel_rfl) ?_
    refine wpOp_at rfl (.of rfl) rfl ?_
    refine wp_call_H Tryz.f80 rfl rfl Tryz.func80 (by kernel_rfl) rfl rfl (made_H H ((specStopped_c x ⟨3, 0, false, i.x⟩ _ rfl _ (R.at_ H) Z).mono fun _ _ h => mkgS h)) ?_
    clear H
    rintro _ w ⟨y, rfl, HY, H⟩
    refine ⟨⟨H.rw_ (by repeat constructor), H.rw_ (by repeat constructor)⟩, ?_⟩
    (try go_frame)
    refine anyH_1 (i := 5) (by kernel_rfl) ?_
    refine wpOp_at rfl (.of rfl) rfl ?_
    refine wp_store_H rfl H rfl rfl (by repeat constructor) ?_
    clear H
    intro w H
    refine ⟨⟨H.rw_ (by repeat constructor), H.rw_ (by repeat constructor)⟩, ?_⟩
    (try go_frame)
    refine tkH (i := 6) rfl (.of rfl) (yields_val (v := (.bool false)) rfl (fun _ => by go_simp)) ⟨H.rw_ (by repeat constructor), H.rw_ (by repeat constructor)⟩ ?_
    (try go_frame)
    refine wpAnyH_done (by kernel_rfl) ?_ _
    exact ⟨rfl, y, (by show _ = _; rw [HY.out, HI.out]; rfl), H.pick (.cons (by repeat constructor) (.cons (by repeat constructor) .nil)), by first | (simp only [puts_cons, puts_nil, Act.put, List.setIfInBounds_toArray, List.set_cons_succ, List.set_cons_zero]; done) | (simp only [puts_cons, puts_nil, Act.put, List.setIfInBounds_toArray, List.set_cons_succ, List.set_cons_zero]; rfl)⟩
  clear H
  rintro u w ⟨y, HY, H, rfl⟩
  simp only [puts_cons, puts_nil, Act.put, List.setIfInBounds_toArray, List.set_cons_succ, List.set_cons_zero]
  go_wp2_with (first
    | go_skip
    | ((with_reducible refine at_box ?_); first | (refine wpList_box_H rfl rfl H rfl (by constructor) ?_; clear H; intro b w H))
    | ((with_reducible refine at_alloc ?_); first | (refine wpList_alloc_H rfl rfl H ?_; clear H; intro b w H))
    | ((with_reducible refine at_load ?_); first | (refine wpList_load_H rfl rfl H rfl (by repeat constructor) ?_) | (refine wpList_loads_H rfl rfl H rfl (by repeat constructor) ?_))
    | ((with_reducible refine at_store ?_); first | (refine wpList_store_H rfl rfl H rfl rfl (by repeat constructor) ?_; clear H; intro w H)))
  refine bodyPost_ret (results_H2 rfl H rfl (by repeat constructor)) rfl ⟨y, rfl, HY.out, H.pick (.cons (by repeat constructor) .nil)⟩
set_option maxRecDepth 100000 in
set_option maxHeartbeats 4000000 in
theorem l18Trap_5f (x : GV) (t : Int) (ht : hasTrapM t 1 = false) (W0 : World) (R : GRd W0 x) (Z : GBig x) : Calls Tryz.prog 108 #[x.val, .int .i64 t, .int .i64 5] W0 fun e w' => ∃ y : GV, e = .returned (.tuple #[y.val, .bool true]) ∧ y.m = movedM x.m ∧ Hp W0 w' [.gst y] := by
  obtain ⟨i, hi⟩ : ∃ i, i = insAtM x.prog.xs x.pc := ⟨_, rfl⟩
  have HI := Lib.hid hi; clear hi
  have H := Hp.start W0
  go_enter Tryz.func108, Tryz.ntmps108
  go_wp2_with (first
    | go_skip
    | ((with_reducible refine at_box ?_); first | (refine wpList_box_H (cs := (garr x).toList) rfl rfl H rfl CellsOf.agg ?_; clear H; intro bX w H) | (refine wpList_box_H rfl rfl H rfl (by constructor) ?_; clear H; intro b w H))
    | ((with_reducible refine at_alloc ?_); first | ((with_reducible refine at_dst 6 ?_); refine wpList_alloc_H rfl rfl H ?_; clear H; intro bR w H) | ((with_reducible refine at_dst 8 ?_); refine wpList_alloc_H rfl rfl H ?_; clear H; intro bI w H) | (refine wpList_alloc_H rfl rfl H ?_; clear H; intro b w H))
    | ((with_reducible refine at_load ?_); first | (refine wpList_load_H rfl rfl H rfl (by repeat constructor) ?_) | (refine wpList_loads_H rfl rfl H rfl (by repeat constructor) ?_))
    | ((with_reducible refine at_store ?_); first | (refine wpList_store_H rfl rfl H rfl rfl (by repeat constructor) ?_; clear H; intro w H))
    | (go_at_call 109; refine (specInsAt_c x.prog x.pc _ (R.prog.at_ H) Z.1 i HI.out).mono ?_; rintro e w ⟨rfl, hb⟩; replace H := H.still hb; clear hb)
    | (go_at_call 179; refine (specHasTrap_c t _ (by decide) _).mono ?_; rintro e w ⟨he, K⟩; rw [ht] at he; subst he; replace H := H.add_all K; clear K)
    | (go_at_call 79; refine (specMoved_c x _ rfl _ (R.at_ H) Z).mono ?_; rintro e w h; obtain ⟨y, rfl, x1, K⟩ := mkgS h; clear h; have HY := Lib.hid x1; clear x1; replace H := H.add_all K; clear K))
  refine bodyPost_ret (results_H2 rfl H rfl (by repeat constructor)) rfl ⟨y, rfl, HY.out, H.pick (.cons (by repeat constructor) .nil)⟩
set_option maxRecDepth 100000 in
set_option maxHeartbeats 4000000 in
theorem l18Trap_7t (x : GV) (t : Int) (ht : hasTrapM t 2 = true) (W0 : World) (R : GRd W0 x) (Z : GBig x) : Calls Tryz.prog 108 #[x.val, .int .i64 t, .int .i64 7] W0 fun e w' => ∃ y : GV, e = .returned (.tuple #[y.val, .bool false]) ∧ y.m = stoppedM x.m ⟨4, 0, false, 0⟩ ∧ Hp W0 w' [.gst y] := by
  obtain ⟨i, hi⟩ : ∃ i, i = insAtM x.prog.xs x.pc := ⟨_, rfl⟩
  have HI := Lib.hid hi; clear hi
  have H := Hp.start W0
  go_enter Tryz.func108, Tryz.ntmps108
  go_wp2_with (first
    | go_skip
    | ((with_reducible refine at_box ?_); first | (refine wpList_box_H (cs := (garr x).toList) rfl rfl H rfl CellsOf.agg ?_; clear H; intro bX w H) | (refine wpList_box_H rfl rfl H rfl (by constructor) ?_; clear H; intro b w H))
    | ((with_reducible refine at_alloc ?_); first | ((with_reducible refine at_dst 6 ?_); refine wpList_alloc_H rfl rfl H ?_; clear H; intro bR w H) | ((with_reducible refine at_dst 8 ?_); refine wpList_alloc_H rfl rfl H ?_; clear H; intro bI w H) | (refine wpList_alloc_H rfl rfl H ?_; clear H; intro b w H))
    | ((with_reducible refine at_load ?_); first | (refine wpList_load_H rfl rfl H rfl (by repeat constructor) ?_) | (refine wpList_loads_H rfl rfl H rfl (by repeat constructor) ?_))
    | ((with_reducible refine at_store ?_); first | (refine wpList_store_H rfl rfl H rfl rfl (by repeat constructor) ?_; clear H; intro w H))
    | (go_at_call 109; refine (specInsAt_c x.prog x.pc _ (R.prog.at_ H) Z.1 i HI.out).mono ?_; rintro e w ⟨rfl, hb⟩; replace H := H.still hb; clear hb)
    | (go_at_call 179; refine (specHasTrap_c t _ (by decide) _).mono ?_; rintro e w ⟨he, K⟩; rw [ht] at he; subst he; replace H := H.add_all K; clear K)
    | (go_at_call 80; refine (specStopped_c x ⟨4, 0, false, 0⟩ _ rfl _ (R.at_ H) Z).mono ?_; rintro e w h; obtain ⟨y, rfl, x1, K⟩ := mkgS h; clear h; have HY := Lib.hid x1; clear x1; replace H := H.add_all K; clear K))
  refine bodyPost_ret (results_H2 rfl H rfl (by repeat constructor)) rfl ⟨y, rfl, HY.out, H.pick (.cons (by repeat constructor) .nil)⟩
set_option maxRecDepth 100000 in
set_option maxHeartbeats 4000000 in
theorem l18Trap_7f (x : GV) (t : Int) (ht : hasTrapM t 2 = false) (W0 : World) (R : GRd W0 x) (Z : GBig x) : Calls Tryz.prog 108 #[x.val, .int .i64 t, .int .i64 7] W0 fun e w' => ∃ y : GV, e = .returned (.tuple #[y.val, .bool true]) ∧ y.m = heldM x.m ∧ Hp W0 w' [.gst y] := by
  obtain ⟨i, hi⟩ : ∃ i, i = insAtM x.prog.xs x.pc := ⟨_, rfl⟩
  have HI := Lib.hid hi; clear hi
  have H := Hp.start W0
  go_enter Tryz.func108, Tryz.ntmps108
  go_wp2_with (first
    | go_skip
    | ((with_reducible refine at_box ?_); first | (refine wpList_box_H (cs := (garr x).toList) rfl rfl H rfl CellsOf.agg ?_; clear H; intro bX w H) | (refine wpList_box_H rfl rfl H rfl (by constructor) ?_; clear H; intro b w H))
    | ((with_reducible refine at_alloc ?_); first | ((with_reducible refine at_dst 6 ?_); refine wpList_alloc_H rfl rfl H ?_; clear H; intro bR w H) | ((with_reducible refine at_dst 8 ?_); refine wpList_alloc_H rfl rfl H ?_; clear H; intro bI w H) | (refine wpList_alloc_H rfl rfl H ?_; clear H; intro b w H))
    | ((with_reducible refine at_load ?_); first | (refine wpList_load_H rfl rfl H rfl (by repeat constructor) ?_) | (refine wpList_loads_H rfl rfl H rfl (by repeat constructor) ?_))
    | ((with_reducible refine at_store ?_); first | (refine wpList_store_H rfl rfl H rfl rfl (by repeat constructor) ?_; clear H; intro w H))
    | (go_at_call 109; refine (specInsAt_c x.prog x.pc _ (R.prog.at_ H) Z.1 i HI.out).mono ?_; rintro e w ⟨rfl, hb⟩; replace H := H.still hb; clear hb)
    | (go_at_call 179; refine (specHasTrap_c t _ (by decide) _).mono ?_; rintro e w ⟨he, K⟩; rw [ht] at he; subst he; replace H := H.add_all K; clear K)
    | (go_at_call 83; refine (specHeld_c x _ rfl _ (R.at_ H) Z).mono ?_; rintro e w h; obtain ⟨y, rfl, x1, K⟩ := mkgS h; clear h; have HY := Lib.hid x1; clear x1; replace H := H.add_all K; clear K))
  refine bodyPost_ret (results_H2 rfl H rfl (by repeat constructor)) rfl ⟨y, rfl, HY.out, H.pick (.cons (by repeat constructor) .nil)⟩
end Go.Proofs.YtaafnenmdombiaaGreat
