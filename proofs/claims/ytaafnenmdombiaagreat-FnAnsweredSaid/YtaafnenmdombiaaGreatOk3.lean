/- Contracts of CtlFaults, CtlOk and GuestOk, of the program and of the reference. No condition but that the argument lies in memory. -/
import Derived.Test.YtaafnenmdombiaaGreatOk2
namespace Go.Proofs.YtaafnenmdombiaaGreat
open Go.RowKit
/-- A slice of one integer is made. -/
theorem wpList_int1_H {P : Program} {ops : Array Oper} {rest : List Oper} {o : Oper} {a : Act} {w0 w : World} {L : List En} {Q : Go.Exit → Act → World → Prop} (hgd : Region.wanted o (yielded ops a.tmps) = true) {t : TypeId} {x : Operand} (ho : o.op = .buildSlice t 1 #[(0, x)]) (H : Hp w0 w L) {bytes e : Nat} [hE : EI P t icell 1 bytes e] [hZ : TyZ P e [.int .i64 0]] {n : Int} (hx : a.eval x = .int .i64 n)
    (h : ∀ b w', Hp w0 w' (.sl icell 1 e ⟨some ⟨b, 0, none⟩, 1, [n]⟩ :: L) → wpList P ops Q rest (a.put o.dst (.slice (some ⟨b, 0, none⟩) 1 1)) w') : wpList P ops Q (o :: rest) a w := by
  refine wpList_lit_H hgd ho H [n] ?_ rfl (by decide) (by decide) h
  simp only [List.map_toArray, List.map_cons, List.map_nil, hx]
  kernel_rfl
set_option maxRecDepth 100000 in
set_option maxHeartbeats 2000000 in
theorem ctlFaults_c (c : Ctl) (w : World) : Calls Tryz.prog 172 #[c.val] w fun e w' => ∃ d : Sl Int, e = .returned (.slice d.A d.xs.length d.c) ∧ d.xs.length = (ctlFaultsM c).length ∧ Below w.heap.size w w' := by
  cases k3 : (c.post == 0) <;> cases k5 : (c.traps == 2)
  all_goals
  have k3' : (c.post != 0) = !(c.post == 0) := rfl
  rw [k3] at k3'
  simp only [Bool.not_true, Bool.not_false] at k3'
  have H := Hp.start w
  go_enter Tryz.func172, Tryz.ntmps172
  go_wp2_with (first
    | (refine wpList_box_H rfl rfl H rfl (by constructor) ?_; clear H; intro b w H)
    | (refine wpList_alloc_H rfl rfl H ?_; clear H; intro b w H)
    | (refine wpList_load_H rfl rfl H rfl (by repeat constructor) ?_)
    | (refine wpList_loads_H rfl rfl H rfl (by repeat constructor) ?_)
    | (refine wpList_store_H rfl rfl H rfl rfl (by repeat constructor) ?_; clear H; intro w H)
    | (go_at_call 72; ((with_reducible refine (within_any c.traps 0 3 _).mono ?_)); rintro e w' ⟨rfl, rfl⟩)
    | (go_at_call 72; ((with_reducible refine (within_any c.post 0 255 _).mono ?_)); rintro e w' ⟨rfl, rfl⟩)
    | (refine wpList_nil_H rfl rfl H ?_; clear H; intro b w H)
    | (refine wpList_int1_H rfl rfl H rfl ?_; clear H; intro b w H)
    | (refine wpList_append_H rfl rfl H _ ⟨_, 1, [_]⟩ rfl rfl (by repeat constructor) (H.rdI (s := ⟨_, 1, [_]⟩) (by repeat constructor)) (by simp only [List.length_cons, List.length_nil]; omega) (by decide) ?_; clear H; intro q w hq H; have lq := Nat.le_of_eq (congrArg List.length hq.out); simp only [List.length_append, List.length_cons, List.length_nil] at lq)
    | (refine wpList_append_H rfl rfl H ⟨_, 0, []⟩ ⟨_, 1, [_]⟩ rfl rfl (by repeat constructor) (H.rdI (s := ⟨_, 1, [_]⟩) (by repeat constructor)) (by simp only [List.length_cons, List.length_nil]; omega) (by decide) ?_; clear H; intro q w hq H; have lq := Nat.le_of_eq (congrArg List.length hq.out); simp only [List.length_append, List.length_cons, List.length_nil] at lq))
  all_goals go_ret
  all_goals have HB := H.below
  all_goals clear H
  all_goals unfold Hid at *
  all_goals first
    | (refine ⟨_, rfl, ?_, HB⟩; clear HB; simp_all [ctlFaultsM]; done)
    | (refine ⟨⟨_, 0, []⟩, rfl, ?_, HB⟩; clear HB; simp_all [ctlFaultsM]; done)
set_option maxRecDepth 100000 in
set_option maxHeartbeats 2000000 in
theorem ctlOk_c (c : Ctl) (w : World) : Calls Tryz.prog 89 #[c.val] w fun e w' => e = .returned (.bool (ctlOkM c)) ∧ Below w.heap.size w w' := by
  have H := Hp.start w
  go_enter Tryz.func89, Tryz.ntmps89
  go_wp2_with (first
    | (refine wpList_box_H rfl rfl H rfl (by constructor) ?_; clear H; intro b w H)
    | (refine wpList_alloc_H rfl rfl H ?_; clear H; intro b w H)
    | (refine wpList_load_H rfl rfl H rfl (by repeat constructor) ?_)
    | (refine wpList_loads_H rfl rfl H rfl (by repeat constructor) ?_)
    | (refine wpList_store_H rfl rfl H rfl rfl (by repeat constructor) ?_; clear H; intro w H)
    | (go_at_call 172; ((with_reducible refine (ctlFaults_c c _).mono ?_)); rintro e w ⟨d, rfl, hd, hb⟩; have HD := Lib.hid hd; clear hd; replace H := H.still hb; clear hb))
  all_goals (go_ret; refine ⟨ret_bool ?_, H.below⟩; clear H; unfold ctlOkM; rw [← HD.out]; rw [Bool.eq_iff_iff]; simp)
set_option maxRecDepth 100000 in
set_option maxHeartbeats 2000000 in
theorem specCtlFaults_c (c : Ctl) (w : World) : Calls Tryz.prog 173 #[c.val] w fun e w' => ∃ d : Sl Int, e = .returned (.slice d.A d.xs.length d.c) ∧ d.xs.length = (ctlFaultsM c).length ∧ Below w.heap.size w w' := by
  cases k3 : (c.post == 0) <;> cases k5 : (c.traps == 2)
  all_goals
  have k3' : (c.post != 0) = !(c.post == 0) := rfl
  rw [k3] at k3'
  simp only [Bool.not_true, Bool.not_false] at k3'
  have H := Hp.start w
  go_enter Tryz.func173, Tryz.ntmps173
  go_wp2_with (first
    | (refine wpList_box_H rfl rfl H rfl (by constructor) ?_; clear H; intro b w H)
    | (refine wpList_alloc_H rfl rfl H ?_; clear H; intro b w H)
    | (refine wpList_load_H rfl rfl H rfl (by repeat constructor) ?_)
    | (refine wpList_loads_H rfl rfl H rfl (by repeat constructor) ?_)
    | (refine wpList_store_H rfl rfl H rfl rfl (by repeat constructor) ?_; clear H; intro w H)
    | (go_at_call 78; ((with_reducible refine (in_any c.traps 0 3 _).mono ?_)); rintro e w' ⟨rfl, rfl⟩)
    | (go_at_call 78; ((with_reducible refine (in_any c.post 0 255 _).mono ?_)); rintro e w' ⟨rfl, rfl⟩)
    | (refine wpList_nil_H rfl rfl H ?_; clear H; intro b w H)
    | (refine wpList_int1_H rfl rfl H rfl ?_; clear H; intro b w H)
    | (refine wpList_append_H rfl rfl H _ ⟨_, 1, [_]⟩ rfl rfl (by repeat constructor) (H.rdI (s := ⟨_, 1, [_]⟩) (by repeat constructor)) (by simp only [List.length_cons, List.length_nil]; omega) (by decide) ?_; clear H; intro q w hq H; have lq := Nat.le_of_eq (congrArg List.length hq.out); simp only [List.length_append, List.length_cons, List.length_nil] at lq)
    | (refine wpList_append_H rfl rfl H ⟨_, 0, []⟩ ⟨_, 1, [_]⟩ rfl rfl (by repeat constructor) (H.rdI (s := ⟨_, 1, [_]⟩) (by repeat constructor)) (by simp only [List.length_cons, List.length_nil]; omega) (by decide) ?_; clear H; intro q w hq H; have lq := Nat.le_of_eq (congrArg List.length hq.out); simp only [List.length_append, List.length_cons, List.length_nil] at lq))
  all_goals go_ret
  all_goals have HB := H.below
  all_goals clear H
  all_goals unfold Hid at *
  all_goals first
    | (refine ⟨_, rfl, ?_, HB⟩; clear HB; simp_all [ctlFaultsM]; done)
    | (refine ⟨⟨_, 0, []⟩, rfl, ?_, HB⟩; clear HB; simp_all [ctlFaultsM]; done)
set_option maxRecDepth 100000 in
set_option maxHeartbeats 2000000 in
theorem specCtlOk_c (c : Ctl) (w : World) : Calls Tryz.prog 91 #[c.val] w fun e w' => e = .returned (.bool (ctlOkM c)) ∧ Below w.heap.size w w' := by
  have H := Hp.start w
  go_enter Tryz.func91, Tryz.ntmps91
  go_wp2_with (first
    | (refine wpList_box_H rfl rfl H rfl (by constructor) ?_; clear H; intro b w H)
    | (refine wpList_alloc_H rfl rfl H ?_; clear H; intro b w H)
    | (refine wpList_load_H rfl rfl H rfl (by repeat constructor) ?_)
    | (refine wpList_loads_H rfl rfl H rfl (by repeat constructor) ?_)
    | (refine wpList_store_H rfl rfl H rfl rfl (by repeat constructor) ?_; clear H; intro w H)
    | (go_at_call 173; ((with_reducible refine (specCtlFaults_c c _).mono ?_)); rintro e w ⟨d, rfl, hd, hb⟩; have HD := Lib.hid hd; clear hd; replace H := H.still hb; clear hb))
  all_goals (go_ret; refine ⟨ret_bool ?_, H.below⟩; clear H; unfold ctlOkM; rw [← HD.out]; rw [Bool.eq_iff_iff]; simp)
end Go.Proofs.YtaafnenmdombiaaGreat
