/- Contracts of the draws of the laws on bare machines. No condition but that the argument lies in memory. -/
import Derived.Test.YtaafnenmdombiaaGreatDe
import Derived.Test.YtaafnenmdombiaaGreatBz
namespace Go.Proofs.YtaafnenmdombiaaGreat
set_option linter.unusedSimpArgs false
set_option linter.unusedVariables false
open Go.RowKit
section
variable {P : Program} {w0 w : World} {L : List En}
theorem res_ctt {fn : Func} {p0 : Tmp} {p1 : Tmp} {p2 : Tmp} {ty0 : TypeId} {b0 n0 : Nat} {vs0 : List Value} (h : fn.results = #[.cell p0 ty0, .tmp p1, .tmp p2]) (H : Hp w0 w L) {tmps : Array Value} (hp0 : tmps.getD p0 undef = .pointer (some ⟨b0, 0, none⟩)) [hS0 : TyA P ty0 n0] (t0 : LoadsAt L b0 0 n0 vs0) :
    (results fn tmps).run P w = .ok (.tuple #[.agg vs0.toArray, tmps.getD p1 undef, tmps.getD p2 undef]) w := by
  have hr0 := run_loads_H H hS0 t0
  simp [Instr.loadAt, Instr.sureAddr] at hr0
  have hp0' : tmps[p0]?.getD undef = .pointer (some ⟨b0, 0, none⟩) := by simpa using hp0
  simp [results, h, Sem.run_bind, Result.andThen, asAddr, hp0', hr0]
theorem res_cttc {fn : Func} {p0 : Tmp} {p1 : Tmp} {p2 : Tmp} {p3 : Tmp} {ty0 : TypeId} {b0 n0 : Nat} {vs0 : List Value} {ty3 : TypeId} {b3 n3 : Nat} {vs3 : List Value} (h : fn.results = #[.cell p0 ty0, .tmp p1, .tmp p2, .cell p3 ty3]) (H : Hp w0 w L) {tmps : Array Value} (hp0 : tmps.getD p0 undef = .pointer (some ⟨b0, 0, none⟩)) [hS0 : TyA P ty0 n0] (t0 : LoadsAt L b0 0 n0 vs0) (hp3 : tmps.getD p3 undef = .pointer (some ⟨b3, 0, none⟩)) [hS3 : TyA P ty3 n3] (t3 : LoadsAt L b3 0 n3 vs3) :
    (results fn tmps).run P w = .ok (.tuple #[.agg vs0.toArray, tmps.getD p1 undef, tmps.getD p2 undef, .agg vs3.toArray]) w := by
  have hr0 := run_loads_H H hS0 t0
  simp [Instr.loadAt, Instr.sureAddr] at hr0
  have hp0' : tmps[p0]?.getD undef = .pointer (some ⟨b0, 0, none⟩) := by simpa using hp0
  have hr3 := run_loads_H H hS3 t3
  simp [Instr.loadAt, Instr.sureAddr] at hr3
  have hp3' : tmps[p3]?.getD undef = .pointer (some ⟨b3, 0, none⟩) := by simpa using hp3
  simp [results, h, Sem.run_bind, Result.andThen, asAddr, hp0', hr0, hp3', hr3]
end
theorem brd_any {x : BV} {E : En} (h : MRd E x.mem) : ∀ w, (En.all [E, .gsl x.gs, .many En.gst x.gs.xs, .int x.outs]).ok w → BRd w x := fun w hw => by
  have h1 : E.ok w := hw E (by simp)
  have h2 : (En.gsl x.gs).ok w := hw (.gsl x.gs) (by simp)
  have h3 : (En.many En.gst x.gs.xs).ok w := hw (.many En.gst x.gs.xs) (by simp)
  have h4 : (En.int x.outs).ok w := hw (.int x.outs) (by simp)
  exact ⟨(h w h1).1, (h w h1).2, Own.rd h2 g_len, fun g hg => GOwn.rd (h3 g hg), Own.rd h4 int_len⟩
theorem bbig_sm {x : BV} (h1 : MSm x.mem) (h2 : GsSm x.gs) (h3 : x.outs.xs.length ≤ 44) : BBig x := by
  have a : (x.mem.xs.map (fun y => y.xs.length)).sum ≤ 4 * x.mem.xs.length := by
    have := h1.2
    generalize x.mem.xs = l at this
    induction l with
    | nil => simp
    | cons y l ih => have h := this y (by simp); have := ih (fun z hz => this z (by simp [hz])); simp only [List.map_cons, List.sum_cons, List.length_cons]; omega
  have b : (x.gs.xs.map (fun g => g.m.size)).sum ≤ 68 * x.gs.xs.length := by
    have := h2.2
    generalize x.gs.xs = l at this
    induction l with
    | nil => simp
    | cons y l ih =>
      have h := this y (by simp); have := ih (fun z hz => this z (by simp [hz]))
      have e : y.m.size = y.prog.xs.length + y.written.xs.length + y.live.xs.length + y.seen.xs.length := rfl
      obtain ⟨q1, q2, q3, q4⟩ := h
      simp only [List.map_cons, List.sum_cons, List.length_cons]; omega
  unfold BBig MB.size
  have e1 : rowsSize x.m.memory = x.mem.xs.length + (x.mem.xs.map (fun y => y.xs.length)).sum := by simp [rowsSize, BV.m, memOf, List.map_map, Function.comp_def]
  have e2 : gsSize x.m.guests = x.gs.xs.length + (x.gs.xs.map (fun g => g.m.size)).sum := by simp [gsSize, BV.m, gsOf, List.map_map, Function.comp_def]
  have e3 : x.m.outs.length = x.outs.xs.length := rfl
  have := h1.1; have := h2.1
  rw [e1, e2, e3]; omega
/-- What is known of a drawn bare machine. -/
def BDr (E : En) (x : BV) : Prop := (∀ w, E.ok w → BRd w x) ∧ BBig x
theorem bdr_any {x : BV} {E : En} (h : MSm x.mem ∧ MRd E x.mem ∧ GsSm x.gs ∧ x.outs.xs.length ≤ 44) : BDr (.all [E, .gsl x.gs, .many En.gst x.gs.xs, .int x.outs]) x := ⟨brd_any h.2.1, bbig_sm h.1 h.2.2.1 h.2.2.2⟩
theorem size_sm {x : BV} (h1 : MSm x.mem) (h2 : GsSm x.gs) (h3 : x.outs.xs.length ≤ 44) : x.m.size ≤ 1000 := by
  have a : (x.mem.xs.map (fun y => y.xs.length)).sum ≤ 4 * x.mem.xs.length := by
    have := h1.2
    generalize x.mem.xs = l at this
    induction l with
    | nil => simp
    | cons y l ih => have h := this y (by simp); have := ih (fun z hz => this z (by simp [hz])); simp only [List.map_cons, List.sum_cons, List.length_cons]; omega
  have b : (x.gs.xs.map (fun g => g.m.size)).sum ≤ 68 * x.gs.xs.length := by
    have := h2.2
    generalize x.gs.xs = l at this
    induction l with
    | nil => simp
    | cons y l ih =>
      have h := this y (by simp); have := ih (fun z hz => this z (by simp [hz]))
      have e : y.m.size = y.prog.xs.length + y.written.xs.length + y.live.xs.length + y.seen.xs.length := rfl
      obtain ⟨q1, q2, q3, q4⟩ := h
      simp only [List.map_cons, List.sum_cons, List.length_cons]; omega
  unfold MB.size
  have e1 : rowsSize x.m.memory = x.mem.xs.length + (x.mem.xs.map (fun y => y.xs.length)).sum := by simp [rowsSize, BV.m, memOf, List.map_map, Function.comp_def]
  have e2 : gsSize x.m.guests = x.gs.xs.length + (x.gs.xs.map (fun g => g.m.size)).sum := by simp [gsSize, BV.m, gsOf, List.map_map, Function.comp_def]
  have e3 : x.m.outs.length = x.outs.xs.length := rfl
  have := h1.1; have := h2.1
  rw [e1, e2, e3]; omega
set_option maxRecDepth 100000 in
set_option maxHeartbeats 4000000 in
theorem drawGuestAt_c (s : Sl Int) (W0 : World) (R : Rd u8cell 1 W0 s ∧ s.xs.length ≤ 1048576) : Calls Tryz.prog 39 #[.slice s.A s.xs.length s.c] W0 fun e w' => ∃ (x : BV) (EB : En) (g : Int), e = .returned (.tuple #[x.val, .int .i64 g]) ∧ BDr EB x ∧ x.m.size ≤ 1000 ∧ Hp W0 w' [EB] := by
  have H := Hp.start W0
  go_enter Tryz.func39, Tryz.ntmps39
  go_wp2_with (first
    | go_skip
    | ((with_reducible refine at_box ?_); first | (refine wpList_box_H rfl rfl H rfl (by constructor) ?_; clear H; intro b w H))
    | ((with_reducible refine at_alloc ?_); first | (refine wpList_alloc_H rfl rfl H ?_; clear H; intro b w H))
    | ((with_reducible refine at_load ?_); first | (refine wpList_load_H rfl rfl H rfl (by repeat constructor) ?_) | (refine wpList_loads_H rfl rfl H rfl (by repeat constructor) ?_))
    | ((with_reducible refine at_store ?_); first | (refine wpList_store_H rfl rfl H rfl rfl (by repeat constructor) ?_; clear H; intro w H))
    | (go_at_call 65; refine (l01New_cu s _ ⟨R.1.at_ H, R.2⟩).mono ?_; rintro e w ⟨b, rfl, K⟩; replace H := H.add_all K; clear K))
  go_at_call 66
  refine (l17Any_H s b H (by repeat constructor) R).mono ?_
  clear H
  rintro e w ⟨x, E, rfl, hs, H⟩
  have HSx := Lib.hid hs; clear hs
  replace H := Hp.close_all (l := [E, .gsl x.gs, .many En.gst x.gs.xs, .int x.outs]) H
  go_wp2_with (first
    | go_skip
    | ((with_reducible refine at_box ?_); first | (refine wpList_box_H rfl rfl H rfl (by constructor) ?_; clear H; intro b w H))
    | ((with_reducible refine at_alloc ?_); first | (refine wpList_alloc_H rfl rfl H ?_; clear H; intro bQ w H))
    | ((with_reducible refine at_load ?_); first | (refine wpList_load_H rfl rfl H rfl (by repeat constructor) ?_) | (refine wpList_loads_H rfl rfl H rfl (by repeat constructor) ?_))
    | ((with_reducible refine at_store ?_); first | (refine wpList_store_H rfl rfl H rfl rfl (by repeat constructor) ?_; clear H; intro w H)))
  go_at_call 69
  refine (l17At_H s b H (by repeat constructor) R).mono ?_
  clear H
  rintro e w ⟨g, rfl, H⟩
  go_wp2_with (first
    | go_skip
    | ((with_reducible refine at_box ?_); first | (refine wpList_box_H rfl rfl H rfl (by constructor) ?_; clear H; intro b w H))
    | ((with_reducible refine at_alloc ?_); first | (refine wpList_alloc_H rfl rfl H ?_; clear H; intro bQ w H))
    | ((with_reducible refine at_load ?_); first | (refine wpList_load_H rfl rfl H rfl (by repeat constructor) ?_) | (refine wpList_loads_H rfl rfl H rfl (by repeat constructor) ?_))
    | ((with_reducible refine at_store ?_); first | (refine wpList_store_H rfl rfl H rfl rfl (by repeat constructor) ?_; clear H; intro w H)))
  refine bodyPost_ret (results_H2 rfl H rfl (by repeat constructor)) rfl ?_
  exact ⟨x, (En.all [E, .gsl x.gs, .many En.gst x.gs.xs, .int x.outs]), g, rfl, bdr_any HSx.out, size_sm HSx.out.1 HSx.out.2.2.1 HSx.out.2.2.2, H.pick (.cons (by repeat constructor) .nil)⟩
set_option maxRecDepth 100000 in
set_option maxHeartbeats 4000000 in
theorem drawBareFlush_c (s : Sl Int) (W0 : World) (R : Rd u8cell 1 W0 s ∧ s.xs.length ≤ 1048576) : Calls Tryz.prog 30 #[.slice s.A s.xs.length s.c] W0 fun e w' => ∃ (x : BV) (EB : En) (g p : Int), e = .returned (.tuple #[x.val, .int .i64 g, .int .i64 p]) ∧ BDr EB x ∧ x.m.size ≤ 1000 ∧ Hp W0 w' [EB] := by
  have H := Hp.start W0
  go_enter Tryz.func30, Tryz.ntmps30
  go_wp2_with (first
    | go_skip
    | ((with_reducible refine at_box ?_); first | (refine wpList_box_H rfl rfl H rfl (by constructor) ?_; clear H; intro b w H))
    | ((with_reducible refine at_alloc ?_); first | (refine wpList_alloc_H rfl rfl H ?_; clear H; intro b w H))
    | ((with_reducible refine at_load ?_); first | (refine wpList_load_H rfl rfl H rfl (by repeat constructor) ?_) | (refine wpList_loads_H rfl rfl H rfl (by repeat constructor) ?_))
    | ((with_reducible refine at_store ?_); first | (refine wpList_store_H rfl rfl H rfl rfl (by repeat constructor) ?_; clear H; intro w H))
    | (go_at_call 65; refine (l01New_cu s _ ⟨R.1.at_ H, R.2⟩).mono ?_; rintro e w ⟨b, rfl, K⟩; replace H := H.add_all K; clear K))
  go_at_call 66
  refine (l17Any_H s b H (by repeat constructor) R).mono ?_
  clear H
  rintro e w ⟨x, E, rfl, hs, H⟩
  have HSx := Lib.hid hs; clear hs
  replace H := Hp.close_all (l := [E, .gsl x.gs, .many En.gst x.gs.xs, .int x.outs]) H
  go_wp2_with (first
    | go_skip
    | ((with_reducible refine at_box ?_); first | (refine wpList_box_H rfl rfl H rfl (by constructor) ?_; clear H; intro b w H))
    | ((with_reducible refine at_alloc ?_); first | (refine wpList_alloc_H rfl rfl H ?_; clear H; intro bQ w H))
    | ((with_reducible refine at_load ?_); first | (refine wpList_load_H rfl rfl H rfl (by repeat constructor) ?_) | (refine wpList_loads_H rfl rfl H rfl (by repeat constructor) ?_))
    | ((with_reducible refine at_store ?_); first | (refine wpList_store_H rfl rfl H rfl rfl (by repeat constructor) ?_; clear H; intro w H)))
  go_at_call 69
  refine (l17At_H s b H (by repeat constructor) R).mono ?_
  clear H
  rintro e w ⟨g, rfl, H⟩
  go_wp2_with (first
    | go_skip
    | ((with_reducible refine at_box ?_); first | (refine wpList_box_H rfl rfl H rfl (by constructor) ?_; clear H; intro b w H))
    | ((with_reducible refine at_alloc ?_); first | (refine wpList_alloc_H rfl rfl H ?_; clear H; intro bQ w H))
    | ((with_reducible refine at_load ?_); first | (refine wpList_load_H rfl rfl H rfl (by repeat constructor) ?_) | (refine wpList_loads_H rfl rfl H rfl (by repeat constructor) ?_))
    | ((with_reducible refine at_store ?_); first | (refine wpList_store_H rfl rfl H rfl rfl (by repeat constructor) ?_; clear H; intro w H)))
  go_at_call 131
  refine (l03Page_H s b H (by repeat constructor) R).mono ?_
  clear H
  rintro e w ⟨p, rfl, H⟩
  go_wp2_with (first
    | go_skip
    | ((with_reducible refine at_box ?_); first | (refine wpList_box_H rfl rfl H rfl (by constructor) ?_; clear H; intro b w H))
    | ((with_reducible refine at_alloc ?_); first | (refine wpList_alloc_H rfl rfl H ?_; clear H; intro bQ w H))
    | ((with_reducible refine at_load ?_); first | (refine wpList_load_H rfl rfl H rfl (by repeat constructor) ?_) | (refine wpList_loads_H rfl rfl H rfl (by repeat constructor) ?_))
    | ((with_reducible refine at_store ?_); first | (refine wpList_store_H rfl rfl H rfl rfl (by repeat constructor) ?_; clear H; intro w H)))
  refine bodyPost_ret (res_ctt rfl H rfl (by repeat constructor)) rfl ?_
  exact ⟨x, (En.all [E, .gsl x.gs, .many En.gst x.gs.xs, .int x.outs]), g, p, rfl, bdr_any HSx.out, size_sm HSx.out.1 HSx.out.2.2.1 HSx.out.2.2.2, H.pick (.cons (by repeat constructor) .nil)⟩
set_option maxRecDepth 100000 in
set_option maxHeartbeats 4000000 in
theorem drawBareSet_c (s : Sl Int) (W0 : World) (R : Rd u8cell 1 W0 s ∧ s.xs.length ≤ 1048576) : Calls Tryz.prog 27 #[.slice s.A s.xs.length s.c] W0 fun e w' => ∃ (x : BV) (EB : En) (g p : Int) (c : Slot), e = .returned (.tuple #[x.val, .int .i64 g, .int .i64 p, c.val]) ∧ BDr EB x ∧ x.m.size ≤ 1000 ∧ Hp W0 w' [EB] := by
  have H := Hp.start W0
  go_enter Tryz.func27, Tryz.ntmps27
  go_wp2_with (first
    | go_skip
    | ((with_reducible refine at_box ?_); first | (refine wpList_box_H rfl rfl H rfl (by constructor) ?_; clear H; intro b w H))
    | ((with_reducible refine at_alloc ?_); first | (refine wpList_alloc_H rfl rfl H ?_; clear H; intro b w H))
    | ((with_reducible refine at_load ?_); first | (refine wpList_load_H rfl rfl H rfl (by repeat constructor) ?_) | (refine wpList_loads_H rfl rfl H rfl (by repeat constructor) ?_))
    | ((with_reducible refine at_store ?_); first | (refine wpList_store_H rfl rfl H rfl rfl (by repeat constructor) ?_; clear H; intro w H))
    | (go_at_call 65; refine (l01New_cu s _ ⟨R.1.at_ H, R.2⟩).mono ?_; rintro e w ⟨b, rfl, K⟩; replace H := H.add_all K; clear K))
  go_at_call 66
  refine (l17Any_H s b H (by repeat constructor) R).mono ?_
  clear H
  rintro e w ⟨x, E, rfl, hs, H⟩
  have HSx := Lib.hid hs; clear hs
  replace H := Hp.close_all (l := [E, .gsl x.gs, .many En.gst x.gs.xs, .int x.outs]) H
  go_wp2_with (first
    | go_skip
    | ((with_reducible refine at_box ?_); first | (refine wpList_box_H rfl rfl H rfl (by constructor) ?_; clear H; intro b w H))
    | ((with_reducible refine at_alloc ?_); first | (refine wpList_alloc_H rfl rfl H ?_; clear H; intro bQ w H))
    | ((with_reducible refine at_load ?_); first | (refine wpList_load_H rfl rfl H rfl (by repeat constructor) ?_) | (refine wpList_loads_H rfl rfl H rfl (by repeat constructor) ?_))
    | ((with_reducible refine at_store ?_); first | (refine wpList_store_H rfl rfl H rfl rfl (by repeat constructor) ?_; clear H; intro w H)))
  go_at_call 69
  refine (l17At_H s b H (by repeat constructor) R).mono ?_
  clear H
  rintro e w ⟨g, rfl, H⟩
  go_wp2_with (first
    | go_skip
    | ((with_reducible refine at_box ?_); first | (refine wpList_box_H rfl rfl H rfl (by constructor) ?_; clear H; intro b w H))
    | ((with_reducible refine at_alloc ?_); first | (refine wpList_alloc_H rfl rfl H ?_; clear H; intro bQ w H))
    | ((with_reducible refine at_load ?_); first | (refine wpList_load_H rfl rfl H rfl (by repeat constructor) ?_) | (refine wpList_loads_H rfl rfl H rfl (by repeat constructor) ?_))
    | ((with_reducible refine at_store ?_); first | (refine wpList_store_H rfl rfl H rfl rfl (by repeat constructor) ?_; clear H; intro w H)))
  go_at_call 131
  refine (l03Page_H s b H (by repeat constructor) R).mono ?_
  clear H
  rintro e w ⟨p, rfl, H⟩
  go_wp2_with (first
    | go_skip
    | ((with_reducible refine at_box ?_); first | (refine wpList_box_H rfl rfl H rfl (by constructor) ?_; clear H; intro b w H))
    | ((with_reducible refine at_alloc ?_); first | (refine wpList_alloc_H rfl rfl H ?_; clear H; intro bQ w H))
    | ((with_reducible refine at_load ?_); first | (refine wpList_load_H rfl rfl H rfl (by repeat constructor) ?_) | (refine wpList_loads_H rfl rfl H rfl (by repeat constructor) ?_))
    | ((with_reducible refine at_store ?_); first | (refine wpList_store_H rfl rfl H rfl rfl (by repeat constructor) ?_; clear H; intro w H)))
  go_at_call 132
  refine (l03Any_H s b H (by repeat constructor) R).mono ?_
  clear H
  rintro e w ⟨c, rfl, H⟩
  go_wp2_with (first
    | go_skip
    | ((with_reducible refine at_box ?_); first | (refine wpList_box_H rfl rfl H rfl (by constructor) ?_; clear H; intro b w H))
    | ((with_reducible refine at_alloc ?_); first | (refine wpList_alloc_H rfl rfl H ?_; clear H; intro bQ w H))
    | ((with_reducible refine at_load ?_); first | (refine wpList_load_H rfl rfl H rfl (by repeat constructor) ?_) | (refine wpList_loads_H rfl rfl H rfl (by repeat constructor) ?_))
    | ((with_reducible refine at_store ?_); first | (refine wpList_store_H rfl rfl H rfl rfl (by repeat constructor) ?_; clear H; intro w H)))
  refine bodyPost_ret (res_cttc rfl H rfl (by repeat constructor) rfl (by repeat constructor)) rfl ?_
  exact ⟨x, (En.all [E, .gsl x.gs, .many En.gst x.gs.xs, .int x.outs]), g, p, c, rfl, bdr_any HSx.out, size_sm HSx.out.1 HSx.out.2.2.1 HSx.out.2.2.2, H.pick (.cons (by repeat constructor) .nil)⟩
set_option maxRecDepth 100000 in
set_option maxHeartbeats 4000000 in
theorem drawBareStep_c (s : Sl Int) (W0 : World) (R : Rd u8cell 1 W0 s ∧ s.xs.length ≤ 1048576) : Calls Tryz.prog 52 #[.slice s.A s.xs.length s.c] W0 fun e w' => ∃ (x : BV) (EB : En) (g : Int), e = .returned (.tuple #[x.val, .int .i64 g]) ∧ BDr EB x ∧ x.m.size ≤ 1000 ∧ Hp W0 w' [EB] := by
  have H := Hp.start W0
  go_enter Tryz.func52, Tryz.ntmps52
  go_wp2_with (first
    | go_skip
    | ((with_reducible refine at_box ?_); first | (refine wpList_box_H rfl rfl H rfl (by constructor) ?_; clear H; intro b w H))
    | ((with_reducible refine at_alloc ?_); first | (refine wpList_alloc_H rfl rfl H ?_; clear H; intro b w H))
    | ((with_reducible refine at_load ?_); first | (refine wpList_load_H rfl rfl H rfl (by repeat constructor) ?_) | (refine wpList_loads_H rfl rfl H rfl (by repeat constructor) ?_))
    | ((with_reducible refine at_store ?_); first | (refine wpList_store_H rfl rfl H rfl rfl (by repeat constructor) ?_; clear H; intro w H))
    | (go_at_call 65; refine (l01New_cu s _ ⟨R.1.at_ H, R.2⟩).mono ?_; rintro e w ⟨b, rfl, K⟩; replace H := H.add_all K; clear K))
  go_at_call 39
  refine (drawGuestAt_c s _ ⟨R.1.at_ H, R.2⟩).mono ?_
  rintro e w ⟨x, EB, g, rfl, hb, hsz, K⟩
  replace H := H.add_all K
  clear K
  go_wp2_with (first
    | go_skip
    | ((with_reducible refine at_box ?_); first | (refine wpList_box_H rfl rfl H rfl (by constructor) ?_; clear H; intro b w H))
    | ((with_reducible refine at_alloc ?_); first | (refine wpList_alloc_H rfl rfl H ?_; clear H; intro bQ w H))
    | ((with_reducible refine at_load ?_); first | (refine wpList_load_H rfl rfl H rfl (by repeat constructor) ?_) | (refine wpList_loads_H rfl rfl H rfl (by repeat constructor) ?_))
    | ((with_reducible refine at_store ?_); first | (refine wpList_store_H rfl rfl H rfl rfl (by repeat constructor) ?_; clear H; intro w H)))
  refine bodyPost_ret (results_H2 rfl H rfl (by repeat constructor)) rfl ?_
  exact ⟨x, EB, g, rfl, hb, hsz, H.pick (.cons (by repeat constructor) .nil)⟩
set_option maxRecDepth 100000 in
set_option maxHeartbeats 4000000 in
theorem drawBareSteps_c (s : Sl Int) (W0 : World) (R : Rd u8cell 1 W0 s ∧ s.xs.length ≤ 1048576) : Calls Tryz.prog 53 #[.slice s.A s.xs.length s.c] W0 fun e w' => ∃ (x : BV) (EB : En) (l : Sl Int), e = .returned (.tuple #[x.val, .slice l.A l.xs.length l.c]) ∧ (BDr EB x ∧ l.xs.length ≤ 7) ∧ Hp W0 w' [EB, .int l] := by
  have H := Hp.start W0
  go_enter Tryz.func53, Tryz.ntmps53
  go_wp2_with (first
    | go_skip
    | ((with_reducible refine at_box ?_); first | (refine wpList_box_H rfl rfl H rfl (by constructor) ?_; clear H; intro b w H))
    | ((with_reducible refine at_alloc ?_); first | ((with_reducible refine at_dst 2 ?_); refine wpList_alloc_H rfl rfl H ?_; clear H; intro bR w H) | (refine wpList_alloc_H rfl rfl H ?_; clear H; intro b w H))
    | ((with_reducible refine at_load ?_); first | (refine wpList_load_H rfl rfl H rfl (by repeat constructor) ?_) | (refine wpList_loads_H rfl rfl H rfl (by repeat constructor) ?_))
    | ((with_reducible refine at_store ?_); first | (refine wpList_store_H rfl rfl H rfl rfl (by repeat constructor) ?_; clear H; intro w H))
    | (go_at_call 65; refine (l01New_cu s _ ⟨R.1.at_ H, R.2⟩).mono ?_; rintro e w ⟨b, rfl, K⟩; replace H := H.add_all K; clear K))
  go_at_call 66
  refine (l17Any_H s b H (by repeat constructor) R).mono ?_
  clear H
  rintro e w ⟨x, E, rfl, hs, H⟩
  have HSx := Lib.hid hs; clear hs
  replace H := Hp.close_all (l := [E, .gsl x.gs, .many En.gst x.gs.xs, .int x.outs]) H
  go_wp2_with (first
    | go_skip
    | ((with_reducible refine at_box ?_); first | (refine wpList_box_H rfl rfl H rfl (by constructor) ?_; clear H; intro b w H))
    | ((with_reducible refine at_alloc ?_); first | (refine wpList_alloc_H rfl rfl H ?_; clear H; intro bX w H))
    | ((with_reducible refine at_load ?_); first | (refine wpList_load_H rfl rfl H rfl (by repeat constructor) ?_) | (refine wpList_loads_H rfl rfl H rfl (by repeat constructor) ?_))
    | ((with_reducible refine at_store ?_); first | (refine wpList_store_H rfl rfl H rfl rfl (by repeat constructor) ?_; clear H; intro w H))
    | ((with_reducible refine at_slice ?_); first | (refine wpList_nil_H rfl rfl H ?_; clear H; intro bn w H)))
  obtain ⟨EB, hEB⟩ : ∃ EB, EB = (En.all [E, .gsl x.gs, .many En.gst x.gs.xs, .int x.outs]) := ⟨_, rfl⟩
  rw [← hEB] at H
  have HBD : Hid (BDr EB x) := Lib.hid (by rw [hEB]; exact bdr_any HSx.out)
  clear hEB HSx
  replace H : Hp W0 _ [EB, .cu b s, .box bX 28 (barr x).toList, .box bR 28 [.slice none 0 0, .slice none 0 0, .slice none 0 0, .int .i64 0], .int ⟨some ⟨bn, 0, none⟩, 0, []⟩] := H.pick (.cons (by repeat constructor) (.cons (by repeat constructor) (.cons (by repeat constructor) (.cons (by repeat constructor) (.cons (by repeat constructor) .nil)))))
  go_loopw [6, 7] (fun ov i wr => ∃ (k : Nat) (p : Sl Int), k ≤ 7 ∧ i = .int .i64 k ∧ ov = .slice p.A p.xs.length p.c ∧ p.xs.length = k ∧ Hp W0 wr [EB, .cu b s, .box bX 28 (barr x).toList, .box bR 28 [.slice none 0 0, .slice none 0 0, .slice none 0 0, .int .i64 0], .int p]) (fun _ i _ => 7 - (intOf i).toNat)
  case atStart => exact ⟨0, ⟨some ⟨bn, 0, none⟩, 0, []⟩, by omega, rfl, rfl, rfl, H.pick (.cons (by repeat constructor) (.cons (by repeat constructor) (.cons (by repeat constructor) (.cons (by repeat constructor) (.cons (by repeat constructor) .nil)))))⟩
  case round =>
    clear H
    obtain ⟨k, p, hk0, rfl, rfl, hl, H⟩ := hrel
    have hz : p.xs.length ≤ 7 := by omega
    have HL := Lib.hid hl; clear hl
    go_wp2_with (first
      | go_skip
      | ((with_reducible refine at_box ?_); first | (refine wpList_box_H rfl rfl H rfl (by constructor) ?_; clear H; intro b w H))
      | ((with_reducible refine at_alloc ?_); first | (refine wpList_alloc_H rfl rfl H ?_; clear H; intro b w H))
      | ((with_reducible refine at_load ?_); first | (refine wpList_load_H rfl rfl H rfl (by repeat constructor) ?_) | (refine wpList_loads_H rfl rfl H rfl (by repeat constructor) ?_))
      | ((with_reducible refine at_store ?_); first | (refine wpList_store_H rfl rfl H rfl rfl (by repeat constructor) ?_; clear H; intro w H))
      | ((with_reducible refine at_slice ?_); first | ((with_reducible refine at_dst 22 ?_); refine wpList_one_H rfl rfl H i rfl CellsOf.int rfl (by decide) ?_; clear H; intro b1 w H))
      | ((with_reducible refine at_append ?_); first | ((with_reducible refine at_dst 23 ?_); refine wpList_append_H rfl rfl H p (⟨some ⟨b1, 0, none⟩, 1, [i]⟩ : Sl Int) rfl rfl (by repeat constructor) (H.rd (s := (⟨some ⟨b1, 0, none⟩, 1, [i]⟩ : Sl Int)) (by repeat constructor) int_len) (by simp only [List.length_cons, List.length_nil]; omega) (by decide) ?_; clear H; intro p2 w h2 H))
      | (go_at_call 94; refine (l01Below_H s b _ (by decide) (by decide) H (by repeat constructor) R).mono ?_; clear H; rintro e w ⟨v, rfl, va, vb, H⟩)
      | (go_at_call 69; refine (l17At_H s b H (by repeat constructor) R).mono ?_; clear H; rintro e w ⟨i, rfl, H⟩))
    all_goals first
      | (refine bodyPost_ret (results_H2 rfl H rfl (by repeat constructor)) rfl ?_; exact ⟨x, EB, p, rfl, ⟨HBD.out, hz⟩, H.pick (.cons (by repeat constructor) (.cons (by repeat constructor) .nil))⟩)
      | (go_roundw; (case rel => exact ⟨k + 1, p2, by omega, by go_num, rfl, by rw [h2.out]; simp [HL.out], H.pick (.cons (by repeat constructor) (.cons (by repeat constructor) (.cons (by repeat constructor) (.cons (by repeat constructor) (.cons (by repeat constructor) .nil)))))⟩); (case measure => simp [intOf]; omega))
def DAns (W0 : World) (e : Ending) (w' : World) : Prop := ∃ (x : BV) (EB : En) (g v : Int), e = .returned (.tuple #[x.val, .int .i64 g, .int .i64 v]) ∧ BDr EB x ∧ x.m.size ≤ 1000 ∧ Hp W0 w' [EB]
theorem DAns.mk {W0 : World} {e : Ending} {w' : World} (x : BV) (EB : En) (g v : Int) (h1 : e = .returned (.tuple #[x.val, .int .i64 g, .int .i64 v])) (h2 : BDr EB x) (h4 : x.m.size ≤ 1000) (h3 : Hp W0 w' [EB]) : DAns W0 e w' := ⟨x, EB, g, v, h1, h2, h4, h3⟩
def DSame (W0 : World) (e : Ending) (w' : World) : Prop := ∃ (x y : BV) (E1 E2 : En), e = .returned (.tuple #[x.val, y.val]) ∧ (BDr E1 x ∧ BDr E2 y) ∧ Hp W0 w' [E1, E2]
theorem DSame.mk {W0 : World} {e : Ending} {w' : World} (x y : BV) (E1 E2 : En) (h1 : e = .returned (.tuple #[x.val, y.val])) (h2 : BDr E1 x) (h3 : BDr E2 y) (h : Hp W0 w' [E1, E2]) : DSame W0 e w' := ⟨x, y, E1, E2, h1, ⟨h2, h3⟩, h⟩
end Go.Proofs.YtaafnenmdombiaaGreat
