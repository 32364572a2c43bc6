/- Contracts of the draws of the laws on bare machines. No condition but that the argument lies in memory. -/
import Derived.Test.YtaafnenmdombiaaGreatDe
import Derived.Test.YtaafnenmdombiaaGreatBz
namespace Go.Proofs.YtaafnenmdombiaaGreat
open Go.RowKit
section
variable {P : Program} {w0 w : World} {L : List En}
set_option linter.unusedSimpArgs false in
theorem res_ctc {fn : Func} {p0 : Tmp} {p1 : Tmp} {p2 : Tmp} {ty0 : TypeId} {b0 n0 : Nat} {vs0 : List Value} {ty2 : TypeId} {b2 n2 : Nat} {vs2 : List Value} (h : fn.results = #[.cell p0 ty0, .tmp p1, .cell p2 ty2]) (H : Hp w0 w L) {tmps : Array Value} (hp0 : tmps.getD p0 undef = .pointer (some ⟨b0, 0, none⟩)) [hS0 : TyA P ty0 n0] (t0 : LoadsAt L b0 0 n0 vs0) (hp2 : tmps.getD p2 undef = .pointer (some ⟨b2, 0, none⟩)) [hS2 : TyA P ty2 n2] (t2 : LoadsAt L b2 0 n2 vs2) :
    (results fn tmps).run P w = .ok (.tuple #[.agg vs0.toArray, tmps.getD p1 undef, .agg vs2.toArray]) w := by
  have hr0 := run_loads_H H hS0 t0
  simp [Instr.loadAt, Instr.sureAddr] at hr0
  have hp0' : tmps[p0]?.getD undef = .pointer (some ⟨b0, 0, none⟩) := by simpa using hp0
  have hr2 := run_loads_H H hS2 t2
  simp [Instr.loadAt, Instr.sureAddr] at hr2
  have hp2' : tmps[p2]?.getD undef = .pointer (some ⟨b2, 0, none⟩) := by simpa using hp2
  simp [results, h, Sem.run_bind, Result.andThen, asAddr, hp0', hr0, hp2', hr2]
set_option linter.unusedSimpArgs false in
theorem res_cc {fn : Func} {p0 : Tmp} {p1 : Tmp} {ty0 : TypeId} {b0 n0 : Nat} {vs0 : List Value} {ty1 : TypeId} {b1 n1 : Nat} {vs1 : List Value} (h : fn.results = #[.cell p0 ty0, .cell p1 ty1]) (H : Hp w0 w L) {tmps : Array Value} (hp0 : tmps.getD p0 undef = .pointer (some ⟨b0, 0, none⟩)) [hS0 : TyA P ty0 n0] (t0 : LoadsAt L b0 0 n0 vs0) (hp1 : tmps.getD p1 undef = .pointer (some ⟨b1, 0, none⟩)) [hS1 : TyA P ty1 n1] (t1 : LoadsAt L b1 0 n1 vs1) :
    (results fn tmps).run P w = .ok (.tuple #[.agg vs0.toArray, .agg vs1.toArray]) w := by
  have hr0 := run_loads_H H hS0 t0
  simp [Instr.loadAt, Instr.sureAddr] at hr0
  have hp0' : tmps[p0]?.getD undef = .pointer (some ⟨b0, 0, none⟩) := by simpa using hp0
  have hr1 := run_loads_H H hS1 t1
  simp [Instr.loadAt, Instr.sureAddr] at hr1
  have hp1' : tmps[p1]?.getD undef = .pointer (some ⟨b1, 0, none⟩) := by simpa using hp1
  simp [results, h, Sem.run_bind, Result.andThen, asAddr, hp0', hr0, hp1', hr1]
end
theorem brd_any {x : BV} {E : En} (h : MRd E x.mem) : ∀ w, (En.all [E, .gsl x.gs, .many En.gst x.gs.xs, .int x.outs]).ok w → BRd w x := fun w hw => by
  have h1 : E.ok w := hw E (by simp)
  have h2 : (En.gsl x.gs).ok w := hw (.gsl x.gs) (by simp)
  have h3 : (En.many En.gst x.gs.xs).ok w := hw (.many En.gst x.gs.xs) (by simp)
  have h4 : (En.int x.outs).ok w := hw (.int x.outs) (by simp)
  exact ⟨(h w h1).1, (h w h1).2, Own.rd h2 g_len, fun g hg => GOwn.rd (h3 g hg), Own.rd h4 int_len⟩
theorem bbig_sm {x : BV} (h1 : MSm x.mem) (h2 : GsSm x.gs) (h3 : x.outs.xs.length ≤ 44) : BBig x := by
  have a : (x.mem.xs.map (fun y => y.xs.length)).sum ≤ 4 * x.mem.xs.length := by
    have := h1.2
    generalize x.mem.xs = l at this
    induction l with
    | nil => simp
    | cons y l ih => have h := this y (by simp); have := ih (fun z hz => this z (by simp [hz])); simp only [List.map_cons, List.sum_cons, List.length_cons]; omega
  have b : (x.gs.xs.map (fun g => g.m.size)).sum ≤ 68 * x.gs.xs.length := by
    have := h2.2
    generalize x.gs.xs = l at this
    induction l with
    | nil => simp
    | cons y l ih =>
      have h := this y (by simp); have := ih (fun z hz => this z (by simp [hz]))
      have e : y.m.size = y.prog.xs.length + y.written.xs.length + y.live.xs.length + y.seen.xs.length := rfl
      obtain ⟨q1, q2, q3, q4⟩ := h
      simp only [List.map_cons, List.sum_cons, List.length_cons]; omega
  unfold BBig MB.size
  have e1 : rowsSize x.m.memory = x.mem.xs.length + (x.mem.xs.map (fun y => y.xs.length)).sum := by simp [rowsSize, BV.m, memOf, List.map_map, Function.comp_def]
  have e2 : gsSize x.m.guests = x.gs.xs.length + (x.gs.xs.map (fun g => g.m.size)).sum := by simp [gsSize, BV.m, gsOf, List.map_map, Function.comp_def]
  have e3 : x.m.outs.length = x.outs.xs.length := rfl
  have := h1.1; have := h2.1
  rw [e1, e2, e3]; omega
/-- What is known of a drawn bare machine. -/
def BDr (E : En) (x : BV) : Prop := (∀ w, E.ok w → BRd w x) ∧ BBig x
theorem bdr_any {x : BV} {E : En} (h : MSm x.mem ∧ MRd E x.mem ∧ GsSm x.gs ∧ x.outs.xs.length ≤ 44) : BDr (.all [E, .gsl x.gs, .many En.gst x.gs.xs, .int x.outs]) x := ⟨brd_any h.2.1, bbig_sm h.1 h.2.2.1 h.2.2.2⟩
theorem size_sm {x : BV} (h1 : MSm x.mem) (h2 : GsSm x.gs) (h3 : x.outs.xs.length ≤ 44) : x.m.size ≤ 1000 := by
  have a : (x.mem.xs.map (fun y => y.xs.length)).sum ≤ 4 * x.mem.xs.length := by
    have := h1.2
    generalize x.mem.xs = l at this
    induction l with
    | nil => simp
    | cons y l ih => have h := this y (by simp); have := ih (fun z hz => this z (by simp [hz])); simp only [List.map_cons, List.sum_cons, List.length_cons]; omega
  have b : (x.gs.xs.map (fun g => g.m.size)).sum ≤ 68 * x.gs.xs.length := by
    have := h2.2
    generalize x.gs.xs = l at this
    induction l with
    | nil => simp
    | cons y l ih =>
      have h := this y (by simp); have := ih (fun z hz => this z (by simp [hz]))
      have e : y.m.size = y.prog.xs.length + y.written.xs.length + y.live.xs.length + y.seen.xs.length := rfl
      obtain ⟨q1, q2, q3, q4⟩ := h
      simp only [List.map_cons, List.sum_cons, List.length_cons]; omega
  unfold MB.size
  have e1 : rowsSize x.m.memory = x.mem.xs.length + (x.mem.xs.map (fun y => y.xs.length)).sum := by simp [rowsSize, BV.m, memOf, List.map_map, Function.comp_def]
  have e2 : gsSize x.m.guests = x.gs.xs.length + (x.gs.xs.map (fun g => g.m.size)).sum := by simp [gsSize, BV.m, gsOf, List.map_map, Function.comp_def]
  have e3 : x.m.outs.length = x.outs.xs.length := rfl
  have := h1.1; have := h2.1
  rw [e1, e2, e3]; omega
set_option linter.unusedSimpArgs false in
set_option linter.unusedVariables false in
set_option maxRecDepth 100000 in
set_option maxHeartbeats 4000000 in
theorem drawBareOk_c (s : Sl Int) (W0 : World) (R : Rd u8cell 1 W0 s ∧ s.xs.length ≤ 1048576) : Calls Tryz.prog 44 #[.slice s.A s.xs.length s.c] W0 fun e w' => ∃ (x : BV) (EB : En), e = .returned x.val ∧ BDr EB x ∧ x.m.size ≤ 1000 ∧ Hp W0 w' [EB] := by
  have H := Hp.start W0
  go_enter Tryz.func44, Tryz.ntmps44
  go_wp2_with (first
    | go_skip
    | ((with_reducible refine at_box ?_); first | (refine wpList_box_H rfl rfl H rfl (by first | exact CellsOf.agg | exact CellsOf.int | exact CellsOf.bool | exact CellsOf.slice | exact CellsOf.string | exact CellsOf.pointer | exact CellsOf.func) ?_; clear H; intro b w H))
    | ((with_reducible refine at_alloc ?_); first | (refine wpList_alloc_H rfl rfl H ?_; clear H; intro b w H))
    | ((with_reducible refine at_load ?_); first | (refine wpList_load_H rfl rfl H rfl (by repeat (first | exact LoadAt.here rfl | apply LoadAt.there)) ?_) | (refine wpList_loads_H rfl rfl H rfl (by repeat (first | (apply LoadsAt.here; repeat (first | exact GetsAt.nil | apply GetsAt.here | apply GetsAt.there)) | apply LoadsAt.there)) ?_))
    | ((with_reducible refine at_store ?_); first | (refine wpList_store_H rfl rfl H rfl rfl (by repeat (first | (apply StoreAt.here; (first | exact CellsOf.agg | exact CellsOf.int | exact CellsOf.bool | exact CellsOf.slice | exact CellsOf.string | exact CellsOf.pointer | exact CellsOf.func); (repeat (first | exact SetsAt.nil | apply SetsAt.here | apply SetsAt.there)); exact rfl; exact rfl) | apply StoreAt.there)) ?_; clear H; intro w H))
    | (go_at_call 65; refine (l01New_cu s _ ⟨R.1.at_ H, R.2⟩).mono ?_; rintro e w ⟨b, rfl, K⟩; replace H := H.add_all K; clear K))
  go_at_call 66
  refine (l17Any_H s b H (by repeat (first | exact Take.head | apply Take.tail)) R).mono ?_
  clear H
  rintro e w ⟨x, E, rfl, hs, H⟩
  have HSx := Lib.hid hs; clear hs
  replace H := Hp.close_all (l := [E, .gsl x.gs, .many En.gst x.gs.xs, .int x.outs]) H
  go_wp2_with (first
    | go_skip
    | ((with_reducible refine at_box ?_); first | (refine wpList_box_H rfl rfl H rfl (by first | exact CellsOf.agg | exact CellsOf.int | exact CellsOf.bool | exact CellsOf.slice | exact CellsOf.string | exact CellsOf.pointer | exact CellsOf.func) ?_; clear H; intro b w H))
    | ((with_reducible refine at_alloc ?_); first | (refine wpList_alloc_H rfl rfl H ?_; clear H; intro bQ w H))
    | ((with_reducible refine at_load ?_); first | (refine wpList_load_H rfl rfl H rfl (by repeat (first | exact LoadAt.here rfl | apply LoadAt.there)) ?_) | (refine wpList_loads_H rfl rfl H rfl (by repeat (first | (apply LoadsAt.here; repeat (first | exact GetsAt.nil | apply GetsAt.here | apply GetsAt.there)) | apply LoadsAt.there)) ?_))
    | ((with_reducible refine at_store ?_); first | (refine wpList_store_H rfl rfl H rfl rfl (by repeat (first | (apply StoreAt.here; (first | exact CellsOf.agg | exact CellsOf.int | exact CellsOf.bool | exact CellsOf.slice | exact CellsOf.string | exact CellsOf.pointer | exact CellsOf.func); (repeat (first | exact SetsAt.nil | apply SetsAt.here | apply SetsAt.there)); exact rfl; exact rfl) | apply StoreAt.there)) ?_; clear H; intro w H)))
  refine bodyPost_ret (results_H rfl H rfl (by repeat (first | (apply LoadsAt.here; repeat (first | exact GetsAt.nil | apply GetsAt.here | apply GetsAt.there)) | apply LoadsAt.there))) rfl ?_
  exact ⟨x, (En.all [E, .gsl x.gs, .many En.gst x.gs.xs, .int x.outs]), rfl, bdr_any HSx.out, size_sm HSx.out.1 HSx.out.2.2.1 HSx.out.2.2.2, H.pick (.cons (by repeat (first | exact Take.head | apply Take.tail)) .nil)⟩
set_option linter.unusedSimpArgs false in
set_option linter.unusedVariables false in
set_option maxRecDepth 100000 in
set_option maxHeartbeats 4000000 in
theorem drawGuestAt_c (s : Sl Int) (W0 : World) (R : Rd u8cell 1 W0 s ∧ s.xs.length ≤ 1048576) : Calls Tryz.prog 39 #[.slice s.A s.xs.length s.c] W0 fun e w' => ∃ (x : BV) (EB : En) (g : Int), e = .returned (.tuple #[x.val, .int .i64 g]) ∧ BDr EB x ∧ x.m.size ≤ 1000 ∧ Hp W0 w' [EB] := by
  have H := Hp.start W0
  go_enter Tryz.func39, Tryz.ntmps39
  go_wp2_with (first
    | go_skip
    | ((with_reducible refine at_box ?_); first | (refine wpList_box_H rfl rfl H rfl (by first | exact CellsOf.agg | exact CellsOf.int | exact CellsOf.bool | exact CellsOf.slice | exact CellsOf.string | exact CellsOf.pointer | exact CellsOf.func) ?_; clear H; intro b w H))
    | ((with_reducible refine at_alloc ?_); first | (refine wpList_alloc_H rfl rfl H ?_; clear H; intro b w H))
    | ((with_reducible refine at_load ?_); first | (refine wpList_load_H rfl rfl H rfl (by repeat (first | exact LoadAt.here rfl | apply LoadAt.there)) ?_) | (refine wpList_loads_H rfl rfl H rfl (by repeat (first | (apply LoadsAt.here; repeat (first | exact GetsAt.nil | apply GetsAt.here | apply GetsAt.there)) | apply LoadsAt.there)) ?_))
    | ((with_reducible refine at_store ?_); first | (refine wpList_store_H rfl rfl H rfl rfl (by repeat (first | (apply StoreAt.here; (first | exact CellsOf.agg | exact CellsOf.int | exact CellsOf.bool | exact CellsOf.slice | exact CellsOf.string | exact CellsOf.pointer | exact CellsOf.func); (repeat (first | exact SetsAt.nil | apply SetsAt.here | apply SetsAt.there)); exact rfl; exact rfl) | apply StoreAt.there)) ?_; clear H; intro w H))
    | (go_at_call 65; refine (l01New_cu s _ ⟨R.1.at_ H, R.2⟩).mono ?_; rintro e w ⟨b, rfl, K⟩; replace H := H.add_all K; clear K))
  go_at_call 66
  refine (l17Any_H s b H (by repeat (first | exact Take.head | apply Take.tail)) R).mono ?_
  clear H
  rintro e w ⟨x, E, rfl, hs, H⟩
  have HSx := Lib.hid hs; clear hs
  replace H := Hp.close_all (l := [E, .gsl x.gs, .many En.gst x.gs.xs, .int x.outs]) H
  go_wp2_with (first
    | go_skip
    | ((with_reducible refine at_box ?_); first | (refine wpList_box_H rfl rfl H rfl (by first | exact CellsOf.agg | exact CellsOf.int | exact CellsOf.bool | exact CellsOf.slice | exact CellsOf.string | exact CellsOf.pointer | exact CellsOf.func) ?_; clear H; intro b w H))
    | ((with_reducible refine at_alloc ?_); first | (refine wpList_alloc_H rfl rfl H ?_; clear H; intro bQ w H))
    | ((with_reducible refine at_load ?_); first | (refine wpList_load_H rfl rfl H rfl (by repeat (first | exact LoadAt.here rfl | apply LoadAt.there)) ?_) | (refine wpList_loads_H rfl rfl H rfl (by repeat (first | (apply LoadsAt.here; repeat (first | exact GetsAt.nil | apply GetsAt.here | apply GetsAt.there)) | apply LoadsAt.there)) ?_))
    | ((with_reducible refine at_store ?_); first | (refine wpList_store_H rfl rfl H rfl rfl (by repeat (first | (apply StoreAt.here; (first | exact CellsOf.agg | exact CellsOf.int | exact CellsOf.bool | exact CellsOf.slice | exact CellsOf.string | exact CellsOf.pointer | exact CellsOf.func); (repeat (first | exact SetsAt.nil | apply SetsAt.here | apply SetsAt.there)); exact rfl; exact rfl) | apply StoreAt.there)) ?_; clear H; intro w H)))
  go_at_call 69
  refine (l17At_H s b H (by repeat (first | exact Take.head | apply Take.tail)) R).mono ?_
  clear H
  rintro e w ⟨g, rfl, H⟩
  go_wp2_with (first
    | go_skip
    | ((with_reducible refine at_box ?_); first | (refine wpList_box_H rfl rfl H rfl (by first | exact CellsOf.agg | exact CellsOf.int | exact CellsOf.bool | exact CellsOf.slice | exact CellsOf.string | exact CellsOf.pointer | exact CellsOf.func) ?_; clear H; intro b w H))
    | ((with_reducible refine at_alloc ?_); first | (refine wpList_alloc_H rfl rfl H ?_; clear H; intro bQ w H))
    | ((with_reducible refine at_load ?_); first | (refine wpList_load_H rfl rfl H rfl (by repeat (first | exact LoadAt.here rfl | apply LoadAt.there)) ?_) | (refine wpList_loads_H rfl rfl H rfl (by repeat (first | (apply LoadsAt.here; repeat (first | exact GetsAt.nil | apply GetsAt.here | apply GetsAt.there)) | apply LoadsAt.there)) ?_))
    | ((with_reducible refine at_store ?_); first | (refine wpList_store_H rfl rfl H rfl rfl (by repeat (first | (apply StoreAt.here; (first | exact CellsOf.agg | exact CellsOf.int | exact CellsOf.bool | exact CellsOf.slice | exact CellsOf.string | exact CellsOf.pointer | exact CellsOf.func); (repeat (first | exact SetsAt.nil | apply SetsAt.here | apply SetsAt.there)); exact rfl; exact rfl) | apply StoreAt.there)) ?_; clear H; intro w H)))
  refine bodyPost_ret (results_H2 rfl H rfl (by repeat (first | (apply LoadsAt.here; repeat (first | exact GetsAt.nil | apply GetsAt.here | apply GetsAt.there)) | apply LoadsAt.there))) rfl ?_
  exact ⟨x, (En.all [E, .gsl x.gs, .many En.gst x.gs.xs, .int x.outs]), g, rfl, bdr_any HSx.out, size_sm HSx.out.1 HSx.out.2.2.1 HSx.out.2.2.2, H.pick (.cons (by repeat (first | exact Take.head | apply Take.tail)) .nil)⟩
set_option linter.unusedSimpArgs false in
set_option linter.unusedVariables false in
set_option maxRecDepth 100000 in
set_option maxHeartbeats 4000000 in
theorem drawPutOut_c (s : Sl Int) (W0 : World) (R : Rd u8cell 1 W0 s ∧ s.xs.length ≤ 1048576) : Calls Tryz.prog 42 #[.slice s.A s.xs.length s.c] W0 fun e w' => ∃ (x : BV) (EB : En) (g : Int), e = .returned (.tuple #[x.val, .int .i64 g]) ∧ BDr EB x ∧ x.m.size ≤ 1000 ∧ Hp W0 w' [EB] := by
  have H := Hp.start W0
  go_enter Tryz.func42, Tryz.ntmps42
  go_wp2_with (first
    | go_skip
    | ((with_reducible refine at_box ?_); first | (refine wpList_box_H rfl rfl H rfl (by first | exact CellsOf.agg | exact CellsOf.int | exact CellsOf.bool | exact CellsOf.slice | exact CellsOf.string | exact CellsOf.pointer | exact CellsOf.func) ?_; clear H; intro b w H))
    | ((with_reducible refine at_alloc ?_); first | (refine wpList_alloc_H rfl rfl H ?_; clear H; intro b w H))
    | ((with_reducible refine at_load ?_); first | (refine wpList_load_H rfl rfl H rfl (by repeat (first | exact LoadAt.here rfl | apply LoadAt.there)) ?_) | (refine wpList_loads_H rfl rfl H rfl (by repeat (first | (apply LoadsAt.here; repeat (first | exact GetsAt.nil | apply GetsAt.here | apply GetsAt.there)) | apply LoadsAt.there)) ?_))
    | ((with_reducible refine at_store ?_); first | (refine wpList_store_H rfl rfl H rfl rfl (by repeat (first | (apply StoreAt.here; (first | exact CellsOf.agg | exact CellsOf.int | exact CellsOf.bool | exact CellsOf.slice | exact CellsOf.string | exact CellsOf.pointer | exact CellsOf.func); (repeat (first | exact SetsAt.nil | apply SetsAt.here | apply SetsAt.there)); exact rfl; exact rfl) | apply StoreAt.there)) ?_; clear H; intro w H))
    | (go_at_call 65; refine (l01New_cu s _ ⟨R.1.at_ H, R.2⟩).mono ?_; rintro e w ⟨b, rfl, K⟩; replace H := H.add_all K; clear K))
  go_at_call 66
  refine (l17Any_H s b H (by repeat (first | exact Take.head | apply Take.tail)) R).mono ?_
  clear H
  rintro e w ⟨x, E, rfl, hs, H⟩
  have HSx := Lib.hid hs; clear hs
  replace H := Hp.close_all (l := [E, .gsl x.gs, .many En.gst x.gs.xs, .int x.outs]) H
  go_wp2_with (first
    | go_skip
    | ((with_reducible refine at_box ?_); first | (refine wpList_box_H rfl rfl H rfl (by first | exact CellsOf.agg | exact CellsOf.int | exact CellsOf.bool | exact CellsOf.slice | exact CellsOf.string | exact CellsOf.pointer | exact CellsOf.func) ?_; clear H; intro b w H))
    | ((with_reducible refine at_alloc ?_); first | (refine wpList_alloc_H rfl rfl H ?_; clear H; intro bQ w H))
    | ((with_reducible refine at_load ?_); first | (refine wpList_load_H rfl rfl H rfl (by repeat (first | exact LoadAt.here rfl | apply LoadAt.there)) ?_) | (refine wpList_loads_H rfl rfl H rfl (by repeat (first | (apply LoadsAt.here; repeat (first | exact GetsAt.nil | apply GetsAt.here | apply GetsAt.there)) | apply LoadsAt.there)) ?_))
    | ((with_reducible refine at_store ?_); first | (refine wpList_store_H rfl rfl H rfl rfl (by repeat (first | (apply StoreAt.here; (first | exact CellsOf.agg | exact CellsOf.int | exact CellsOf.bool | exact CellsOf.slice | exact CellsOf.string | exact CellsOf.pointer | exact CellsOf.func); (repeat (first | exact SetsAt.nil | apply SetsAt.here | apply SetsAt.there)); exact rfl; exact rfl) | apply StoreAt.there)) ?_; clear H; intro w H))
    | (go_at_call 94; refine (l01Below_H s b _ (by decide) (by decide) H (by repeat (first | exact Take.head | apply Take.tail)) R).mono ?_; clear H; rintro e w ⟨g, rfl, ga, gb, H⟩))
  refine bodyPost_ret (results_H2 rfl H rfl (by repeat (first | (apply LoadsAt.here; repeat (first | exact GetsAt.nil | apply GetsAt.here | apply GetsAt.there)) | apply LoadsAt.there))) rfl ?_
  exact ⟨x, (En.all [E, .gsl x.gs, .many En.gst x.gs.xs, .int x.outs]), g, rfl, bdr_any HSx.out, size_sm HSx.out.1 HSx.out.2.2.1 HSx.out.2.2.2, H.pick (.cons (by repeat (first | exact Take.head | apply Take.tail)) .nil)⟩
set_option linter.unusedSimpArgs false in
set_option linter.unusedVariables false in
set_option maxRecDepth 100000 in
set_option maxHeartbeats 4000000 in
theorem drawWithGuest_c (s : Sl Int) (W0 : World) (R : Rd u8cell 1 W0 s ∧ s.xs.length ≤ 1048576) : Calls Tryz.prog 37 #[.slice s.A s.xs.length s.c] W0 fun e w' => ∃ (x : BV) (EB : En) (g : Int) (y : GV), e = .returned (.tuple #[x.val, .int .i64 g, y.val]) ∧ (BDr EB x ∧ GSm y) ∧ x.m.size ≤ 1000 ∧ Hp W0 w' [EB, .gst y] := by
  have H := Hp.start W0
  go_enter Tryz.func37, Tryz.ntmps37
  go_wp2_with (first
    | go_skip
    | ((with_reducible refine at_box ?_); first | (refine wpList_box_H rfl rfl H rfl (by first | exact CellsOf.agg | exact CellsOf.int | exact CellsOf.bool | exact CellsOf.slice | exact CellsOf.string | exact CellsOf.pointer | exact CellsOf.func) ?_; clear H; intro b w H))
    | ((with_reducible refine at_alloc ?_); first | (refine wpList_alloc_H rfl rfl H ?_; clear H; intro b w H))
    | ((with_reducible refine at_load ?_); first | (refine wpList_load_H rfl rfl H rfl (by repeat (first | exact LoadAt.here rfl | apply LoadAt.there)) ?_) | (refine wpList_loads_H rfl rfl H rfl (by repeat (first | (apply LoadsAt.here; repeat (first | exact GetsAt.nil | apply GetsAt.here | apply GetsAt.there)) | apply LoadsAt.there)) ?_))
    | ((with_reducible refine at_store ?_); first | (refine wpList_store_H rfl rfl H rfl rfl (by repeat (first | (apply StoreAt.here; (first | exact CellsOf.agg | exact CellsOf.int | exact CellsOf.bool | exact CellsOf.slice | exact CellsOf.string | exact CellsOf.pointer | exact CellsOf.func); (repeat (first | exact SetsAt.nil | apply SetsAt.here | apply SetsAt.there)); exact rfl; exact rfl) | apply StoreAt.there)) ?_; clear H; intro w H))
    | (go_at_call 65; refine (l01New_cu s _ ⟨R.1.at_ H, R.2⟩).mono ?_; rintro e w ⟨b, rfl, K⟩; replace H := H.add_all K; clear K))
  go_at_call 66
  refine (l17Any_H s b H (by repeat (first | exact Take.head | apply Take.tail)) R).mono ?_
  clear H
  rintro e w ⟨x, E, rfl, hs, H⟩
  have HSx := Lib.hid hs; clear hs
  replace H := Hp.close_all (l := [E, .gsl x.gs, .many En.gst x.gs.xs, .int x.outs]) H
  go_wp2_with (first
    | go_skip
    | ((with_reducible refine at_box ?_); first | (refine wpList_box_H rfl rfl H rfl (by first | exact CellsOf.agg | exact CellsOf.int | exact CellsOf.bool | exact CellsOf.slice | exact CellsOf.string | exact CellsOf.pointer | exact CellsOf.func) ?_; clear H; intro b w H))
    | ((with_reducible refine at_alloc ?_); first | (refine wpList_alloc_H rfl rfl H ?_; clear H; intro bQ w H))
    | ((with_reducible refine at_load ?_); first | (refine wpList_load_H rfl rfl H rfl (by repeat (first | exact LoadAt.here rfl | apply LoadAt.there)) ?_) | (refine wpList_loads_H rfl rfl H rfl (by repeat (first | (apply LoadsAt.here; repeat (first | exact GetsAt.nil | apply GetsAt.here | apply GetsAt.there)) | apply LoadsAt.there)) ?_))
    | ((with_reducible refine at_store ?_); first | (refine wpList_store_H rfl rfl H rfl rfl (by repeat (first | (apply StoreAt.here; (first | exact CellsOf.agg | exact CellsOf.int | exact CellsOf.bool | exact CellsOf.slice | exact CellsOf.string | exact CellsOf.pointer | exact CellsOf.func); (repeat (first | exact SetsAt.nil | apply SetsAt.here | apply SetsAt.there)); exact rfl; exact rfl) | apply StoreAt.there)) ?_; clear H; intro w H)))
  go_at_call 69
  refine (l17At_H s b H (by repeat (first | exact Take.head | apply Take.tail)) R).mono ?_
  clear H
  rintro e w ⟨g, rfl, H⟩
  go_wp2_with (first
    | go_skip
    | ((with_reducible refine at_box ?_); first | (refine wpList_box_H rfl rfl H rfl (by first | exact CellsOf.agg | exact CellsOf.int | exact CellsOf.bool | exact CellsOf.slice | exact CellsOf.string | exact CellsOf.pointer | exact CellsOf.func) ?_; clear H; intro b w H))
    | ((with_reducible refine at_alloc ?_); first | (refine wpList_alloc_H rfl rfl H ?_; clear H; intro bQ w H))
    | ((with_reducible refine at_load ?_); first | (refine wpList_load_H rfl rfl H rfl (by repeat (first | exact LoadAt.here rfl | apply LoadAt.there)) ?_) | (refine wpList_loads_H rfl rfl H rfl (by repeat (first | (apply LoadsAt.here; repeat (first | exact GetsAt.nil | apply GetsAt.here | apply GetsAt.there)) | apply LoadsAt.there)) ?_))
    | ((with_reducible refine at_store ?_); first | (refine wpList_store_H rfl rfl H rfl rfl (by repeat (first | (apply StoreAt.here; (first | exact CellsOf.agg | exact CellsOf.int | exact CellsOf.bool | exact CellsOf.slice | exact CellsOf.string | exact CellsOf.pointer | exact CellsOf.func); (repeat (first | exact SetsAt.nil | apply SetsAt.here | apply SetsAt.there)); exact rfl; exact rfl) | apply StoreAt.there)) ?_; clear H; intro w H)))
  go_at_call 147
  refine (l15Any_H s b H (by repeat (first | exact Take.head | apply Take.tail)) R).mono ?_
  clear H
  rintro e w ⟨y, rfl, hs, H⟩
  have HSy := Lib.hid hs; clear hs
  go_wp2_with (first
    | go_skip
    | ((with_reducible refine at_box ?_); first | (refine wpList_box_H rfl rfl H rfl (by first | exact CellsOf.agg | exact CellsOf.int | exact CellsOf.bool | exact CellsOf.slice | exact CellsOf.string | exact CellsOf.pointer | exact CellsOf.func) ?_; clear H; intro b w H))
    | ((with_reducible refine at_alloc ?_); first | (refine wpList_alloc_H rfl rfl H ?_; clear H; intro bQ w H))
    | ((with_reducible refine at_load ?_); first | (refine wpList_load_H rfl rfl H rfl (by repeat (first | exact LoadAt.here rfl | apply LoadAt.there)) ?_) | (refine wpList_loads_H rfl rfl H rfl (by repeat (first | (apply LoadsAt.here; repeat (first | exact GetsAt.nil | apply GetsAt.here | apply GetsAt.there)) | apply LoadsAt.there)) ?_))
    | ((with_reducible refine at_store ?_); first | (refine wpList_store_H rfl rfl H rfl rfl (by repeat (first | (apply StoreAt.here; (first | exact CellsOf.agg | exact CellsOf.int | exact CellsOf.bool | exact CellsOf.slice | exact CellsOf.string | exact CellsOf.pointer | exact CellsOf.func); (repeat (first | exact SetsAt.nil | apply SetsAt.here | apply SetsAt.there)); exact rfl; exact rfl) | apply StoreAt.there)) ?_; clear H; intro w H)))
  refine bodyPost_ret (res_ctc rfl H rfl (by repeat (first | (apply LoadsAt.here; repeat (first | exact GetsAt.nil | apply GetsAt.here | apply GetsAt.there)) | apply LoadsAt.there)) rfl (by repeat (first | (apply LoadsAt.here; repeat (first | exact GetsAt.nil | apply GetsAt.here | apply GetsAt.there)) | apply LoadsAt.there))) rfl ?_
  exact ⟨x, (En.all [E, .gsl x.gs, .many En.gst x.gs.xs, .int x.outs]), g, y, rfl, ⟨bdr_any HSx.out, HSy.out⟩, size_sm HSx.out.1 HSx.out.2.2.1 HSx.out.2.2.2, H.pick (.cons (by repeat (first | exact Take.head | apply Take.tail)) (.cons (by repeat (first | exact Take.head | apply Take.tail)) .nil))⟩
set_option linter.unusedSimpArgs false in
set_option linter.unusedVariables false in
set_option maxRecDepth 100000 in
set_option maxHeartbeats 4000000 in
theorem l17Progs_H (s : Sl Int) (b : Nat) {W0 w : World} {L L1 : List En} (H : Hp W0 w L) (t : Take L (.cu b s) L1) (R : Rd u8cell 1 W0 s ∧ s.xs.length ≤ 1048576) : Calls Tryz.prog 142 #[.pointer (some ⟨b, 0, none⟩)] w fun e w' => ∃ x : Sl (Sl Ins), e = .returned (.slice x.A x.xs.length x.c) ∧ x.xs.length ≤ 2 ∧ (∀ y ∈ x.xs, y.xs.length ≤ 16) ∧ Hp W0 w' (.irows x :: .many En.ins x.xs :: .cu b s :: L1) := by
  replace H := (H.take t).seal
  clear t
  go_enter Tryz.func142, Tryz.ntmps142
  go_wp2_with (first
    | go_skip
    | ((with_reducible refine at_box ?_); first | (refine wpList_box_H rfl rfl H rfl (by first | exact CellsOf.agg | exact CellsOf.int | exact CellsOf.bool | exact CellsOf.slice | exact CellsOf.string | exact CellsOf.pointer | exact CellsOf.func) ?_; clear H; intro b w H))
    | ((with_reducible refine at_alloc ?_); first | (refine wpList_alloc_H rfl rfl H ?_; clear H; intro b w H))
    | ((with_reducible refine at_load ?_); first | (refine wpList_load_H rfl rfl H rfl (by repeat (first | exact LoadAt.here rfl | apply LoadAt.there)) ?_) | (refine wpList_loads_H rfl rfl H rfl (by repeat (first | (apply LoadsAt.here; repeat (first | exact GetsAt.nil | apply GetsAt.here | apply GetsAt.there)) | apply LoadsAt.there)) ?_))
    | ((with_reducible refine at_store ?_); first | (refine wpList_store_H rfl rfl H rfl rfl (by repeat (first | (apply StoreAt.here; (first | exact CellsOf.agg | exact CellsOf.int | exact CellsOf.bool | exact CellsOf.slice | exact CellsOf.string | exact CellsOf.pointer | exact CellsOf.func); (repeat (first | exact SetsAt.nil | apply SetsAt.here | apply SetsAt.there)); exact rfl; exact rfl) | apply StoreAt.there)) ?_; clear H; intro w H))
    | ((with_reducible refine at_slice ?_); first | (refine wpList_nil_H rfl rfl H ?_; clear H; intro bn w H)))
  go_loopw [3, 4] (fun ov i wr => ∃ (k : Nat) (p : Sl (Sl Ins)), k ≤ 2 ∧ i = .int .i64 k ∧ ov = .slice p.A p.xs.length p.c ∧ p.xs.length = k ∧ Hid (∀ y ∈ p.xs, y.xs.length ≤ 16) ∧ Hp W0 wr [.irows p, .many En.ins p.xs, .cu b s, .all L1]) (fun _ i _ => 2 - (intOf i).toNat)
  case atStart => exact ⟨0, ⟨some ⟨bn, 0, none⟩, 0, []⟩, by omega, rfl, rfl, rfl, Lib.hid (by simp), ((H.many_nil En.ins).pick (.cons (by repeat (first | exact Take.head | apply Take.tail)) (.cons (by repeat (first | exact Take.head | apply Take.tail)) (.cons (by repeat (first | exact Take.head | apply Take.tail)) (.cons (by repeat (first | exact Take.head | apply Take.tail)) .nil)))))⟩
  case round =>
    clear H
    obtain ⟨k, p, hk0, rfl, rfl, hl, HY, H⟩ := hrel
    have hz : p.xs.length ≤ 2 := by omega
    have HL := Lib.hid hl; clear hl
    go_wp2_with (first
      | go_skip
      | ((with_reducible refine at_box ?_); first | (refine wpList_box_H rfl rfl H rfl (by first | exact CellsOf.agg | exact CellsOf.int | exact CellsOf.bool | exact CellsOf.slice | exact CellsOf.string | exact CellsOf.pointer | exact CellsOf.func) ?_; clear H; intro b w H))
      | ((with_reducible refine at_alloc ?_); first | (refine wpList_alloc_H rfl rfl H ?_; clear H; intro b w H))
      | ((with_reducible refine at_load ?_); first | (refine wpList_load_H rfl rfl H rfl (by repeat (first | exact LoadAt.here rfl | apply LoadAt.there)) ?_) | (refine wpList_loads_H rfl rfl H rfl (by repeat (first | (apply LoadsAt.here; repeat (first | exact GetsAt.nil | apply GetsAt.here | apply GetsAt.there)) | apply LoadsAt.there)) ?_))
      | ((with_reducible refine at_store ?_); first | (refine wpList_store_H rfl rfl H rfl rfl (by repeat (first | (apply StoreAt.here; (first | exact CellsOf.agg | exact CellsOf.int | exact CellsOf.bool | exact CellsOf.slice | exact CellsOf.string | exact CellsOf.pointer | exact CellsOf.func); (repeat (first | exact SetsAt.nil | apply SetsAt.here | apply SetsAt.there)); exact rfl; exact rfl) | apply StoreAt.there)) ?_; clear H; intro w H))
      | ((with_reducible refine at_slice ?_); first | ((with_reducible refine at_dst 16 ?_); refine wpList_one_H rfl rfl H r rfl CellsOf.slice rfl (by decide) ?_; clear H; intro b1 w H))
      | ((with_reducible refine at_append ?_); first | ((with_reducible refine at_dst 17 ?_); refine wpList_append_H rfl rfl H p (⟨some ⟨b1, 0, none⟩, 1, [r]⟩ : Sl (Sl Ins)) rfl rfl (by repeat (first | exact Take.head | apply Take.tail)) (H.rd (s := (⟨some ⟨b1, 0, none⟩, 1, [r]⟩ : Sl (Sl Ins))) (by repeat (first | exact Take.head | apply Take.tail)) h_len) (by simp only [List.length_cons, List.length_nil]; omega) (by decide) ?_; clear H; intro p2 w h2 H))
      | (go_at_call 94; refine (l01Below_H s b _ (by decide) (by decide) H (by repeat (first | exact Take.head | apply Take.tail)) R).mono ?_; clear H; rintro e w ⟨v, rfl, va, vb, H⟩)
      | (go_at_call 143; refine (l10Prog_H s b H (by repeat (first | exact Take.head | apply Take.tail)) R).mono ?_; clear H; rintro e w ⟨r, rfl, r0, r1, H⟩))
    all_goals first
      | (go_ret; exact ⟨p, rfl, hz, HY.out, (H.pick (.cons (by repeat (first | exact Take.head | apply Take.tail)) (.cons (by repeat (first | exact Take.head | apply Take.tail)) (.cons (by repeat (first | exact Take.head | apply Take.tail)) (.cons (by repeat (first | exact Take.head | apply Take.tail)) .nil))))).uns3⟩)
      | skip
    have H2 := Hp.many_snoc (f := En.ins) ((H.take (e := .many En.ins p.xs) (by repeat (first | exact Take.head | apply Take.tail))).take (e := .ins r) (by repeat (first | exact Take.head | apply Take.tail)))
    have e2 : p2.xs = p.xs ++ [r] := h2.out
    rw [← e2] at H2
    go_roundw
    case rel =>
      refine ⟨k + 1, p2, by omega, by go_num, rfl, by rw [e2]; simp [HL.out], Lib.hid ?_, H2.pick (.cons (by repeat (first | exact Take.head | apply Take.tail)) (.cons (by repeat (first | exact Take.head | apply Take.tail)) (.cons (by repeat (first | exact Take.head | apply Take.tail)) (.cons (by repeat (first | exact Take.head | apply Take.tail)) .nil))))⟩
      rw [e2]
      intro y hy
      rcases List.mem_append.1 hy with hy | hy
      · exact HY.out y hy
      · rw [List.mem_singleton.1 hy]; omega
    case measure => simp [intOf]; omega
set_option linter.unusedSimpArgs false in
set_option linter.unusedVariables false in
set_option maxRecDepth 100000 in
set_option maxHeartbeats 4000000 in
theorem drawBareNew_c (s : Sl Int) (W0 : World) (R : Rd u8cell 1 W0 s ∧ s.xs.length ≤ 1048576) : Calls Tryz.prog 35 #[.slice s.A s.xs.length s.c] W0 fun e w' => ∃ x : Sl (Sl Ins), e = .returned (.slice x.A x.xs.length x.c) ∧ (x.xs.length ≤ 4 ∧ ∀ y ∈ x.xs, y.xs.length ≤ 16) ∧ Hp W0 w' [.irows x, .many En.ins x.xs] := by
  have H := Hp.start W0
  go_enter Tryz.func35, Tryz.ntmps35
  go_wp2_with (first
    | go_skip
    | ((with_reducible refine at_box ?_); first | (refine wpList_box_H rfl rfl H rfl (by first | exact CellsOf.agg | exact CellsOf.int | exact CellsOf.bool | exact CellsOf.slice | exact CellsOf.string | exact CellsOf.pointer | exact CellsOf.func) ?_; clear H; intro b w H))
    | ((with_reducible refine at_alloc ?_); first | (refine wpList_alloc_H rfl rfl H ?_; clear H; intro b w H))
    | ((with_reducible refine at_load ?_); first | (refine wpList_load_H rfl rfl H rfl (by repeat (first | exact LoadAt.here rfl | apply LoadAt.there)) ?_) | (refine wpList_loads_H rfl rfl H rfl (by repeat (first | (apply LoadsAt.here; repeat (first | exact GetsAt.nil | apply GetsAt.here | apply GetsAt.there)) | apply LoadsAt.there)) ?_))
    | ((with_reducible refine at_store ?_); first | (refine wpList_store_H rfl rfl H rfl rfl (by repeat (first | (apply StoreAt.here; (first | exact CellsOf.agg | exact CellsOf.int | exact CellsOf.bool | exact CellsOf.slice | exact CellsOf.string | exact CellsOf.pointer | exact CellsOf.func); (repeat (first | exact SetsAt.nil | apply SetsAt.here | apply SetsAt.there)); exact rfl; exact rfl) | apply StoreAt.there)) ?_; clear H; intro w H))
    | (go_at_call 65; refine (l01New_cu s _ ⟨R.1.at_ H, R.2⟩).mono ?_; rintro e w ⟨b, rfl, K⟩; replace H := H.add_all K; clear K))
  go_at_call 142
  refine (l17Progs_H s b H (by repeat (first | exact Take.head | apply Take.tail)) R).mono ?_
  clear H
  rintro e w ⟨p, rfl, p2, hp, H⟩
  have HP := Lib.hid hp; clear hp
  go_wp2_with (first
    | go_skip
    | ((with_reducible refine at_box ?_); first | (refine wpList_box_H rfl rfl H rfl (by first | exact CellsOf.agg | exact CellsOf.int | exact CellsOf.bool | exact CellsOf.slice | exact CellsOf.string | exact CellsOf.pointer | exact CellsOf.func) ?_; clear H; intro b w H))
    | ((with_reducible refine at_alloc ?_); first | (refine wpList_alloc_H rfl rfl H ?_; clear H; intro b w H))
    | ((with_reducible refine at_load ?_); first | (refine wpList_load_H rfl rfl H rfl (by repeat (first | exact LoadAt.here rfl | apply LoadAt.there)) ?_) | (refine wpList_loads_H rfl rfl H rfl (by repeat (first | (apply LoadsAt.here; repeat (first | exact GetsAt.nil | apply GetsAt.here | apply GetsAt.there)) | apply LoadsAt.there)) ?_))
    | ((with_reducible refine at_store ?_); first | (refine wpList_store_H rfl rfl H rfl rfl (by repeat (first | (apply StoreAt.here; (first | exact CellsOf.agg | exact CellsOf.int | exact CellsOf.bool | exact CellsOf.slice | exact CellsOf.string | exact CellsOf.pointer | exact CellsOf.func); (repeat (first | exact SetsAt.nil | apply SetsAt.here | apply SetsAt.there)); exact rfl; exact rfl) | apply StoreAt.there)) ?_; clear H; intro w H))
    | ((with_reducible refine at_slice ?_); first | ((with_reducible refine at_dst 16 ?_); refine wpList_lit_H rfl rfl H ([r, q] : List (Sl Ins)) (by kernel_rfl) rfl (by decide) (by decide) ?_; clear H; intro b2 w H))
    | ((with_reducible refine at_append ?_); first | ((with_reducible refine at_dst 17 ?_); refine wpList_append_H rfl rfl H p (⟨some ⟨b2, 0, none⟩, 2, [r, q]⟩ : Sl (Sl Ins)) rfl rfl (by repeat (first | exact Take.head | apply Take.tail)) (H.rd (s := (⟨some ⟨b2, 0, none⟩, 2, [r, q]⟩ : Sl (Sl Ins))) (by repeat (first | exact Take.head | apply Take.tail)) h_len) (by simp only [List.length_cons, List.length_nil]; omega) (by decide) ?_; clear H; intro g2 w h2 H))
    | (go_at_call 67; refine (l01Once_H s b _ (by decide) (by decide) H (by repeat (first | exact Take.head | apply Take.tail)) R).mono ?_; clear H; rintro e w ⟨o, rfl, H⟩)
    | (go_at_call 143; refine (l10Prog_H s b H (by repeat (first | exact Take.head | apply Take.tail)) R).mono ?_; clear H; rintro e w ⟨r, rfl, r0, r1, H⟩)
    | (go_at_call 144; refine (l10AnyProg_H s b H (by repeat (first | exact Take.head | apply Take.tail)) R).mono ?_; clear H; rintro e w ⟨q, rfl, q1, H⟩))
  · have H2 := Hp.many_snoc (f := En.ins) ((H.take (e := .many En.ins p.xs) (by repeat (first | exact Take.head | apply Take.tail))).take (e := .ins r) (by repeat (first | exact Take.head | apply Take.tail)))
    have H3 := Hp.many_snoc (f := En.ins) ((H2.take (e := .many En.ins (p.xs ++ [r])) (by repeat (first | exact Take.head | apply Take.tail))).take (e := .ins q) (by repeat (first | exact Take.head | apply Take.tail)))
    have e2 : g2.xs = p.xs ++ [r, q] := h2.out
    rw [show p.xs ++ [r] ++ [q] = g2.xs from by rw [e2]; simp] at H3
    go_ret
    refine ⟨g2, rfl, ⟨by rw [e2]; simp; omega, ?_⟩, H3.pick (.cons (by repeat (first | exact Take.head | apply Take.tail)) (.cons (by repeat (first | exact Take.head | apply Take.tail)) .nil))⟩
    rw [e2]
    intro y hy
    rcases List.mem_append.1 hy with hy | hy
    · exact HP.out y hy
    · simp only [List.mem_cons, List.not_mem_nil, or_false] at hy
      rcases hy with rfl | rfl <;> omega
  · go_ret
    exact ⟨p, rfl, ⟨by omega, HP.out⟩, H.pick (.cons (by repeat (first | exact Take.head | apply Take.tail)) (.cons (by repeat (first | exact Take.head | apply Take.tail)) .nil))⟩
def DAns (W0 : World) (e : Ending) (w' : World) : Prop := ∃ (x : BV) (EB : En) (g v : Int), e = .returned (.tuple #[x.val, .int .i64 g, .int .i64 v]) ∧ BDr EB x ∧ Hp W0 w' [EB]
theorem DAns.mk {W0 : World} {e : Ending} {w' : World} (x : BV) (EB : En) (g v : Int) (h1 : e = .returned (.tuple #[x.val, .int .i64 g, .int .i64 v])) (h2 : BDr EB x) (h3 : Hp W0 w' [EB]) : DAns W0 e w' := ⟨x, EB, g, v, h1, h2, h3⟩
theorem calls_ex2 {P : Program} {w : World} {α β : Type} {f : FuncId} {args : Array Value} {val : α → Value} {A : α → β → World → Prop} (h : Calls P f args w (fun e w' => ∃ (d : α) (q : β), e = .returned (val d) ∧ A d q w')) : Calls P f args w (fun e w' => ∃ v, e = .returned v ∧ ∃ (d : α) (q : β), v = val d ∧ A d q w') :=
  h.mono fun _ _ ⟨d, q, he, h⟩ => ⟨_, he, d, q, rfl, h⟩
def DSame (W0 : World) (e : Ending) (w' : World) : Prop := ∃ (x y : BV) (E1 E2 : En), e = .returned (.tuple #[x.val, y.val]) ∧ (BDr E1 x ∧ BDr E2 y) ∧ Hp W0 w' [E1, E2]
theorem DSame.mk {W0 : World} {e : Ending} {w' : World} (x y : BV) (E1 E2 : En) (h1 : e = .returned (.tuple #[x.val, y.val])) (h2 : BDr E1 x) (h3 : BDr E2 y) (h : Hp W0 w' [E1, E2]) : DSame W0 e w' := ⟨x, y, E1, E2, h1, ⟨h2, h3⟩, h⟩
theorem brd_ok {b : BV} {w : World} (hw : (En.bare b).ok w) : BRd w b := by
  have h : ∀ e ∈ b.parts, e.ok w := hw
  have h1 : (En.rows b.mem).ok w := h _ (by simp)
  have h2 : (En.many En.int b.mem.xs).ok w := h _ (by simp)
  have h3 : (En.gsl b.gs).ok w := h _ (by simp)
  have h4 : (En.many En.gst b.gs.xs).ok w := h _ (by simp)
  have h5 : (En.int b.outs).ok w := h _ (by simp)
  refine ⟨Own.rd h1 h_len, fun s hs => Own.rd (h2 s hs) int_len, Own.rd h3 g_len, fun g hg => ?_, Own.rd h5 int_len⟩
  have h : GOwn w 0 g := h4 g hg
  exact h.rd
theorem bdr_own {x : BV} (h : BBig x) : BDr (.bare x) x := ⟨fun _ hw => brd_ok hw, h⟩
theorem bbig_grow {x y : BV} {p : Sl Int} {n : Int} (h : x.m.size ≤ 1000) (hm : Hid (y.m = x.m)) (hp : p.xs.length ≤ y.outs.xs.length + 1) : BBig ⟨y.mem, y.gs, p, n⟩ := by
  have e := hm.out
  rw [← e] at h
  unfold BBig MB.size at *
  simp only [BV.m] at *
  omega
set_option linter.unusedSimpArgs false in
set_option linter.unusedVariables false in
set_option maxRecDepth 100000 in
set_option maxHeartbeats 4000000 in
theorem drawSameBare_c0 (s : Sl Int) (W0 : World) (R : Rd u8cell 1 W0 s ∧ s.xs.length ≤ 1048576) : Calls Tryz.prog 43 #[.slice s.A s.xs.length s.c] W0 fun e w' => DSame W0 e w' := by
  have H := Hp.start W0
  go_enter Tryz.func43, Tryz.ntmps43
  go_wp2_with (first
    | go_skip
    | ((with_reducible refine at_box ?_); first | (refine wpList_box_H rfl rfl H rfl (by first | exact CellsOf.agg | exact CellsOf.int | exact CellsOf.bool | exact CellsOf.slice | exact CellsOf.string | exact CellsOf.pointer | exact CellsOf.func) ?_; clear H; intro b w H))
    | ((with_reducible refine at_alloc ?_); first | ((with_reducible refine at_dst 2 ?_); refine wpList_alloc_H rfl rfl H ?_; clear H; intro bC w H) | ((with_reducible refine at_dst 3 ?_); refine wpList_alloc_H rfl rfl H ?_; clear H; intro bD w H) | (refine wpList_alloc_H rfl rfl H ?_; clear H; intro b w H))
    | ((with_reducible refine at_load ?_); first | (refine wpList_load_H rfl rfl H rfl (by repeat (first | exact LoadAt.here rfl | apply LoadAt.there)) ?_) | (refine wpList_loads_H rfl rfl H rfl (by repeat (first | (apply LoadsAt.here; repeat (first | exact GetsAt.nil | apply GetsAt.here | apply GetsAt.there)) | apply LoadsAt.there)) ?_))
    | ((with_reducible refine at_store ?_); first | (refine wpList_store_H rfl rfl H rfl rfl (by repeat (first | (apply StoreAt.here; (first | exact CellsOf.agg | exact CellsOf.int | exact CellsOf.bool | exact CellsOf.slice | exact CellsOf.string | exact CellsOf.pointer | exact CellsOf.func); (repeat (first | exact SetsAt.nil | apply SetsAt.here | apply SetsAt.there)); exact rfl; exact rfl) | apply StoreAt.there)) ?_; clear H; intro w H))
    | (go_at_call 65; refine (l01New_cu s _ ⟨R.1.at_ H, R.2⟩).mono ?_; rintro e w ⟨b, rfl, K⟩; replace H := H.add_all K; clear K))
  go_at_call 66
  refine (l17Any_H s b H (by repeat (first | exact Take.head | apply Take.tail)) R).mono ?_
  clear H
  rintro e w ⟨x, E, rfl, hs, H⟩
  have HSZ := Lib.hid (size_sm hs.1 hs.2.2.1 hs.2.2.2)
  obtain ⟨EB, hEB⟩ : ∃ EB, EB = (En.all [E, .gsl x.gs, .many En.gst x.gs.xs, .int x.outs]) := ⟨_, rfl⟩
  have HBD : Hid (BDr EB x) := Lib.hid (by rw [hEB]; exact bdr_any hs)
  clear hs
  replace H := Hp.close_all (l := [E, .gsl x.gs, .many En.gst x.gs.xs, .int x.outs]) H
  rw [← hEB] at H
  clear hEB
  go_wp2_with (first
    | go_skip
    | ((with_reducible refine at_box ?_); first | (refine wpList_box_H rfl rfl H rfl (by first | exact CellsOf.agg | exact CellsOf.int | exact CellsOf.bool | exact CellsOf.slice | exact CellsOf.string | exact CellsOf.pointer | exact CellsOf.func) ?_; clear H; intro b w H))
    | ((with_reducible refine at_alloc ?_); first | ((with_reducible refine at_dst 5 ?_); refine wpList_alloc_H rfl rfl H ?_; clear H; intro bX w H) | (refine wpList_alloc_H rfl rfl H ?_; clear H; intro b w H))
    | ((with_reducible refine at_load ?_); first | (refine wpList_load_H rfl rfl H rfl (by repeat (first | exact LoadAt.here rfl | apply LoadAt.there)) ?_) | (refine wpList_loads_H rfl rfl H rfl (by repeat (first | (apply LoadsAt.here; repeat (first | exact GetsAt.nil | apply GetsAt.here | apply GetsAt.there)) | apply LoadsAt.there)) ?_))
    | ((with_reducible refine at_store ?_); first | (refine wpList_store_H rfl rfl H rfl rfl (by repeat (first | (apply StoreAt.here; (first | exact CellsOf.agg | exact CellsOf.int | exact CellsOf.bool | exact CellsOf.slice | exact CellsOf.string | exact CellsOf.pointer | exact CellsOf.func); (repeat (first | exact SetsAt.nil | apply SetsAt.here | apply SetsAt.there)); exact rfl; exact rfl) | apply StoreAt.there)) ?_; clear H; intro w H)))
  go_at_call 76
  refine (l17Copy_c x _ (HBD.out.1 _ (H.get (e := EB) (by repeat (first | exact Take.head | apply Take.tail)))) HBD.out.2).mono ?_
  rintro e w ⟨y, rfl, hy, K⟩
  have HY := Lib.hid hy; clear hy
  have Zy := m_big HY HBD.out.2
  have hyo : y.outs.xs.length ≤ 1000 := by
    have h := HSZ.out
    rw [← HY.out] at h
    unfold MB.size at h
    have e : y.m.outs.length = y.outs.xs.length := rfl
    omega
  replace H := (H.add_all K)
  clear K
  replace H := (H.take (e := .bare y) (by repeat (first | exact Take.head | apply Take.tail))).bparts
  go_wp2_with (first
    | go_skip
    | ((with_reducible refine at_box ?_); first | (refine wpList_box_H rfl rfl H rfl (by first | exact CellsOf.agg | exact CellsOf.int | exact CellsOf.bool | exact CellsOf.slice | exact CellsOf.string | exact CellsOf.pointer | exact CellsOf.func) ?_; clear H; intro b w H))
    | ((with_reducible refine at_alloc ?_); first | ((with_reducible refine at_dst 6 ?_); refine wpList_alloc_H rfl rfl H ?_; clear H; intro bY w H) | (refine wpList_alloc_H rfl rfl H ?_; clear H; intro b w H))
    | ((with_reducible refine at_load ?_); first | (refine wpList_load_H rfl rfl H rfl (by repeat (first | exact LoadAt.here rfl | apply LoadAt.there)) ?_) | (refine wpList_loads_H rfl rfl H rfl (by repeat (first | (apply LoadsAt.here; repeat (first | exact GetsAt.nil | apply GetsAt.here | apply GetsAt.there)) | apply LoadsAt.there)) ?_))
    | ((with_reducible refine at_store ?_); first | (refine wpList_store_H rfl rfl H rfl rfl (by repeat (first | (apply StoreAt.here; (first | exact CellsOf.agg | exact CellsOf.int | exact CellsOf.bool | exact CellsOf.slice | exact CellsOf.string | exact CellsOf.pointer | exact CellsOf.func); (repeat (first | exact SetsAt.nil | apply SetsAt.here | apply SetsAt.there)); exact rfl; exact rfl) | apply StoreAt.there)) ?_; clear H; intro w H))
    | ((with_reducible refine at_slice ?_); first | ((with_reducible refine at_dst 25 ?_); refine wpList_one_H rfl rfl H (7 : Int) rfl CellsOf.int rfl (by decide) ?_; clear H; intro b1 w H))
    | ((with_reducible refine at_append ?_); first | ((with_reducible refine at_dst 26 ?_); refine wpList_append_H rfl rfl H y.outs (⟨some ⟨b1, 0, none⟩, 1, [(7 : Int)]⟩ : Sl Int) rfl rfl (by repeat (first | exact Take.head | apply Take.tail)) (H.rd (s := (⟨some ⟨b1, 0, none⟩, 1, [(7 : Int)]⟩ : Sl Int)) (by repeat (first | exact Take.head | apply Take.tail)) int_len) (by simp only [List.length_cons, List.length_nil]; omega) (by decide) ?_; clear H; intro p2 w h2 H))
    | (go_at_call 94; refine (l01Below_H s b _ (by decide) (by decide) H (by repeat (first | exact Take.head | apply Take.tail)) R).mono ?_; clear H; rintro e w ⟨v, rfl, va, vb, H⟩))
  · skip
    refine wp_cut (fun u a' w' => ∃ (_ : Unit), Hid True ∧ Hp W0 w' [.rows y.mem, .many En.int y.mem.xs, .gsl y.gs, .many En.gst y.gs.xs, .int y.outs, EB, .box bC 28 (barr x).toList, .box bD 28 (barr (⟨y.mem, y.gs, y.outs, (wrap64 (y.pend + 1))⟩ : BV)).toList] ∧ a' = puts u [(33, x.val), (34, (⟨y.mem, y.gs, y.outs, (wrap64 (y.pend + 1))⟩ : BV).val)]) ?_ ?_
    · refine wp_region_held (S := (fun w' => Rw w' bX 28 (barr x) ∧ Rw w' bY 28 (barr (⟨y.mem, y.gs, y.outs, (wrap64 (y.pend + 1))⟩ : BV)))) (by kernel_rfl) ?_
      replace H := H.drew
      refine takeH (i := 0) rfl .here (by kernel_rfl) (by kernel_rfl) (by kernel_rfl) (fun _ _ _ h => absurd h.1 (by simp)) (yields_loads_R rfl rfl rfl (fun _ hS => hS.1) (by repeat (first | exact GetsAt.nil | apply GetsAt.here | apply GetsAt.there))) ⟨H.rw_ (by repeat (first | exact Take.head | apply Take.tail)), H.rw_ (by repeat (first | exact Take.head | apply Take.tail))⟩ ?_
      (try simp only [Act.put, List.setIfInBounds_toArray, List.set_cons_succ, List.set_cons_zero])
      refine takeH (i := 1) rfl (.there .here) (by kernel_rfl) (by kernel_rfl) (by kernel_rfl) (fun _ _ _ h => absurd h.1 (by simp)) (yields_loads_R rfl rfl rfl (fun _ hS => hS.2) (by repeat (first | exact GetsAt.nil | apply GetsAt.here | apply GetsAt.there))) ⟨H.rw_ (by repeat (first | exact Take.head | apply Take.tail)), H.rw_ (by repeat (first | exact Take.head | apply Take.tail))⟩ ?_
      (try simp only [Act.put, List.setIfInBounds_toArray, List.set_cons_succ, List.set_cons_zero])
      refine anyH_1 (i := 2) (by kernel_rfl) ?_
      refine wpOp_at rfl (.there (.there .here)) rfl ?_
      refine wp_store_H rfl H rfl rfl (by repeat (first | (apply StoreAt.here; (first | exact CellsOf.agg | exact CellsOf.int | exact CellsOf.bool | exact CellsOf.slice | exact CellsOf.string | exact CellsOf.pointer | exact CellsOf.func); (repeat (first | exact SetsAt.nil | apply SetsAt.here | apply SetsAt.there)); exact rfl; exact rfl) | apply StoreAt.there)) ?_
      clear H
      intro w H
      refine ⟨⟨H.rw_ (by repeat (first | exact Take.head | apply Take.tail)), H.rw_ (by repeat (first | exact Take.head | apply Take.tail))⟩, ?_⟩
      (try simp only [Act.put, List.setIfInBounds_toArray, List.set_cons_succ, List.set_cons_zero])
      refine anyH_1 (i := 3) (by kernel_rfl) ?_
      refine wpOp_at rfl (.there (.there (.there .here))) rfl ?_
      refine wp_store_H rfl H rfl rfl (by repeat (first | (apply StoreAt.here; (first | exact CellsOf.agg | exact CellsOf.int | exact CellsOf.bool | exact CellsOf.slice | exact CellsOf.string | exact CellsOf.pointer | exact CellsOf.func); (repeat (first | exact SetsAt.nil | apply SetsAt.here | apply SetsAt.there)); exact rfl; exact rfl) | apply StoreAt.there)) ?_
      clear H
      intro w H
      refine ⟨⟨H.rw_ (by repeat (first | exact Take.head | apply Take.tail)), H.rw_ (by repeat (first | exact Take.head | apply Take.tail))⟩, ?_⟩
      (try simp only [Act.put, List.setIfInBounds_toArray, List.set_cons_succ, List.set_cons_zero])
      refine wpAnyH_done (by kernel_rfl) ?_ _
      exact ⟨rfl, (), Lib.hid trivial, H.pick (.cons (by repeat (first | exact Take.head | apply Take.tail)) (.cons (by repeat (first | exact Take.head | apply Take.tail)) (.cons (by repeat (first | exact Take.head | apply Take.tail)) (.cons (by repeat (first | exact Take.head | apply Take.tail)) (.cons (by repeat (first | exact Take.head | apply Take.tail)) (.cons (by repeat (first | exact Take.head | apply Take.tail)) (.cons (by repeat (first | exact Take.head | apply Take.tail)) (.cons (by repeat (first | exact Take.head | apply Take.tail)) .nil)))))))), by first | (simp only [puts_cons, puts_nil, Act.put, List.setIfInBounds_toArray, List.set_cons_succ, List.set_cons_zero]; done) | (simp only [puts_cons, puts_nil, Act.put, List.setIfInBounds_toArray, List.set_cons_succ, List.set_cons_zero]; rfl)⟩
    clear H
    rintro u w ⟨_, _, H, rfl⟩
    simp only [puts_cons, puts_nil, Act.put, List.setIfInBounds_toArray, List.set_cons_succ, List.set_cons_zero]
    go_wp2_with (first
      | go_skip
      | ((with_reducible refine at_box ?_); first | (refine wpList_box_H rfl rfl H rfl (by first | exact CellsOf.agg | exact CellsOf.int | exact CellsOf.bool | exact CellsOf.slice | exact CellsOf.string | exact CellsOf.pointer | exact CellsOf.func) ?_; clear H; intro b w H))
      | ((with_reducible refine at_alloc ?_); first | (refine wpList_alloc_H rfl rfl H ?_; clear H; intro bQ w H))
      | ((with_reducible refine at_load ?_); first | (refine wpList_load_H rfl rfl H rfl (by repeat (first | exact LoadAt.here rfl | apply LoadAt.there)) ?_) | (refine wpList_loads_H rfl rfl H rfl (by repeat (first | (apply LoadsAt.here; repeat (first | exact GetsAt.nil | apply GetsAt.here | apply GetsAt.there)) | apply LoadsAt.there)) ?_))
      | ((with_reducible refine at_store ?_); first | (refine wpList_store_H rfl rfl H rfl rfl (by repeat (first | (apply StoreAt.here; (first | exact CellsOf.agg | exact CellsOf.int | exact CellsOf.bool | exact CellsOf.slice | exact CellsOf.string | exact CellsOf.pointer | exact CellsOf.func); (repeat (first | exact SetsAt.nil | apply SetsAt.here | apply SetsAt.there)); exact rfl; exact rfl) | apply StoreAt.there)) ?_; clear H; intro w H)))
    have HF := Hp.bare (b := (⟨y.mem, y.gs, y.outs, (wrap64 (y.pend + 1))⟩ : BV)) (H.pick (.cons (by repeat (first | exact Take.head | apply Take.tail)) (.cons (by repeat (first | exact Take.head | apply Take.tail)) (.cons (by repeat (first | exact Take.head | apply Take.tail)) (.cons (by repeat (first | exact Take.head | apply Take.tail)) (.cons (by repeat (first | exact Take.head | apply Take.tail)) (.cons (by repeat (first | exact Take.head | apply Take.tail)) (.cons (by repeat (first | exact Take.head | apply Take.tail)) (.cons (by repeat (first | exact Take.head | apply Take.tail)) .nil)))))))) : Hp W0 _ [.rows y.mem, .many En.int y.mem.xs, .gsl y.gs, .many En.gst y.gs.xs, .int y.outs, EB, .box bC 28 (barr x).toList, .box bD 28 (barr (⟨y.mem, y.gs, y.outs, (wrap64 (y.pend + 1))⟩ : BV)).toList])
    refine bodyPost_ret (res_cc rfl H rfl (by repeat (first | (apply LoadsAt.here; repeat (first | exact GetsAt.nil | apply GetsAt.here | apply GetsAt.there)) | apply LoadsAt.there)) rfl (by repeat (first | (apply LoadsAt.here; repeat (first | exact GetsAt.nil | apply GetsAt.here | apply GetsAt.there)) | apply LoadsAt.there))) rfl ?_
    exact DSame.mk x (⟨y.mem, y.gs, y.outs, (wrap64 (y.pend + 1))⟩ : BV) EB (.bare (⟨y.mem, y.gs, y.outs, (wrap64 (y.pend + 1))⟩ : BV)) rfl HBD.out (bdr_own (bbig_grow HSZ.out HY (by omega))) (HF.pick (.cons (by repeat (first | exact Take.head | apply Take.tail)) (.cons (by repeat (first | exact Take.head | apply Take.tail)) .nil)))
  · skip
    refine wp_cut (fun u a' w' => ∃ (_ : Unit), Hid True ∧ Hp W0 w' [.rows y.mem, .many En.int y.mem.xs, .gsl y.gs, .many En.gst y.gs.xs, .int p2, EB, .box bC 28 (barr x).toList, .box bD 28 (barr (⟨y.mem, y.gs, p2, y.pend⟩ : BV)).toList] ∧ a' = puts u [(33, x.val), (34, (⟨y.mem, y.gs, p2, y.pend⟩ : BV).val)]) ?_ ?_
    · refine wp_region_held (S := (fun w' => Rw w' bX 28 (barr x) ∧ Rw w' bY 28 (barr (⟨y.mem, y.gs, p2, y.pend⟩ : BV)))) (by kernel_rfl) ?_
      replace H := H.drew
      refine takeH (i := 0) rfl .here (by kernel_rfl) (by kernel_rfl) (by kernel_rfl) (fun _ _ _ h => absurd h.1 (by simp)) (yields_loads_R rfl rfl rfl (fun _ hS => hS.1) (by repeat (first | exact GetsAt.nil | apply GetsAt.here | apply GetsAt.there))) ⟨H.rw_ (by repeat (first | exact Take.head | apply Take.tail)), H.rw_ (by repeat (first | exact Take.head | apply Take.tail))⟩ ?_
      (try simp only [Act.put, List.setIfInBounds_toArray, List.set_cons_succ, List.set_cons_zero])
      refine takeH (i := 1) rfl (.there .here) (by kernel_rfl) (by kernel_rfl) (by kernel_rfl) (fun _ _ _ h => absurd h.1 (by simp)) (yields_loads_R rfl rfl rfl (fun _ hS => hS.2) (by repeat (first | exact GetsAt.nil | apply GetsAt.here | apply GetsAt.there))) ⟨H.rw_ (by repeat (first | exact Take.head | apply Take.tail)), H.rw_ (by repeat (first | exact Take.head | apply Take.tail))⟩ ?_
      (try simp only [Act.put, List.setIfInBounds_toArray, List.set_cons_succ, List.set_cons_zero])
      refine anyH_1 (i := 2) (by kernel_rfl) ?_
      refine wpOp_at rfl (.there (.there .here)) rfl ?_
      refine wp_store_H rfl H rfl rfl (by repeat (first | (apply StoreAt.here; (first | exact CellsOf.agg | exact CellsOf.int | exact CellsOf.bool | exact CellsOf.slice | exact CellsOf.string | exact CellsOf.pointer | exact CellsOf.func); (repeat (first | exact SetsAt.nil | apply SetsAt.here | apply SetsAt.there)); exact rfl; exact rfl) | apply StoreAt.there)) ?_
      clear H
      intro w H
      refine ⟨⟨H.rw_ (by repeat (first | exact Take.head | apply Take.tail)), H.rw_ (by repeat (first | exact Take.head | apply Take.tail))⟩, ?_⟩
      (try simp only [Act.put, List.setIfInBounds_toArray, List.set_cons_succ, List.set_cons_zero])
      refine anyH_1 (i := 3) (by kernel_rfl) ?_
      refine wpOp_at rfl (.there (.there (.there .here))) rfl ?_
      refine wp_store_H rfl H rfl rfl (by repeat (first | (apply StoreAt.here; (first | exact CellsOf.agg | exact CellsOf.int | exact CellsOf.bool | exact CellsOf.slice | exact CellsOf.string | exact CellsOf.pointer | exact CellsOf.func); (repeat (first | exact SetsAt.nil | apply SetsAt.here | apply SetsAt.there)); exact rfl; exact rfl) | apply StoreAt.there)) ?_
      clear H
      intro w H
      refine ⟨⟨H.rw_ (by repeat (first | exact Take.head | apply Take.tail)), H.rw_ (by repeat (first | exact Take.head | apply Take.tail))⟩, ?_⟩
      (try simp only [Act.put, List.setIfInBounds_toArray, List.set_cons_succ, List.set_cons_zero])
      refine wpAnyH_done (by kernel_rfl) ?_ _
      exact ⟨rfl, (), Lib.hid trivial, H.pick (.cons (by repeat (first | exact Take.head | apply Take.tail)) (.cons (by repeat (first | exact Take.head | apply Take.tail)) (.cons (by repeat (first | exact Take.head | apply Take.tail)) (.cons (by repeat (first | exact Take.head | apply Take.tail)) (.cons (by repeat (first | exact Take.head | apply Take.tail)) (.cons (by repeat (first | exact Take.head | apply Take.tail)) (.cons (by repeat (first | exact Take.head | apply Take.tail)) (.cons (by repeat (first | exact Take.head | apply Take.tail)) .nil)))))))), by first | (simp only [puts_cons, puts_nil, Act.put, List.setIfInBounds_toArray, List.set_cons_succ, List.set_cons_zero]; done) | (simp only [puts_cons, puts_nil, Act.put, List.setIfInBounds_toArray, List.set_cons_succ, List.set_cons_zero]; rfl)⟩
    clear H
    rintro u w ⟨_, _, H, rfl⟩
    simp only [puts_cons, puts_nil, Act.put, List.setIfInBounds_toArray, List.set_cons_succ, List.set_cons_zero]
    go_wp2_with (first
      | go_skip
      | ((with_reducible refine at_box ?_); first | (refine wpList_box_H rfl rfl H rfl (by first | exact CellsOf.agg | exact CellsOf.int | exact CellsOf.bool | exact CellsOf.slice | exact CellsOf.string | exact CellsOf.pointer | exact CellsOf.func) ?_; clear H; intro b w H))
      | ((with_reducible refine at_alloc ?_); first | (refine wpList_alloc_H rfl rfl H ?_; clear H; intro bQ w H))
      | ((with_reducible refine at_load ?_); first | (refine wpList_load_H rfl rfl H rfl (by repeat (first | exact LoadAt.here rfl | apply LoadAt.there)) ?_) | (refine wpList_loads_H rfl rfl H rfl (by repeat (first | (apply LoadsAt.here; repeat (first | exact GetsAt.nil | apply GetsAt.here | apply GetsAt.there)) | apply LoadsAt.there)) ?_))
      | ((with_reducible refine at_store ?_); first | (refine wpList_store_H rfl rfl H rfl rfl (by repeat (first | (apply StoreAt.here; (first | exact CellsOf.agg | exact CellsOf.int | exact CellsOf.bool | exact CellsOf.slice | exact CellsOf.string | exact CellsOf.pointer | exact CellsOf.func); (repeat (first | exact SetsAt.nil | apply SetsAt.here | apply SetsAt.there)); exact rfl; exact rfl) | apply StoreAt.there)) ?_; clear H; intro w H)))
    have HF := Hp.bare (b := (⟨y.mem, y.gs, p2, y.pend⟩ : BV)) (H.pick (.cons (by repeat (first | exact Take.head | apply Take.tail)) (.cons (by repeat (first | exact Take.head | apply Take.tail)) (.cons (by repeat (first | exact Take.head | apply Take.tail)) (.cons (by repeat (first | exact Take.head | apply Take.tail)) (.cons (by repeat (first | exact Take.head | apply Take.tail)) (.cons (by repeat (first | exact Take.head | apply Take.tail)) (.cons (by repeat (first | exact Take.head | apply Take.tail)) (.cons (by repeat (first | exact Take.head | apply Take.tail)) .nil)))))))) : Hp W0 _ [.rows y.mem, .many En.int y.mem.xs, .gsl y.gs, .many En.gst y.gs.xs, .int p2, EB, .box bC 28 (barr x).toList, .box bD 28 (barr (⟨y.mem, y.gs, p2, y.pend⟩ : BV)).toList])
    refine bodyPost_ret (res_cc rfl H rfl (by repeat (first | (apply LoadsAt.here; repeat (first | exact GetsAt.nil | apply GetsAt.here | apply GetsAt.there)) | apply LoadsAt.there)) rfl (by repeat (first | (apply LoadsAt.here; repeat (first | exact GetsAt.nil | apply GetsAt.here | apply GetsAt.there)) | apply LoadsAt.there))) rfl ?_
    exact DSame.mk x (⟨y.mem, y.gs, p2, y.pend⟩ : BV) EB (.bare (⟨y.mem, y.gs, p2, y.pend⟩ : BV)) rfl HBD.out (bdr_own (bbig_grow HSZ.out HY (by rw [h2.out]; simp))) (HF.pick (.cons (by repeat (first | exact Take.head | apply Take.tail)) (.cons (by repeat (first | exact Take.head | apply Take.tail)) .nil)))
  · skip
    refine wp_cut (fun u a' w' => ∃ (y2 : BV) (F : En), Hid (BDr (En.all [F, .gsl y2.gs, .many En.gst y2.gs.xs, .int y2.outs]) y2) ∧ Hp W0 w' [(En.all [F, .gsl y2.gs, .many En.gst y2.gs.xs, .int y2.outs]), EB, .box bC 28 (barr x).toList, .box bD 28 (barr y2).toList] ∧ a' = puts u [(30, x.val), (31, (.pointer (some ⟨b, 0, none⟩))), (32, y2.val)]) ?_ ?_
    · refine wp_region_held (S := (fun w' => Rw w' bX 28 (barr x))) (by kernel_rfl) ?_
      replace H := H.drew
      refine takeH (i := 0) rfl .here (by kernel_rfl) (by kernel_rfl) (by kernel_rfl) (fun _ _ _ h => absurd h.1 (by simp)) (yields_loads_R rfl rfl rfl (fun _ hS => hS) (by repeat (first | exact GetsAt.nil | apply GetsAt.here | apply GetsAt.there))) (H.rw_ (by repeat (first | exact Take.head | apply Take.tail))) ?_
      (try simp only [Act.put, List.setIfInBounds_toArray, List.set_cons_succ, List.set_cons_zero])
      refine takeH (i := 1) rfl (.there .here) (by kernel_rfl) (by kernel_rfl) (by kernel_rfl) (fun _ _ _ h => absurd h.1 (by simp)) (yields_val (v := (.pointer (some ⟨b, 0, none⟩))) rfl (fun _ => by go_simp)) (H.rw_ (by repeat (first | exact Take.head | apply Take.tail))) ?_
      (try simp only [Act.put, List.setIfInBounds_toArray, List.set_cons_succ, List.set_cons_zero])
      refine anyH_1 (i := 2) (by kernel_rfl) ?_
      refine wpOp_at rfl (.there (.there .here)) rfl ?_
      refine wp_call_H Tryz.f66 rfl rfl Tryz.func66 (by kernel_rfl) rfl rfl (calls_ex2 (val := fun d : BV => d.val) (l17Any_H s b H (by repeat (first | exact Take.head | apply Take.tail)) R)) ?_
      clear H
      rintro _ w ⟨y2, F, rfl, hs, H⟩
      have HS2 := Lib.hid (bdr_any hs); clear hs
      replace H := Hp.close_all (l := [F, .gsl y2.gs, .many En.gst y2.gs.xs, .int y2.outs]) H
      refine ⟨(H.rw_ (by repeat (first | exact Take.head | apply Take.tail))), ?_⟩
      (try simp only [Act.put, List.setIfInBounds_toArray, List.set_cons_succ, List.set_cons_zero])
      refine anyH_1 (i := 3) (by kernel_rfl) ?_
      refine wpOp_at rfl (.there (.there (.there .here))) rfl ?_
      refine wp_store_H rfl H rfl rfl (by repeat (first | (apply StoreAt.here; (first | exact CellsOf.agg | exact CellsOf.int | exact CellsOf.bool | exact CellsOf.slice | exact CellsOf.string | exact CellsOf.pointer | exact CellsOf.func); (repeat (first | exact SetsAt.nil | apply SetsAt.here | apply SetsAt.there)); exact rfl; exact rfl) | apply StoreAt.there)) ?_
      clear H
      intro w H
      refine ⟨(H.rw_ (by repeat (first | exact Take.head | apply Take.tail))), ?_⟩
      (try simp only [Act.put, List.setIfInBounds_toArray, List.set_cons_succ, List.set_cons_zero])
      refine anyH_1 (i := 4) (by kernel_rfl) ?_
      refine wpOp_at rfl (.there (.there (.there (.there .here)))) rfl ?_
      refine wp_store_H rfl H rfl rfl (by repeat (first | (apply StoreAt.here; (first | exact CellsOf.agg | exact CellsOf.int | exact CellsOf.bool | exact CellsOf.slice | exact CellsOf.string | exact CellsOf.pointer | exact CellsOf.func); (repeat (first | exact SetsAt.nil | apply SetsAt.here | apply SetsAt.there)); exact rfl; exact rfl) | apply StoreAt.there)) ?_
      clear H
      intro w H
      refine ⟨(H.rw_ (by repeat (first | exact Take.head | apply Take.tail))), ?_⟩
      (try simp only [Act.put, List.setIfInBounds_toArray, List.set_cons_succ, List.set_cons_zero])
      refine wpAnyH_done (by kernel_rfl) ?_ _
      exact ⟨rfl, y2, F, HS2, H.pick (.cons (by repeat (first | exact Take.head | apply Take.tail)) (.cons (by repeat (first | exact Take.head | apply Take.tail)) (.cons (by repeat (first | exact Take.head | apply Take.tail)) (.cons (by repeat (first | exact Take.head | apply Take.tail)) .nil)))), by first | (simp only [puts_cons, puts_nil, Act.put, List.setIfInBounds_toArray, List.set_cons_succ, List.set_cons_zero]; done) | (simp only [puts_cons, puts_nil, Act.put, List.setIfInBounds_toArray, List.set_cons_succ, List.set_cons_zero]; rfl)⟩
    clear H
    rintro u w ⟨y2, F, HS2, H, rfl⟩
    simp only [puts_cons, puts_nil, Act.put, List.setIfInBounds_toArray, List.set_cons_succ, List.set_cons_zero]
    go_wp2_with (first
      | go_skip
      | ((with_reducible refine at_box ?_); first | (refine wpList_box_H rfl rfl H rfl (by first | exact CellsOf.agg | exact CellsOf.int | exact CellsOf.bool | exact CellsOf.slice | exact CellsOf.string | exact CellsOf.pointer | exact CellsOf.func) ?_; clear H; intro b w H))
      | ((with_reducible refine at_alloc ?_); first | (refine wpList_alloc_H rfl rfl H ?_; clear H; intro bQ w H))
      | ((with_reducible refine at_load ?_); first | (refine wpList_load_H rfl rfl H rfl (by repeat (first | exact LoadAt.here rfl | apply LoadAt.there)) ?_) | (refine wpList_loads_H rfl rfl H rfl (by repeat (first | (apply LoadsAt.here; repeat (first | exact GetsAt.nil | apply GetsAt.here | apply GetsAt.there)) | apply LoadsAt.there)) ?_))
      | ((with_reducible refine at_store ?_); first | (refine wpList_store_H rfl rfl H rfl rfl (by repeat (first | (apply StoreAt.here; (first | exact CellsOf.agg | exact CellsOf.int | exact CellsOf.bool | exact CellsOf.slice | exact CellsOf.string | exact CellsOf.pointer | exact CellsOf.func); (repeat (first | exact SetsAt.nil | apply SetsAt.here | apply SetsAt.there)); exact rfl; exact rfl) | apply StoreAt.there)) ?_; clear H; intro w H)))
    refine bodyPost_ret (res_cc rfl H rfl (by repeat (first | (apply LoadsAt.here; repeat (first | exact GetsAt.nil | apply GetsAt.here | apply GetsAt.there)) | apply LoadsAt.there)) rfl (by repeat (first | (apply LoadsAt.here; repeat (first | exact GetsAt.nil | apply GetsAt.here | apply GetsAt.there)) | apply LoadsAt.there))) rfl ?_
    exact DSame.mk x y2 EB (En.all [F, .gsl y2.gs, .many En.gst y2.gs.xs, .int y2.outs]) rfl HBD.out HS2.out (H.pick (.cons (by repeat (first | exact Take.head | apply Take.tail)) (.cons (by repeat (first | exact Take.head | apply Take.tail)) .nil)))
  · skip
    refine wp_cut (fun u a' w' => ∃ (_ : Unit), Hid True ∧ Hp W0 w' [.rows y.mem, .many En.int y.mem.xs, .gsl y.gs, .many En.gst y.gs.xs, .int y.outs, EB, .box bC 28 (barr x).toList, .box bD 28 (barr y).toList] ∧ a' = puts u [(33, x.val), (34, y.val)]) ?_ ?_
    · refine wp_region_held (S := (fun w' => Rw w' bX 28 (barr x) ∧ Rw w' bY 28 (barr y))) (by kernel_rfl) ?_
      replace H := H.drew
      refine takeH (i := 0) rfl .here (by kernel_rfl) (by kernel_rfl) (by kernel_rfl) (fun _ _ _ h => absurd h.1 (by simp)) (yields_loads_R rfl rfl rfl (fun _ hS => hS.1) (by repeat (first | exact GetsAt.nil | apply GetsAt.here | apply GetsAt.there))) ⟨H.rw_ (by repeat (first | exact Take.head | apply Take.tail)), H.rw_ (by repeat (first | exact Take.head | apply Take.tail))⟩ ?_
      (try simp only [Act.put, List.setIfInBounds_toArray, List.set_cons_succ, List.set_cons_zero])
      refine takeH (i := 1) rfl (.there .here) (by kernel_rfl) (by kernel_rfl) (by kernel_rfl) (fun _ _ _ h => absurd h.1 (by simp)) (yields_loads_R rfl rfl rfl (fun _ hS => hS.2) (by repeat (first | exact GetsAt.nil | apply GetsAt.here | apply GetsAt.there))) ⟨H.rw_ (by repeat (first | exact Take.head | apply Take.tail)), H.rw_ (by repeat (first | exact Take.head | apply Take.tail))⟩ ?_
      (try simp only [Act.put, List.setIfInBounds_toArray, List.set_cons_succ, List.set_cons_zero])
      refine anyH_1 (i := 2) (by kernel_rfl) ?_
      refine wpOp_at rfl (.there (.there .here)) rfl ?_
      refine wp_store_H rfl H rfl rfl (by repeat (first | (apply StoreAt.here; (first | exact CellsOf.agg | exact CellsOf.int | exact CellsOf.bool | exact CellsOf.slice | exact CellsOf.string | exact CellsOf.pointer | exact CellsOf.func); (repeat (first | exact SetsAt.nil | apply SetsAt.here | apply SetsAt.there)); exact rfl; exact rfl) | apply StoreAt.there)) ?_
      clear H
      intro w H
      refine ⟨⟨H.rw_ (by repeat (first | exact Take.head | apply Take.tail)), H.rw_ (by repeat (first | exact Take.head | apply Take.tail))⟩, ?_⟩
      (try simp only [Act.put, List.setIfInBounds_toArray, List.set_cons_succ, List.set_cons_zero])
      refine anyH_1 (i := 3) (by kernel_rfl) ?_
      refine wpOp_at rfl (.there (.there (.there .here))) rfl ?_
      refine wp_store_H rfl H rfl rfl (by repeat (first | (apply StoreAt.here; (first | exact CellsOf.agg | exact CellsOf.int | exact CellsOf.bool | exact CellsOf.slice | exact CellsOf.string | exact CellsOf.pointer | exact CellsOf.func); (repeat (first | exact SetsAt.nil | apply SetsAt.here | apply SetsAt.there)); exact rfl; exact rfl) | apply StoreAt.there)) ?_
      clear H
      intro w H
      refine ⟨⟨H.rw_ (by repeat (first | exact Take.head | apply Take.tail)), H.rw_ (by repeat (first | exact Take.head | apply Take.tail))⟩, ?_⟩
      (try simp only [Act.put, List.setIfInBounds_toArray, List.set_cons_succ, List.set_cons_zero])
      refine wpAnyH_done (by kernel_rfl) ?_ _
      exact ⟨rfl, (), Lib.hid trivial, H.pick (.cons (by repeat (first | exact Take.head | apply Take.tail)) (.cons (by repeat (first | exact Take.head | apply Take.tail)) (.cons (by repeat (first | exact Take.head | apply Take.tail)) (.cons (by repeat (first | exact Take.head | apply Take.tail)) (.cons (by repeat (first | exact Take.head | apply Take.tail)) (.cons (by repeat (first | exact Take.head | apply Take.tail)) (.cons (by repeat (first | exact Take.head | apply Take.tail)) (.cons (by repeat (first | exact Take.head | apply Take.tail)) .nil)))))))), by first | (simp only [puts_cons, puts_nil, Act.put, List.setIfInBounds_toArray, List.set_cons_succ, List.set_cons_zero]; done) | (simp only [puts_cons, puts_nil, Act.put, List.setIfInBounds_toArray, List.set_cons_succ, List.set_cons_zero]; rfl)⟩
    clear H
    rintro u w ⟨_, _, H, rfl⟩
    simp only [puts_cons, puts_nil, Act.put, List.setIfInBounds_toArray, List.set_cons_succ, List.set_cons_zero]
    go_wp2_with (first
      | go_skip
      | ((with_reducible refine at_box ?_); first | (refine wpList_box_H rfl rfl H rfl (by first | exact CellsOf.agg | exact CellsOf.int | exact CellsOf.bool | exact CellsOf.slice | exact CellsOf.string | exact CellsOf.pointer | exact CellsOf.func) ?_; clear H; intro b w H))
      | ((with_reducible refine at_alloc ?_); first | (refine wpList_alloc_H rfl rfl H ?_; clear H; intro bQ w H))
      | ((with_reducible refine at_load ?_); first | (refine wpList_load_H rfl rfl H rfl (by repeat (first | exact LoadAt.here rfl | apply LoadAt.there)) ?_) | (refine wpList_loads_H rfl rfl H rfl (by repeat (first | (apply LoadsAt.here; repeat (first | exact GetsAt.nil | apply GetsAt.here | apply GetsAt.there)) | apply LoadsAt.there)) ?_))
      | ((with_reducible refine at_store ?_); first | (refine wpList_store_H rfl rfl H rfl rfl (by repeat (first | (apply StoreAt.here; (first | exact CellsOf.agg | exact CellsOf.int | exact CellsOf.bool | exact CellsOf.slice | exact CellsOf.string | exact CellsOf.pointer | exact CellsOf.func); (repeat (first | exact SetsAt.nil | apply SetsAt.here | apply SetsAt.there)); exact rfl; exact rfl) | apply StoreAt.there)) ?_; clear H; intro w H)))
    have HF := Hp.bare (b := y) (H.pick (.cons (by repeat (first | exact Take.head | apply Take.tail)) (.cons (by repeat (first | exact Take.head | apply Take.tail)) (.cons (by repeat (first | exact Take.head | apply Take.tail)) (.cons (by repeat (first | exact Take.head | apply Take.tail)) (.cons (by repeat (first | exact Take.head | apply Take.tail)) (.cons (by repeat (first | exact Take.head | apply Take.tail)) (.cons (by repeat (first | exact Take.head | apply Take.tail)) (.cons (by repeat (first | exact Take.head | apply Take.tail)) .nil)))))))) : Hp W0 _ [.rows y.mem, .many En.int y.mem.xs, .gsl y.gs, .many En.gst y.gs.xs, .int y.outs, EB, .box bC 28 (barr x).toList, .box bD 28 (barr y).toList])
    refine bodyPost_ret (res_cc rfl H rfl (by repeat (first | (apply LoadsAt.here; repeat (first | exact GetsAt.nil | apply GetsAt.here | apply GetsAt.there)) | apply LoadsAt.there)) rfl (by repeat (first | (apply LoadsAt.here; repeat (first | exact GetsAt.nil | apply GetsAt.here | apply GetsAt.there)) | apply LoadsAt.there))) rfl ?_
    exact DSame.mk x y EB (.bare y) rfl HBD.out (bdr_own Zy) (HF.pick (.cons (by repeat (first | exact Take.head | apply Take.tail)) (.cons (by repeat (first | exact Take.head | apply Take.tail)) .nil)))
theorem drawSameBare_c (s : Sl Int) (W0 : World) (R : Rd u8cell 1 W0 s ∧ s.xs.length ≤ 1048576) : Calls Tryz.prog 43 #[.slice s.A s.xs.length s.c] W0 fun e w' => ∃ (x y : BV) (E1 E2 : En), e = .returned (.tuple #[x.val, y.val]) ∧ (BDr E1 x ∧ BDr E2 y) ∧ Hp W0 w' [E1, E2] := drawSameBare_c0 s W0 R
end Go.Proofs.YtaafnenmdombiaaGreat
