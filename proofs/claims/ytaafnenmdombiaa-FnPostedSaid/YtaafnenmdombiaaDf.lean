/- Contracts of the draws of the laws on bare machines. No condition but that the argument lies in memory. -/
import Derived.Test.YtaafnenmdombiaaDe
import Derived.Test.YtaafnenmdombiaaBz
namespace Go.Proofs.Ytaafnenmdombiaa
open Go.RowKit
section
variable {P : Program} {w0 w : World} {L : List En}
set_option linter.unusedSimpArgs false in
theorem res_ctt {fn : Func} {p0 : Tmp} {p1 : Tmp} {p2 : Tmp} {ty0 : TypeId} {b0 n0 : Nat} {vs0 : List Value} (h : fn.results = #[.cell p0 ty0, .tmp p1, .tmp p2]) (H : Hp w0 w L) {tmps : Array Value} (hp0 : tmps.getD p0 undef = .pointer (some ⟨b0, 0, none⟩)) [hS0 : TyA P ty0 n0] (t0 : LoadsAt L b0 0 n0 vs0) :
    (results fn tmps).run P w = .ok (.tuple #[.agg vs0.toArray, tmps.getD p1 undef, tmps.getD p2 undef]) w := by
  have hr0 := run_loads_H H hS0 t0
  simp [Instr.loadAt, Instr.sureAddr] at hr0
  have hp0' : tmps[p0]?.getD undef = .pointer (some ⟨b0, 0, none⟩) := by simpa using hp0
  simp [results, h, Sem.run_bind, Result.andThen, asAddr, hp0', hr0]
set_option linter.unusedSimpArgs false in
theorem res_cttt {fn : Func} {p0 : Tmp} {p1 : Tmp} {p2 : Tmp} {p3 : Tmp} {ty0 : TypeId} {b0 n0 : Nat} {vs0 : List Value} (h : fn.results = #[.cell p0 ty0, .tmp p1, .tmp p2, .tmp p3]) (H : Hp w0 w L) {tmps : Array Value} (hp0 : tmps.getD p0 undef = .pointer (some ⟨b0, 0, none⟩)) [hS0 : TyA P ty0 n0] (t0 : LoadsAt L b0 0 n0 vs0) :
    (results fn tmps).run P w = .ok (.tuple #[.agg vs0.toArray, tmps.getD p1 undef, tmps.getD p2 undef, tmps.getD p3 undef]) w := by
  have hr0 := run_loads_H H hS0 t0
  simp [Instr.loadAt, Instr.sureAddr] at hr0
  have hp0' : tmps[p0]?.getD undef = .pointer (some ⟨b0, 0, none⟩) := by simpa using hp0
  simp [results, h, Sem.run_bind, Result.andThen, asAddr, hp0', hr0]
end
theorem brd_any {x : BV} {E : En} (h : MRd E x.mem) : ∀ w, (En.all [E, .gsl x.gs, .many En.gst x.gs.xs, .int x.outs]).ok w → BRd w x := fun w hw => by
  have h1 : E.ok w := hw E (by simp)
  have h2 : (En.gsl x.gs).ok w := hw (.gsl x.gs) (by simp)
  have h3 : (En.many En.gst x.gs.xs).ok w := hw (.many En.gst x.gs.xs) (by simp)
  have h4 : (En.int x.outs).ok w := hw (.int x.outs) (by simp)
  exact ⟨(h w h1).1, (h w h1).2, Own.rd h2 g_len, fun g hg => GOwn.rd (h3 g hg), Own.rd h4 int_len⟩
theorem bbig_sm {x : BV} (h1 : MSm x.mem) (h2 : GsSm x.gs) (h3 : x.outs.xs.length ≤ 44) : BBig x := by
  have a : (x.mem.xs.map (fun y => y.xs.length)).sum ≤ 4 * x.mem.xs.length := by
    have := h1.2
    generalize x.mem.xs = l at this
    induction l with
    | nil => simp
    | cons y l ih => have h := this y (by simp); have := ih (fun z hz => this z (by simp [hz])); simp only [List.map_cons, List.sum_cons, List.length_cons]; omega
  have b : (x.gs.xs.map (fun g => g.m.size)).sum ≤ 68 * x.gs.xs.length := by
    have := h2.2
    generalize x.gs.xs = l at this
    induction l with
    | nil => simp
    | cons y l ih =>
      have h := this y (by simp); have := ih (fun z hz => this z (by simp [hz]))
      have e : y.m.size = y.prog.xs.length + y.written.xs.length + y.live.xs.length + y.seen.xs.length := rfl
      obtain ⟨q1, q2, q3, q4⟩ := h
      simp only [List.map_cons, List.sum_cons, List.length_cons]; omega
  unfold BBig MB.size
  have e1 : rowsSize x.m.memory = x.mem.xs.length + (x.mem.xs.map (fun y => y.xs.length)).sum := by simp [rowsSize, BV.m, memOf, List.map_map, Function.comp_def]
  have e2 : gsSize x.m.guests = x.gs.xs.length + (x.gs.xs.map (fun g => g.m.size)).sum := by simp [gsSize, BV.m, gsOf, List.map_map, Function.comp_def]
  have e3 : x.m.outs.length = x.outs.xs.length := rfl
  have := h1.1; have := h2.1
  rw [e1, e2, e3]; omega
/-- What is known of a drawn bare machine. -/
def BDr (E : En) (x : BV) : Prop := (∀ w, E.ok w → BRd w x) ∧ BBig x
theorem bdr_any {x : BV} {E : En} (h : MSm x.mem ∧ MRd E x.mem ∧ GsSm x.gs ∧ x.outs.xs.length ≤ 44) : BDr (.all [E, .gsl x.gs, .many En.gst x.gs.xs, .int x.outs]) x := ⟨brd_any h.2.1, bbig_sm h.1 h.2.2.1 h.2.2.2⟩
theorem size_sm {x : BV} (h1 : MSm x.mem) (h2 : GsSm x.gs) (h3 : x.outs.xs.length ≤ 44) : x.m.size ≤ 1000 := by
  have a : (x.mem.xs.map (fun y => y.xs.length)).sum ≤ 4 * x.mem.xs.length := by
    have := h1.2
    generalize x.mem.xs = l at this
    induction l with
    | nil => simp
    | cons y l ih => have h := this y (by simp); have := ih (fun z hz => this z (by simp [hz])); simp only [List.map_cons, List.sum_cons, List.length_cons]; omega
  have b : (x.gs.xs.map (fun g => g.m.size)).sum ≤ 68 * x.gs.xs.length := by
    have := h2.2
    generalize x.gs.xs = l at this
    induction l with
    | nil => simp
    | cons y l ih =>
      have h := this y (by simp); have := ih (fun z hz => this z (by simp [hz]))
      have e : y.m.size = y.prog.xs.length + y.written.xs.length + y.live.xs.length + y.seen.xs.length := rfl
      obtain ⟨q1, q2, q3, q4⟩ := h
      simp only [List.map_cons, List.sum_cons, List.length_cons]; omega
  unfold MB.size
  have e1 : rowsSize x.m.memory = x.mem.xs.length + (x.mem.xs.map (fun y => y.xs.length)).sum := by simp [rowsSize, BV.m, memOf, List.map_map, Function.comp_def]
  have e2 : gsSize x.m.guests = x.gs.xs.length + (x.gs.xs.map (fun g => g.m.size)).sum := by simp [gsSize, BV.m, gsOf, List.map_map, Function.comp_def]
  have e3 : x.m.outs.length = x.outs.xs.length := rfl
  have := h1.1; have := h2.1
  rw [e1, e2, e3]; omega
set_option linter.unusedSimpArgs false in
set_option linter.unusedVariables false in
set_option maxRecDepth 100000 in
set_option maxHeartbeats 4000000 in
theorem drawBarePoke_c (s : Sl Int) (W0 : World) (R : Rd u8cell 1 W0 s ∧ s.xs.length ≤ 1048576) : Calls Try.prog 6 #[.slice s.A s.xs.length s.c] W0 fun e w' => ∃ (x : BV) (EB : En) (p q v : Int), e = .returned (.tuple #[x.val, .int .i64 p, .int .i64 q, .int .i64 v]) ∧ BDr EB x ∧ x.m.size ≤ 1000 ∧ Hp W0 w' [EB] := by
  have H := Hp.start W0
  go_enter Try.func6, Try.ntmps6
  go_wp2_with (first
    | go_skip
    | ((with_reducible refine at_box ?_); first | (refine wpList_box_H rfl rfl H rfl (by first | exact CellsOf.agg | exact CellsOf.int | exact CellsOf.bool | exact CellsOf.slice | exact CellsOf.string | exact CellsOf.pointer | exact CellsOf.func) ?_; clear H; intro b w H))
    | ((with_reducible refine at_alloc ?_); first | (refine wpList_alloc_H rfl rfl H ?_; clear H; intro b w H))
    | ((with_reducible refine at_load ?_); first | (refine wpList_load_H rfl rfl H rfl (by repeat (first | exact LoadAt.here rfl | apply LoadAt.there)) ?_) | (refine wpList_loads_H rfl rfl H rfl (by repeat (first | (apply LoadsAt.here; repeat (first | exact GetsAt.nil | apply GetsAt.here | apply GetsAt.there)) | apply LoadsAt.there)) ?_))
    | ((with_reducible refine at_store ?_); first | (refine wpList_store_H rfl rfl H rfl rfl (by repeat (first | (apply StoreAt.here; (first | exact CellsOf.agg | exact CellsOf.int | exact CellsOf.bool | exact CellsOf.slice | exact CellsOf.string | exact CellsOf.pointer | exact CellsOf.func); (repeat (first | exact SetsAt.nil | apply SetsAt.here | apply SetsAt.there)); exact rfl; exact rfl) | apply StoreAt.there)) ?_; clear H; intro w H))
    | (go_at_call 23; refine (l01New_cu s _ ⟨R.1.at_ H, R.2⟩).mono ?_; rintro e w ⟨b, rfl, K⟩; replace H := H.add_all K; clear K))
  go_at_call 24
  refine (l17Any_H s b H (by repeat (first | exact Take.head | apply Take.tail)) R).mono ?_
  clear H
  rintro e w ⟨x, E, rfl, hs, H⟩
  have HSx := Lib.hid hs; clear hs
  replace H := Hp.close_all (l := [E, .gsl x.gs, .many En.gst x.gs.xs, .int x.outs]) H
  go_wp2_with (first
    | go_skip
    | ((with_reducible refine at_box ?_); first | (refine wpList_box_H rfl rfl H rfl (by first | exact CellsOf.agg | exact CellsOf.int | exact CellsOf.bool | exact CellsOf.slice | exact CellsOf.string | exact CellsOf.pointer | exact CellsOf.func) ?_; clear H; intro b w H))
    | ((with_reducible refine at_alloc ?_); first | (refine wpList_alloc_H rfl rfl H ?_; clear H; intro bQ w H))
    | ((with_reducible refine at_load ?_); first | (refine wpList_load_H rfl rfl H rfl (by repeat (first | exact LoadAt.here rfl | apply LoadAt.there)) ?_) | (refine wpList_loads_H rfl rfl H rfl (by repeat (first | (apply LoadsAt.here; repeat (first | exact GetsAt.nil | apply GetsAt.here | apply GetsAt.there)) | apply LoadsAt.there)) ?_))
    | ((with_reducible refine at_store ?_); first | (refine wpList_store_H rfl rfl H rfl rfl (by repeat (first | (apply StoreAt.here; (first | exact CellsOf.agg | exact CellsOf.int | exact CellsOf.bool | exact CellsOf.slice | exact CellsOf.string | exact CellsOf.pointer | exact CellsOf.func); (repeat (first | exact SetsAt.nil | apply SetsAt.here | apply SetsAt.there)); exact rfl; exact rfl) | apply StoreAt.there)) ?_; clear H; intro w H)))
  go_at_call 25
  refine (l03Page_H s b H (by repeat (first | exact Take.head | apply Take.tail)) R).mono ?_
  clear H
  rintro e w ⟨p, rfl, H⟩
  go_wp2_with (first
    | go_skip
    | ((with_reducible refine at_box ?_); first | (refine wpList_box_H rfl rfl H rfl (by first | exact CellsOf.agg | exact CellsOf.int | exact CellsOf.bool | exact CellsOf.slice | exact CellsOf.string | exact CellsOf.pointer | exact CellsOf.func) ?_; clear H; intro b w H))
    | ((with_reducible refine at_alloc ?_); first | (refine wpList_alloc_H rfl rfl H ?_; clear H; intro bQ w H))
    | ((with_reducible refine at_load ?_); first | (refine wpList_load_H rfl rfl H rfl (by repeat (first | exact LoadAt.here rfl | apply LoadAt.there)) ?_) | (refine wpList_loads_H rfl rfl H rfl (by repeat (first | (apply LoadsAt.here; repeat (first | exact GetsAt.nil | apply GetsAt.here | apply GetsAt.there)) | apply LoadsAt.there)) ?_))
    | ((with_reducible refine at_store ?_); first | (refine wpList_store_H rfl rfl H rfl rfl (by repeat (first | (apply StoreAt.here; (first | exact CellsOf.agg | exact CellsOf.int | exact CellsOf.bool | exact CellsOf.slice | exact CellsOf.string | exact CellsOf.pointer | exact CellsOf.func); (repeat (first | exact SetsAt.nil | apply SetsAt.here | apply SetsAt.there)); exact rfl; exact rfl) | apply StoreAt.there)) ?_; clear H; intro w H))
    | ((with_reducible refine at_slice ?_); first | ((with_reducible refine at_dst 14 ?_); refine wpList_lit_H rfl rfl H ([0, 1, 3, 4, -1] : List Int) (by kernel_rfl) rfl (by decide) (by decide) ?_; clear H; intro bl w H))
    | (go_at_call 26; refine (l01PickInt_H s b (⟨some ⟨bl, 0, none⟩, 5, [0, 1, 3, 4, -1]⟩ : Sl Int) H (by repeat (first | exact Take.head | apply Take.tail)) (by repeat (first | exact Take.head | apply Take.tail)) R (by simp) (by simp)).mono ?_; clear H; rintro e w ⟨q, rfl, qm, H⟩; have QM := Lib.hid qm; clear qm))
  go_at_call 27
  refine (l19Val_H s b H (by repeat (first | exact Take.head | apply Take.tail)) R).mono ?_
  clear H
  rintro e w ⟨v, rfl, H⟩
  go_wp2_with (first
    | go_skip
    | ((with_reducible refine at_box ?_); first | (refine wpList_box_H rfl rfl H rfl (by first | exact CellsOf.agg | exact CellsOf.int | exact CellsOf.bool | exact CellsOf.slice | exact CellsOf.string | exact CellsOf.pointer | exact CellsOf.func) ?_; clear H; intro b w H))
    | ((with_reducible refine at_alloc ?_); first | (refine wpList_alloc_H rfl rfl H ?_; clear H; intro bQ w H))
    | ((with_reducible refine at_load ?_); first | (refine wpList_load_H rfl rfl H rfl (by repeat (first | exact LoadAt.here rfl | apply LoadAt.there)) ?_) | (refine wpList_loads_H rfl rfl H rfl (by repeat (first | (apply LoadsAt.here; repeat (first | exact GetsAt.nil | apply GetsAt.here | apply GetsAt.there)) | apply LoadsAt.there)) ?_))
    | ((with_reducible refine at_store ?_); first | (refine wpList_store_H rfl rfl H rfl rfl (by repeat (first | (apply StoreAt.here; (first | exact CellsOf.agg | exact CellsOf.int | exact CellsOf.bool | exact CellsOf.slice | exact CellsOf.string | exact CellsOf.pointer | exact CellsOf.func); (repeat (first | exact SetsAt.nil | apply SetsAt.here | apply SetsAt.there)); exact rfl; exact rfl) | apply StoreAt.there)) ?_; clear H; intro w H)))
  refine bodyPost_ret (res_cttt rfl H rfl (by repeat (first | (apply LoadsAt.here; repeat (first | exact GetsAt.nil | apply GetsAt.here | apply GetsAt.there)) | apply LoadsAt.there))) rfl ?_
  exact ⟨x, (En.all [E, .gsl x.gs, .many En.gst x.gs.xs, .int x.outs]), p, q, v, rfl, bdr_any HSx.out, size_sm HSx.out.1 HSx.out.2.2.1 HSx.out.2.2.2, H.pick (.cons (by repeat (first | exact Take.head | apply Take.tail)) .nil)⟩
set_option linter.unusedSimpArgs false in
set_option linter.unusedVariables false in
set_option maxRecDepth 100000 in
set_option maxHeartbeats 4000000 in
theorem drawBarePost_c (s : Sl Int) (W0 : World) (R : Rd u8cell 1 W0 s ∧ s.xs.length ≤ 1048576) : Calls Try.prog 14 #[.slice s.A s.xs.length s.c] W0 fun e w' => ∃ (x : BV) (EB : En) (g : Int), e = .returned (.tuple #[x.val, .int .i64 g]) ∧ BDr EB x ∧ x.m.size ≤ 1000 ∧ Hp W0 w' [EB] := by
  have H := Hp.start W0
  go_enter Try.func14, Try.ntmps14
  go_wp2_with (first
    | go_skip
    | ((with_reducible refine at_box ?_); first | (refine wpList_box_H rfl rfl H rfl (by first | exact CellsOf.agg | exact CellsOf.int | exact CellsOf.bool | exact CellsOf.slice | exact CellsOf.string | exact CellsOf.pointer | exact CellsOf.func) ?_; clear H; intro b w H))
    | ((with_reducible refine at_alloc ?_); first | (refine wpList_alloc_H rfl rfl H ?_; clear H; intro b w H))
    | ((with_reducible refine at_load ?_); first | (refine wpList_load_H rfl rfl H rfl (by repeat (first | exact LoadAt.here rfl | apply LoadAt.there)) ?_) | (refine wpList_loads_H rfl rfl H rfl (by repeat (first | (apply LoadsAt.here; repeat (first | exact GetsAt.nil | apply GetsAt.here | apply GetsAt.there)) | apply LoadsAt.there)) ?_))
    | ((with_reducible refine at_store ?_); first | (refine wpList_store_H rfl rfl H rfl rfl (by repeat (first | (apply StoreAt.here; (first | exact CellsOf.agg | exact CellsOf.int | exact CellsOf.bool | exact CellsOf.slice | exact CellsOf.string | exact CellsOf.pointer | exact CellsOf.func); (repeat (first | exact SetsAt.nil | apply SetsAt.here | apply SetsAt.there)); exact rfl; exact rfl) | apply StoreAt.there)) ?_; clear H; intro w H))
    | (go_at_call 23; refine (l01New_cu s _ ⟨R.1.at_ H, R.2⟩).mono ?_; rintro e w ⟨b, rfl, K⟩; replace H := H.add_all K; clear K))
  go_at_call 24
  refine (l17Any_H s b H (by repeat (first | exact Take.head | apply Take.tail)) R).mono ?_
  clear H
  rintro e w ⟨x, E, rfl, hs, H⟩
  have HSx := Lib.hid hs; clear hs
  replace H := Hp.close_all (l := [E, .gsl x.gs, .many En.gst x.gs.xs, .int x.outs]) H
  go_wp2_with (first
    | go_skip
    | ((with_reducible refine at_box ?_); first | (refine wpList_box_H rfl rfl H rfl (by first | exact CellsOf.agg | exact CellsOf.int | exact CellsOf.bool | exact CellsOf.slice | exact CellsOf.string | exact CellsOf.pointer | exact CellsOf.func) ?_; clear H; intro b w H))
    | ((with_reducible refine at_alloc ?_); first | (refine wpList_alloc_H rfl rfl H ?_; clear H; intro bQ w H))
    | ((with_reducible refine at_load ?_); first | (refine wpList_load_H rfl rfl H rfl (by repeat (first | exact LoadAt.here rfl | apply LoadAt.there)) ?_) | (refine wpList_loads_H rfl rfl H rfl (by repeat (first | (apply LoadsAt.here; repeat (first | exact GetsAt.nil | apply GetsAt.here | apply GetsAt.there)) | apply LoadsAt.there)) ?_))
    | ((with_reducible refine at_store ?_); first | (refine wpList_store_H rfl rfl H rfl rfl (by repeat (first | (apply StoreAt.here; (first | exact CellsOf.agg | exact CellsOf.int | exact CellsOf.bool | exact CellsOf.slice | exact CellsOf.string | exact CellsOf.pointer | exact CellsOf.func); (repeat (first | exact SetsAt.nil | apply SetsAt.here | apply SetsAt.there)); exact rfl; exact rfl) | apply StoreAt.there)) ?_; clear H; intro w H))
    | ((with_reducible refine at_slice ?_); first | ((with_reducible refine at_dst 10 ?_); refine wpList_lit_H rfl rfl H ([0, 1, 2, 5, 7, 8, -1] : List Int) (by kernel_rfl) rfl (by decide) (by decide) ?_; clear H; intro bl w H))
    | (go_at_call 26; refine (l01PickInt_H s b (⟨some ⟨bl, 0, none⟩, 7, [0, 1, 2, 5, 7, 8, -1]⟩ : Sl Int) H (by repeat (first | exact Take.head | apply Take.tail)) (by repeat (first | exact Take.head | apply Take.tail)) R (by simp) (by simp)).mono ?_; clear H; rintro e w ⟨g, rfl, gm, H⟩; have GM := Lib.hid gm; clear gm))
  refine bodyPost_ret (results_H2 rfl H rfl (by repeat (first | (apply LoadsAt.here; repeat (first | exact GetsAt.nil | apply GetsAt.here | apply GetsAt.there)) | apply LoadsAt.there))) rfl ?_
  exact ⟨x, (En.all [E, .gsl x.gs, .many En.gst x.gs.xs, .int x.outs]), g, rfl, bdr_any HSx.out, size_sm HSx.out.1 HSx.out.2.2.1 HSx.out.2.2.2, H.pick (.cons (by repeat (first | exact Take.head | apply Take.tail)) .nil)⟩
set_option linter.unusedSimpArgs false in
set_option linter.unusedVariables false in
set_option maxRecDepth 100000 in
set_option maxHeartbeats 4000000 in
theorem drawBareAck_c (s : Sl Int) (W0 : World) (R : Rd u8cell 1 W0 s ∧ s.xs.length ≤ 1048576) : Calls Try.prog 18 #[.slice s.A s.xs.length s.c] W0 fun e w' => ∃ (x : BV) (EB : En), e = .returned x.val ∧ BDr EB x ∧ x.m.size ≤ 1000 ∧ Hp W0 w' [EB] := by
  have H := Hp.start W0
  go_enter Try.func18, Try.ntmps18
  go_wp2_with (first
    | go_skip
    | ((with_reducible refine at_box ?_); first | (refine wpList_box_H rfl rfl H rfl (by first | exact CellsOf.agg | exact CellsOf.int | exact CellsOf.bool | exact CellsOf.slice | exact CellsOf.string | exact CellsOf.pointer | exact CellsOf.func) ?_; clear H; intro b w H))
    | ((with_reducible refine at_alloc ?_); first | (refine wpList_alloc_H rfl rfl H ?_; clear H; intro b w H))
    | ((with_reducible refine at_load ?_); first | (refine wpList_load_H rfl rfl H rfl (by repeat (first | exact LoadAt.here rfl | apply LoadAt.there)) ?_) | (refine wpList_loads_H rfl rfl H rfl (by repeat (first | (apply LoadsAt.here; repeat (first | exact GetsAt.nil | apply GetsAt.here | apply GetsAt.there)) | apply LoadsAt.there)) ?_))
    | ((with_reducible refine at_store ?_); first | (refine wpList_store_H rfl rfl H rfl rfl (by repeat (first | (apply StoreAt.here; (first | exact CellsOf.agg | exact CellsOf.int | exact CellsOf.bool | exact CellsOf.slice | exact CellsOf.string | exact CellsOf.pointer | exact CellsOf.func); (repeat (first | exact SetsAt.nil | apply SetsAt.here | apply SetsAt.there)); exact rfl; exact rfl) | apply StoreAt.there)) ?_; clear H; intro w H))
    | (go_at_call 23; refine (l01New_cu s _ ⟨R.1.at_ H, R.2⟩).mono ?_; rintro e w ⟨b, rfl, K⟩; replace H := H.add_all K; clear K))
  go_at_call 24
  refine (l17Any_H s b H (by repeat (first | exact Take.head | apply Take.tail)) R).mono ?_
  clear H
  rintro e w ⟨x, E, rfl, hs, H⟩
  have HSx := Lib.hid hs; clear hs
  replace H := Hp.close_all (l := [E, .gsl x.gs, .many En.gst x.gs.xs, .int x.outs]) H
  go_wp2_with (first
    | go_skip
    | ((with_reducible refine at_box ?_); first | (refine wpList_box_H rfl rfl H rfl (by first | exact CellsOf.agg | exact CellsOf.int | exact CellsOf.bool | exact CellsOf.slice | exact CellsOf.string | exact CellsOf.pointer | exact CellsOf.func) ?_; clear H; intro b w H))
    | ((with_reducible refine at_alloc ?_); first | (refine wpList_alloc_H rfl rfl H ?_; clear H; intro bQ w H))
    | ((with_reducible refine at_load ?_); first | (refine wpList_load_H rfl rfl H rfl (by repeat (first | exact LoadAt.here rfl | apply LoadAt.there)) ?_) | (refine wpList_loads_H rfl rfl H rfl (by repeat (first | (apply LoadsAt.here; repeat (first | exact GetsAt.nil | apply GetsAt.here | apply GetsAt.there)) | apply LoadsAt.there)) ?_))
    | ((with_reducible refine at_store ?_); first | (refine wpList_store_H rfl rfl H rfl rfl (by repeat (first | (apply StoreAt.here; (first | exact CellsOf.agg | exact CellsOf.int | exact CellsOf.bool | exact CellsOf.slice | exact CellsOf.string | exact CellsOf.pointer | exact CellsOf.func); (repeat (first | exact SetsAt.nil | apply SetsAt.here | apply SetsAt.there)); exact rfl; exact rfl) | apply StoreAt.there)) ?_; clear H; intro w H)))
  refine bodyPost_ret (results_H rfl H rfl (by repeat (first | (apply LoadsAt.here; repeat (first | exact GetsAt.nil | apply GetsAt.here | apply GetsAt.there)) | apply LoadsAt.there))) rfl ?_
  exact ⟨x, (En.all [E, .gsl x.gs, .many En.gst x.gs.xs, .int x.outs]), rfl, bdr_any HSx.out, size_sm HSx.out.1 HSx.out.2.2.1 HSx.out.2.2.2, H.pick (.cons (by repeat (first | exact Take.head | apply Take.tail)) .nil)⟩
def DAns (W0 : World) (e : Ending) (w' : World) : Prop := ∃ (x : BV) (EB : En) (g v : Int), e = .returned (.tuple #[x.val, .int .i64 g, .int .i64 v]) ∧ BDr EB x ∧ x.m.size ≤ 1000 ∧ Hp W0 w' [EB]
theorem DAns.mk {W0 : World} {e : Ending} {w' : World} (x : BV) (EB : En) (g v : Int) (h1 : e = .returned (.tuple #[x.val, .int .i64 g, .int .i64 v])) (h2 : BDr EB x) (h4 : x.m.size ≤ 1000) (h3 : Hp W0 w' [EB]) : DAns W0 e w' := ⟨x, EB, g, v, h1, h2, h4, h3⟩
def DSame (W0 : World) (e : Ending) (w' : World) : Prop := ∃ (x y : BV) (E1 E2 : En), e = .returned (.tuple #[x.val, y.val]) ∧ (BDr E1 x ∧ BDr E2 y) ∧ Hp W0 w' [E1, E2]
theorem DSame.mk {W0 : World} {e : Ending} {w' : World} (x y : BV) (E1 E2 : En) (h1 : e = .returned (.tuple #[x.val, y.val])) (h2 : BDr E1 x) (h3 : BDr E2 y) (h : Hp W0 w' [E1, E2]) : DSame W0 e w' := ⟨x, y, E1, E2, h1, ⟨h2, h3⟩, h⟩
end Go.Proofs.Ytaafnenmdombiaa
