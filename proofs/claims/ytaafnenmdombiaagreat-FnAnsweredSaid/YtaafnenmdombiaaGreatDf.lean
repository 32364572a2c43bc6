/- Contracts of the draws of the laws on bare machines. No condition but that the argument lies in memory. -/
import Derived.Maps.RangeWalk
import Derived.Test.YtaafnenmdombiaaGreatDe
import Derived.Test.YtaafnenmdombiaaGreatBz
namespace Go.Proofs.YtaafnenmdombiaaGreat
set_option linter.unusedSimpArgs false
set_option linter.unusedVariables false
open Go.RowKit
section
variable {P : Program} {w0 w : World} {L : List En}
theorem res_ctt {fn : Func} {p0 : Tmp} {p1 : Tmp} {p2 : Tmp} {ty0 : TypeId} {b0 n0 : Nat} {vs0 : List Value} (h : fn.results = #[.cell p0 ty0, .tmp p1, .tmp p2]) (H : Hp w0 w L) {tmps : Array Value} (hp0 : tmps.getD p0 undef = .pointer (some ⟨b0, 0, none⟩)) [hS0 : TyA P ty0 n0] (t0 : LoadsAt L b0 0 n0 vs0) :
    (results fn tmps).run P w = .ok (.tuple #[.agg vs0.toArray, tmps.getD p1 undef, tmps.getD p2 undef]) w := by
  have hr0 := run_loads_H H hS0 t0
  simp [Instr.loadAt, Instr.sureAddr] at hr0
  have hp0' : tmps[p0]?.getD undef = .pointer (some ⟨b0, 0, none⟩) := by simpa using hp0
  simp [results, h, Sem.run_bind, Result.andThen, asAddr, hp0', hr0]
theorem res_ctc {fn : Func} {p0 : Tmp} {p1 : Tmp} {p2 : Tmp} {ty0 : TypeId} {b0 n0 : Nat} {vs0 : List Value} {ty2 : TypeId} {b2 n2 : Nat} {vs2 : List Value} (h : fn.results = #[.cell p0 ty0, .tmp p1, .cell p2 ty2]) (H : Hp w0 w L) {tmps : Array Value} (hp0 : tmps.getD p0 undef = .pointer (some ⟨b0, 0, none⟩)) [hS0 : TyA P ty0 n0] (t0 : LoadsAt L b0 0 n0 vs0) (hp2 : tmps.getD p2 undef = .pointer (some ⟨b2, 0, none⟩)) [hS2 : TyA P ty2 n2] (t2 : LoadsAt L b2 0 n2 vs2) :
    (results fn tmps).run P w = .ok (.tuple #[.agg vs0.toArray, tmps.getD p1 undef, .agg vs2.toArray]) w := by
  have hr0 := run_loads_H H hS0 t0
  simp [Instr.loadAt, Instr.sureAddr] at hr0
  have hp0' : tmps[p0]?.getD undef = .pointer (some ⟨b0, 0, none⟩) := by simpa using hp0
  have hr2 := run_loads_H H hS2 t2
  simp [Instr.loadAt, Instr.sureAddr] at hr2
  have hp2' : tmps[p2]?.getD undef = .pointer (some ⟨b2, 0, none⟩) := by simpa using hp2
  simp [results, h, Sem.run_bind, Result.andThen, asAddr, hp0', hr0, hp2', hr2]
end
theorem brd_any {x : BV} {E : En} (h : MRd E x.mem) : ∀ w, (En.all [E, .gsl x.gs, .many En.gst x.gs.xs, .int x.outs]).ok w → BRd w x := fun w hw => by
  have h1 : E.ok w := hw E (by simp)
  have h2 : (En.gsl x.gs).ok w := hw (.gsl x.gs) (by simp)
  have h3 : (En.many En.gst x.gs.xs).ok w := hw (.many En.gst x.gs.xs) (by simp)
  have h4 : (En.int x.outs).ok w := hw (.int x.outs) (by simp)
  exact ⟨(h w h1).1, (h w h1).2, Own.rd h2 g_len, fun g hg => GOwn.rd (h3 g hg), Own.rd h4 int_len⟩
theorem bbig_sm {x : BV} (h1 : MSm x.mem) (h2 : GsSm x.gs) (h3 : x.outs.xs.length ≤ 44) : BBig x := by
  have a : (x.mem.xs.map (fun y => y.xs.length)).sum ≤ 4 * x.mem.xs.length := by
    have := h1.2
    generalize x.mem.xs = l at this
    induction l with
    | nil => simp
    | cons y l ih => have h := this y (by simp); have := ih (fun z hz => this z (by simp [hz])); simp only [List.map_cons, List.sum_cons, List.length_cons]; omega
  have b : (x.gs.xs.map (fun g => g.m.size)).sum ≤ 68 * x.gs.xs.length := by
    have := h2.2
    generalize x.gs.xs = l at this
    induction l with
    | nil => simp
    | cons y l ih =>
      have h := this y (by simp); have := ih (fun z hz => this z (by simp [hz]))
      have e : y.m.size = y.prog.xs.length + y.written.xs.length + y.live.xs.length + y.seen.xs.length := rfl
      obtain ⟨q1, q2, q3, q4⟩ := h
      simp only [List.map_cons, List.sum_cons, List.length_cons]; omega
  unfold BBig MB.size
  have e1 : rowsSize x.m.memory = x.mem.xs.length + (x.mem.xs.map (fun y => y.xs.length)).sum := by simp [rowsSize, BV.m, memOf, List.map_map, Function.comp_def]
  have e2 : gsSize x.m.guests = x.gs.xs.length + (x.gs.xs.map (fun g => g.m.size)).sum := by simp [gsSize, BV.m, gsOf, List.map_map, Function.comp_def]
  have e3 : x.m.outs.length = x.outs.xs.length := rfl
  have := h1.1; have := h2.1
  rw [e1, e2, e3]; omega
/-- What is known of a drawn bare machine. -/
def BDr (E : En) (x : BV) : Prop := (∀ w, E.ok w → BRd w x) ∧ BBig x
theorem bdr_any {x : BV} {E : En} (h : MSm x.mem ∧ MRd E x.mem ∧ GsSm x.gs ∧ x.outs.xs.length ≤ 44) : BDr (.all [E, .gsl x.gs, .many En.gst x.gs.xs, .int x.outs]) x := ⟨brd_any h.2.1, bbig_sm h.1 h.2.2.1 h.2.2.2⟩
theorem size_sm {x : BV} (h1 : MSm x.mem) (h2 : GsSm x.gs) (h3 : x.outs.xs.length ≤ 44) : x.m.size ≤ 1000 := by
  have a : (x.mem.xs.map (fun y => y.xs.length)).sum ≤ 4 * x.mem.xs.length := by
    have := h1.2
    generalize x.mem.xs = l at this
    induction l with
    | nil => simp
    | cons y l ih => have h := this y (by simp); have := ih (fun z hz => this z (by simp [hz])); simp only [List.map_cons, List.sum_cons, List.length_cons]; omega
  have b : (x.gs.xs.map (fun g => g.m.size)).sum ≤ 68 * x.gs.xs.length := by
    have := h2.2
    generalize x.gs.xs = l at this
    induction l with
    | nil => simp
    | cons y l ih =>
      have h := this y (by simp); have := ih (fun z hz => this z (by simp [hz]))
      have e : y.m.size = y.prog.xs.length + y.written.xs.length + y.live.xs.length + y.seen.xs.length := rfl
      obtain ⟨q1, q2, q3, q4⟩ := h
      simp only [List.map_cons, List.sum_cons, List.length_cons]; omega
  unfold MB.size
  have e1 : rowsSize x.m.memory = x.mem.xs.length + (x.mem.xs.map (fun y => y.xs.length)).sum := by simp [rowsSize, BV.m, memOf, List.map_map, Function.comp_def]
  have e2 : gsSize x.m.guests = x.gs.xs.length + (x.gs.xs.map (fun g => g.m.size)).sum := by simp [gsSize, BV.m, gsOf, List.map_map, Function.comp_def]
  have e3 : x.m.outs.length = x.outs.xs.length := rfl
  have := h1.1; have := h2.1
  rw [e1, e2, e3]; omega
set_option maxRecDepth 100000 in
set_option maxHeartbeats 4000000 in
theorem drawBareCtl_c (s : Sl Int) (W0 : World) (R : Rd u8cell 1 W0 s ∧ s.xs.length ≤ 1048576) : Calls Tryz.prog 17 #[.slice s.A s.xs.length s.c] W0 fun e w' => ∃ (x : BV) (EB : En) (g : Int) (c : Ctl), e = .returned (.tuple #[x.val, .int .i64 g, c.val]) ∧ BDr EB x ∧ x.m.size ≤ 1000 ∧ Hp W0 w' [EB] := by
  have H := Hp.start W0
  go_enter Tryz.func17, Tryz.ntmps17
  go_wp2_with (first
    | go_skip
    | ((with_reducible refine at_box ?_); first | (refine wpList_box_H rfl rfl H rfl (by constructor) ?_; clear H; intro b w H))
    | ((with_reducible refine at_alloc ?_); first | (refine wpList_alloc_H rfl rfl H ?_; clear H; intro b w H))
    | ((with_reducible refine at_load ?_); first | (refine wpList_load_H rfl rfl H rfl (by repeat constructor) ?_) | (refine wpList_loads_H rfl rfl H rfl (by repeat constructor) ?_))
    | ((with_reducible refine at_store ?_); first | (refine wpList_store_H rfl rfl H rfl rfl (by repeat constructor) ?_; clear H; intro w H))
    | (go_at_call 65; refine (l01New_cu s _ ⟨R.1.at_ H, R.2⟩).mono ?_; rintro e w ⟨b, rfl, K⟩; replace H := H.add_all K; clear K))
  go_at_call 66
  refine (l17Any_H s b H (by repeat constructor) R).mono ?_
  clear H
  rintro e w ⟨x, E, rfl, hs, H⟩
  have HSx := Lib.hid hs; clear hs
  replace H := Hp.close_all (l := [E, .gsl x.gs, .many En.gst x.gs.xs, .int x.outs]) H
  go_wp2_with (first
    | go_skip
    | ((with_reducible refine at_box ?_); first | (refine wpList_box_H rfl rfl H rfl (by constructor) ?_; clear H; intro b w H))
    | ((with_reducible refine at_alloc ?_); first | (refine wpList_alloc_H rfl rfl H ?_; clear H; intro bQ w H))
    | ((with_reducible refine at_load ?_); first | (refine wpList_load_H rfl rfl H rfl (by repeat constructor) ?_) | (refine wpList_loads_H rfl rfl H rfl (by repeat constructor) ?_))
    | ((with_reducible refine at_store ?_); first | (refine wpList_store_H rfl rfl H rfl rfl (by repeat constructor) ?_; clear H; intro w H)))
  go_at_call 69
  refine (l17At_H s b H (by repeat constructor) R).mono ?_
  clear H
  rintro e w ⟨g, rfl, H⟩
  go_wp2_with (first
    | go_skip
    | ((with_reducible refine at_box ?_); first | (refine wpList_box_H rfl rfl H rfl (by constructor) ?_; clear H; intro b w H))
    | ((with_reducible refine at_alloc ?_); first | (refine wpList_alloc_H rfl rfl H ?_; clear H; intro bQ w H))
    | ((with_reducible refine at_load ?_); first | (refine wpList_load_H rfl rfl H rfl (by repeat constructor) ?_) | (refine wpList_loads_H rfl rfl H rfl (by repeat constructor) ?_))
    | ((with_reducible refine at_store ?_); first | (refine wpList_store_H rfl rfl H rfl rfl (by repeat constructor) ?_; clear H; intro w H)))
  go_at_call 88
  refine (l11Any_H s b H (by repeat constructor) R).mono ?_
  clear H
  rintro e w ⟨c, rfl, H⟩
  go_wp2_with (first
    | go_skip
    | ((with_reducible refine at_box ?_); first | (refine wpList_box_H rfl rfl H rfl (by constructor) ?_; clear H; intro b w H))
    | ((with_reducible refine at_alloc ?_); first | (refine wpList_alloc_H rfl rfl H ?_; clear H; intro bQ w H))
    | ((with_reducible refine at_load ?_); first | (refine wpList_load_H rfl rfl H rfl (by repeat constructor) ?_) | (refine wpList_loads_H rfl rfl H rfl (by repeat constructor) ?_))
    | ((with_reducible refine at_store ?_); first | (refine wpList_store_H rfl rfl H rfl rfl (by repeat constructor) ?_; clear H; intro w H)))
  refine bodyPost_ret (res_ctc rfl H rfl (by repeat constructor) rfl (by repeat constructor)) rfl ?_
  exact ⟨x, (En.all [E, .gsl x.gs, .many En.gst x.gs.xs, .int x.outs]), g, c, rfl, bdr_any HSx.out, size_sm HSx.out.1 HSx.out.2.2.1 HSx.out.2.2.2, H.pick (.cons (by repeat constructor) .nil)⟩
set_option maxRecDepth 100000 in
set_option maxHeartbeats 4000000 in
theorem drawBareInject_c (s : Sl Int) (W0 : World) (R : Rd u8cell 1 W0 s ∧ s.xs.length ≤ 1048576) : Calls Tryz.prog 14 #[.slice s.A s.xs.length s.c] W0 fun e w' => ∃ (x : BV) (EB : En) (g p : Int), e = .returned (.tuple #[x.val, .int .i64 g, .int .i64 p]) ∧ BDr EB x ∧ x.m.size ≤ 1000 ∧ Hp W0 w' [EB] := by
  have H := Hp.start W0
  go_enter Tryz.func14, Tryz.ntmps14
  go_wp2_with (first
    | go_skip
    | ((with_reducible refine at_box ?_); first | (refine wpList_box_H rfl rfl H rfl (by constructor) ?_; clear H; intro b w H))
    | ((with_reducible refine at_alloc ?_); first | (refine wpList_alloc_H rfl rfl H ?_; clear H; intro b w H))
    | ((with_reducible refine at_load ?_); first | (refine wpList_load_H rfl rfl H rfl (by repeat constructor) ?_) | (refine wpList_loads_H rfl rfl H rfl (by repeat constructor) ?_))
    | ((with_reducible refine at_store ?_); first | (refine wpList_store_H rfl rfl H rfl rfl (by repeat constructor) ?_; clear H; intro w H))
    | (go_at_call 65; refine (l01New_cu s _ ⟨R.1.at_ H, R.2⟩).mono ?_; rintro e w ⟨b, rfl, K⟩; replace H := H.add_all K; clear K))
  go_at_call 66
  refine (l17Any_H s b H (by repeat constructor) R).mono ?_
  clear H
  rintro e w ⟨x, E, rfl, hs, H⟩
  have HSx := Lib.hid hs; clear hs
  replace H := Hp.close_all (l := [E, .gsl x.gs, .many En.gst x.gs.xs, .int x.outs]) H
  go_wp2_with (first
    | go_skip
    | ((with_reducible refine at_box ?_); first | (refine wpList_box_H rfl rfl H rfl (by constructor) ?_; clear H; intro b w H))
    | ((with_reducible refine at_alloc ?_); first | (refine wpList_alloc_H rfl rfl H ?_; clear H; intro bQ w H))
    | ((with_reducible refine at_load ?_); first | (refine wpList_load_H rfl rfl H rfl (by repeat constructor) ?_) | (refine wpList_loads_H rfl rfl H rfl (by repeat constructor) ?_))
    | ((with_reducible refine at_store ?_); first | (refine wpList_store_H rfl rfl H rfl rfl (by repeat constructor) ?_; clear H; intro w H)))
  go_at_call 69
  refine (l17At_H s b H (by repeat constructor) R).mono ?_
  clear H
  rintro e w ⟨g, rfl, H⟩
  go_wp2_with (first
    | go_skip
    | ((with_reducible refine at_box ?_); first | (refine wpList_box_H rfl rfl H rfl (by constructor) ?_; clear H; intro b w H))
    | ((with_reducible refine at_alloc ?_); first | (refine wpList_alloc_H rfl rfl H ?_; clear H; intro bQ w H))
    | ((with_reducible refine at_load ?_); first | (refine wpList_load_H rfl rfl H rfl (by repeat constructor) ?_) | (refine wpList_loads_H rfl rfl H rfl (by repeat constructor) ?_))
    | ((with_reducible refine at_store ?_); first | (refine wpList_store_H rfl rfl H rfl rfl (by repeat constructor) ?_; clear H; intro w H))
    | ((with_reducible refine at_slice ?_); first | ((with_reducible refine at_dst 13 ?_); refine wpList_lit_H rfl rfl H ([0, 3, 7, 8, -1] : List Int) (by kernel_rfl) rfl (by decide) (by decide) ?_; clear H; intro bl w H))
    | (go_at_call 84; refine (l01PickInt_H s b (⟨some ⟨bl, 0, none⟩, 5, [0, 3, 7, 8, -1]⟩ : Sl Int) H (by repeat constructor) (by repeat constructor) R (by simp) (by simp)).mono ?_; clear H; rintro e w ⟨p, rfl, pm, H⟩; have PM := Lib.hid pm; clear pm))
  refine bodyPost_ret (res_ctt rfl H rfl (by repeat constructor)) rfl ?_
  exact ⟨x, (En.all [E, .gsl x.gs, .many En.gst x.gs.xs, .int x.outs]), g, p, rfl, bdr_any HSx.out, size_sm HSx.out.1 HSx.out.2.2.1 HSx.out.2.2.2, H.pick (.cons (by repeat constructor) .nil)⟩
def DAns (W0 : World) (e : Ending) (w' : World) : Prop := ∃ (x : BV) (EB : En) (g v : Int), e = .returned (.tuple #[x.val, .int .i64 g, .int .i64 v]) ∧ BDr EB x ∧ x.m.size ≤ 1000 ∧ Hp W0 w' [EB]
theorem DAns.mk {W0 : World} {e : Ending} {w' : World} (x : BV) (EB : En) (g v : Int) (h1 : e = .returned (.tuple #[x.val, .int .i64 g, .int .i64 v])) (h2 : BDr EB x) (h4 : x.m.size ≤ 1000) (h3 : Hp W0 w' [EB]) : DAns W0 e w' := ⟨x, EB, g, v, h1, h2, h4, h3⟩
set_option maxRecDepth 100000 in
set_option maxHeartbeats 4000000 in
theorem drawBareAnswer_c0 (s : Sl Int) (W0 : World) (R : Rd u8cell 1 W0 s ∧ s.xs.length ≤ 1048576) : Calls Tryz.prog 8 #[.slice s.A s.xs.length s.c] W0 fun e w' => DAns W0 e w' := by
  have H := Hp.start W0
  go_enter Tryz.func8, Tryz.ntmps8
  go_wp2_with (first
    | go_skip
    | ((with_reducible refine at_box ?_); first | (refine wpList_box_H rfl rfl H rfl (by constructor) ?_; clear H; intro b w H))
    | ((with_reducible refine at_alloc ?_); first | ((with_reducible refine at_dst 2 ?_); refine wpList_alloc_H rfl rfl H ?_; clear H; intro bR w H) | (refine wpList_alloc_H rfl rfl H ?_; clear H; intro b w H))
    | ((with_reducible refine at_load ?_); first | (refine wpList_load_H rfl rfl H rfl (by repeat constructor) ?_) | (refine wpList_loads_H rfl rfl H rfl (by repeat constructor) ?_))
    | ((with_reducible refine at_store ?_); first | (refine wpList_store_H rfl rfl H rfl rfl (by repeat constructor) ?_; clear H; intro w H))
    | (go_at_call 65; refine (l01New_cu s _ ⟨R.1.at_ H, R.2⟩).mono ?_; rintro e w ⟨b, rfl, K⟩; replace H := H.add_all K; clear K))
  go_at_call 66
  refine (l17Any_H s b H (by repeat constructor) R).mono ?_
  clear H
  rintro e w ⟨x, E, rfl, hs, H⟩
  have HS := Lib.hid hs; clear hs
  by_cases hg : 0 < x.gs.xs.length
  · obtain ⟨y0, hy0⟩ : ∃ y, x.gs.xs[0]? = some y := ⟨_, List.getElem?_eq_getElem hg⟩
    have HK := Lib.hid hy0; clear hy0
    go_wp2_with (first
      | go_skip
      | ((with_reducible refine at_box ?_); first | (refine wpList_box_H rfl rfl H rfl (by constructor) ?_; clear H; intro b w H))
      | ((with_reducible refine at_alloc ?_); first | (refine wpList_alloc_H rfl rfl H ?_; clear H; intro bX w H))
      | ((with_reducible refine at_load ?_); first | (refine wpList_load_H rfl rfl H rfl (by repeat constructor) ?_) | (refine wpList_loads_H rfl rfl H rfl (by repeat constructor) ?_))
      | ((with_reducible refine at_store ?_); first | (refine wpList_store_H rfl rfl H rfl rfl (by repeat constructor) ?_; clear H; intro w H))
      | (go_at_call 67; refine (l01Once_H s b _ (by decide) (by decide) H (by repeat constructor) R).mono ?_; clear H; rintro e w ⟨o, rfl, H⟩))
    · skip
      refine wp_cut (fun u a' w' => ∃ (z : Exit), Hid True ∧ Hp W0 w' [.gsl (⟨x.gs.A, x.gs.c, x.gs.xs.set 0 (⟨y0.prog, y0.a, y0.pc, y0.written, y0.live, y0.ctl, y0.pending, z, y0.halted, y0.seen⟩ : GV)⟩ : Sl GV), .many En.gst x.gs.xs, .int x.outs, E, .cu b s, .box bX 28 (barr x).toList, .box bR 28 [.slice none 0 0, .slice none 0 0, .slice none 0 0, .int .i64 0]] ∧ a' = puts u [(19, .pointer (some ⟨bX, 1, none⟩)), (20, (.slice x.gs.A x.gs.xs.length x.gs.c)), (21, (.pointer (some ⟨b, 0, none⟩))), (22, z.val), (23, (.pointer (some ⟨ablk x.gs.A, aoff x.gs.A + 0 * 15, none⟩))), (24, (.pointer (some ⟨ablk x.gs.A, aoff x.gs.A + 0 * 15 + 9, none⟩)))]) ?_ ?_
      · refine wp_region_held (S := (fun w' => Rw w' bX 28 (barr x))) (by kernel_rfl) ?_
        replace H := H.drew
        refine tkH (i := 0) rfl .here (yields_val (v := .pointer (some ⟨bX, 1, none⟩)) rfl (fun _ => by go_simp)) (H.rw_ (by repeat constructor)) ?_
        (try go_frame)
        refine tkH (i := 1) rfl (.of rfl) (yields_load1_R rfl rfl rfl (fun _ hS => hS) rfl) (H.rw_ (by repeat constructor)) ?_
        (try go_frame)
        refine tkH (i := 2) rfl (.of rfl) (yields_val (v := (.pointer (some ⟨b, 0, none⟩))) rfl (fun _ => by go_simp)) (H.rw_ (by repeat constructor)) ?_
        (try go_frame)
        refine anyH_1 (i := 3) (by kernel_rfl) ?_
        refine wpOp_at rfl (.of rfl) rfl ?_
        refine wp_call_H Tryz.f68 rfl rfl Tryz.func68 (by kernel_rfl) rfl rfl (calls_ex (val := fun v : Exit => v.val) (l13Exit_H s b H (by repeat constructor) R)) ?_
        clear H
        rintro _ w ⟨z, rfl, H⟩
        refine ⟨(H.rw_ (by repeat constructor)), ?_⟩
        (try go_frame)
        refine anyH_1 (i := 4) (by kernel_rfl) ?_
        refine wpOp_at rfl (.of rfl) rfl ?_
        refine wp_index_n (k := 0) rfl x.gs (H.rdgsl (s := x.gs) (by repeat constructor)) rfl rfl rfl hg ?_
        refine ⟨(H.rw_ (by repeat constructor)), ?_⟩
        (try go_frame)
        refine tkH (i := 5) rfl (.of rfl) (yields_val (v := (.pointer (some ⟨ablk x.gs.A, aoff x.gs.A + 0 * 15 + 9, none⟩))) rfl (fun _ => by go_simp)) (H.rw_ (by repeat constructor)) ?_
        (try go_frame)
        refine anyH_1 (i := 6) (by kernel_rfl) ?_
        refine wpOp_at rfl (.of rfl) rfl ?_
        refine wp_store_el rfl H x.gs (by repeat constructor) g_len rfl rfl y0 (⟨y0.prog, y0.a, y0.pc, y0.written, y0.live, y0.ctl, y0.pending, z, y0.halted, y0.seen⟩ : GV) HK.out rfl (by constructor) (by repeat constructor) (by exact rfl) (by exact rfl) ?_
        clear H
        intro w H
        refine ⟨(H.rw_ (by repeat constructor)), ?_⟩
        (try go_frame)
        refine wpAnyH_done (by kernel_rfl) ?_ _
        exact ⟨rfl, z, Lib.hid trivial, H.pick (.cons (by repeat constructor) (.cons (by repeat constructor) (.cons (by repeat constructor) (.cons (by repeat constructor) (.cons (by repeat constructor) (.cons (by repeat constructor) (.cons (by repeat constructor) .nil))))))), by first | (simp only [puts_cons, puts_nil, Act.put, List.setIfInBounds_toArray, List.set_cons_succ, List.set_cons_zero]; done) | (simp only [puts_cons, puts_nil, Act.put, List.setIfInBounds_toArray, List.set_cons_succ, List.set_cons_zero]; rfl)⟩
      clear H
      rintro u w ⟨z, _, H, rfl⟩
      simp only [puts_cons, puts_nil, Act.put, List.setIfInBounds_toArray, List.set_cons_succ, List.set_cons_zero]
      replace H := (H.take (e := .many En.gst x.gs.xs) (by repeat constructor)).gst_scal HK.out y0.a y0.pc y0.ctl y0.pending z y0.halted
      have eb : barr x = barr (⟨x.mem, (⟨x.gs.A, x.gs.c, x.gs.xs.set 0 (⟨y0.prog, y0.a, y0.pc, y0.written, y0.live, y0.ctl, y0.pending, z, y0.halted, y0.seen⟩ : GV)⟩ : Sl GV), x.outs, x.pend⟩ : BV) := by simp [barr]
      rw [eb] at H
      clear eb
      have HS2 : Hid (MSm x.mem ∧ MRd E x.mem ∧ GsSm (⟨x.gs.A, x.gs.c, x.gs.xs.set 0 (⟨y0.prog, y0.a, y0.pc, y0.written, y0.live, y0.ctl, y0.pending, z, y0.halted, y0.seen⟩ : GV)⟩ : Sl GV) ∧ x.outs.xs.length ≤ 44) := Lib.hid ⟨HS.out.1, HS.out.2.1, gsm_set HS.out.2.2.1 (HS.out.2.2.1.2 y0 (List.mem_of_getElem? HK.out)), HS.out.2.2.2⟩
      have H2 : Hp W0 _ [E, .gsl (⟨x.gs.A, x.gs.c, x.gs.xs.set 0 (⟨y0.prog, y0.a, y0.pc, y0.written, y0.live, y0.ctl, y0.pending, z, y0.halted, y0.seen⟩ : GV)⟩ : Sl GV), .many En.gst (⟨x.gs.A, x.gs.c, x.gs.xs.set 0 (⟨y0.prog, y0.a, y0.pc, y0.written, y0.live, y0.ctl, y0.pending, z, y0.halted, y0.seen⟩ : GV)⟩ : Sl GV).xs, .int x.outs, .cu b s, .box bX 28 (barr (⟨x.mem, (⟨x.gs.A, x.gs.c, x.gs.xs.set 0 (⟨y0.prog, y0.a, y0.pc, y0.written, y0.live, y0.ctl, y0.pending, z, y0.halted, y0.seen⟩ : GV)⟩ : Sl GV), x.outs, x.pend⟩ : BV)).toList, .box bR 28 [.slice none 0 0, .slice none 0 0, .slice none 0 0, .int .i64 0]] := H.pick (.cons (by repeat constructor) (.cons (by repeat constructor) (.cons (by repeat constructor) (.cons (by repeat constructor) (.cons (by repeat constructor) (.cons (by repeat constructor) (.cons (by repeat constructor) .nil)))))))
      have H3 := Hp.close_all (l := [E, .gsl (⟨x.gs.A, x.gs.c, x.gs.xs.set 0 (⟨y0.prog, y0.a, y0.pc, y0.written, y0.live, y0.ctl, y0.pending, z, y0.halted, y0.seen⟩ : GV)⟩ : Sl GV), .many En.gst (⟨x.gs.A, x.gs.c, x.gs.xs.set 0 (⟨y0.prog, y0.a, y0.pc, y0.written, y0.live, y0.ctl, y0.pending, z, y0.halted, y0.seen⟩ : GV)⟩ : Sl GV).xs, .int x.outs]) H2
      clear H H2
      have H := H3
      clear H3
      go_wp2
      refine wp_cut (fun u a' w' => ∃ (g v : Int), Hid True ∧ Hp W0 w' [.box bR 28 (barr (⟨x.mem, (⟨x.gs.A, x.gs.c, x.gs.xs.set 0 (⟨y0.prog, y0.a, y0.pc, y0.written, y0.live, y0.ctl, y0.pending, z, y0.halted, y0.seen⟩ : GV)⟩ : Sl GV), x.outs, x.pend⟩ : BV)).toList, (En.all [E, .gsl (⟨x.gs.A, x.gs.c, x.gs.xs.set 0 (⟨y0.prog, y0.a, y0.pc, y0.written, y0.live, y0.ctl, y0.pending, z, y0.halted, y0.seen⟩ : GV)⟩ : Sl GV), .many En.gst (⟨x.gs.A, x.gs.c, x.gs.xs.set 0 (⟨y0.prog, y0.a, y0.pc, y0.written, y0.live, y0.ctl, y0.pending, z, y0.halted, y0.seen⟩ : GV)⟩ : Sl GV).xs, .int x.outs])] ∧ a' = puts u [(25, (⟨x.mem, (⟨x.gs.A, x.gs.c, x.gs.xs.set 0 (⟨y0.prog, y0.a, y0.pc, y0.written, y0.live, y0.ctl, y0.pending, z, y0.halted, y0.seen⟩ : GV)⟩ : Sl GV), x.outs, x.pend⟩ : BV).val), (26, (.pointer (some ⟨b, 0, none⟩))), (27, (.int .i64 g)), (28, (.pointer (some ⟨b, 0, none⟩))), (29, (.int .i64 v)), (3, (.int .i64 g)), (4, (.int .i64 v))]) ?_ ?_
      · refine wp_region_held (S := (fun w' => Rw w' bX 28 (barr (⟨x.mem, (⟨x.gs.A, x.gs.c, x.gs.xs.set 0 (⟨y0.prog, y0.a, y0.pc, y0.written, y0.live, y0.ctl, y0.pending, z, y0.halted, y0.seen⟩ : GV)⟩ : Sl GV), x.outs, x.pend⟩ : BV)))) (by kernel_rfl) ?_
        replace H := H.drew
        refine tkH (i := 0) rfl .here (yields_loads_R rfl rfl rfl (fun _ hS => hS) (by repeat constructor)) (H.rw_ (by repeat constructor)) ?_
        (try go_frame)
        refine tkH (i := 1) rfl (.of rfl) (yields_val (v := (.pointer (some ⟨b, 0, none⟩))) rfl (fun _ => by go_simp)) (H.rw_ (by repeat constructor)) ?_
        (try go_frame)
        refine tkH (i := 3) rfl (.of rfl) (yields_val (v := (.pointer (some ⟨b, 0, none⟩))) rfl (fun _ => by go_simp)) (H.rw_ (by repeat constructor)) ?_
        (try go_frame)
        refine anyH_1 (i := 2) (by kernel_rfl) ?_
        refine wpOp_at rfl (.of rfl) rfl ?_
        refine wp_call_H Tryz.f69 rfl rfl Tryz.func69 (by kernel_rfl) rfl rfl (calls_ex (val := fun v : Int => .int .i64 v) (l17At_H s b H (by repeat constructor) R)) ?_
        clear H
        rintro _ w ⟨g, rfl, H⟩
        refine ⟨(H.rw_ (by repeat constructor)), ?_⟩
        (try go_frame)
        refine anyH_1 (i := 4) (by kernel_rfl) ?_
        refine wpOp_at rfl (.of rfl) rfl ?_
        refine wp_call_H Tryz.f70 rfl rfl Tryz.func70 (by kernel_rfl) rfl rfl (calls_ex (val := fun v : Int => .int .i64 v) (l19Val_H s b H (by repeat constructor) R)) ?_
        clear H
        rintro _ w ⟨v, rfl, H⟩
        refine ⟨(H.rw_ (by repeat constructor)), ?_⟩
        (try go_frame)
        refine anyH_1 (i := 5) (by kernel_rfl) ?_
        refine wpOp_at rfl (.of rfl) rfl ?_
        refine wp_store_H rfl H rfl rfl (by repeat constructor) ?_
        clear H
        intro w H
        refine ⟨(H.rw_ (by repeat constructor)), ?_⟩
        (try go_frame)
        refine tkH (i := 6) rfl (.of rfl) (yields_val (v := (.int .i64 g)) rfl (fun _ => by go_simp)) (H.rw_ (by repeat constructor)) ?_
        (try go_frame)
        refine tkH (i := 7) rfl (.of rfl) (yields_val (v := (.int .i64 v)) rfl (fun _ => by go_simp)) (H.rw_ (by repeat constructor)) ?_
        (try go_frame)
        refine wpAnyH_done (by kernel_rfl) ?_ _
        exact ⟨rfl, g, v, Lib.hid trivial, H.pick (.cons (by repeat constructor) (.cons (by repeat constructor) .nil)), by first | (simp only [puts_cons, puts_nil, Act.put, List.setIfInBounds_toArray, List.set_cons_succ, List.set_cons_zero]; done) | (simp only [puts_cons, puts_nil, Act.put, List.setIfInBounds_toArray, List.set_cons_succ, List.set_cons_zero]; rfl)⟩
      clear H
      rintro u w ⟨g, v, _, H, rfl⟩
      simp only [puts_cons, puts_nil, Act.put, List.setIfInBounds_toArray, List.set_cons_succ, List.set_cons_zero]
      go_wp2_with (first
        | go_skip
        | ((with_reducible refine at_box ?_); first | (refine wpList_box_H rfl rfl H rfl (by constructor) ?_; clear H; intro b w H))
        | ((with_reducible refine at_alloc ?_); first | (refine wpList_alloc_H rfl rfl H ?_; clear H; intro bQ w H))
        | ((with_reducible refine at_load ?_); first | (refine wpList_load_H rfl rfl H rfl (by repeat constructor) ?_) | (refine wpList_loads_H rfl rfl H rfl (by repeat constructor) ?_))
        | ((with_reducible refine at_store ?_); first | (refine wpList_store_H rfl rfl H rfl rfl (by repeat constructor) ?_; clear H; intro w H)))
      refine bodyPost_ret (res_ctt rfl H rfl (by repeat constructor)) rfl ?_
      exact DAns.mk (⟨x.mem, (⟨x.gs.A, x.gs.c, x.gs.xs.set 0 (⟨y0.prog, y0.a, y0.pc, y0.written, y0.live, y0.ctl, y0.pending, z, y0.halted, y0.seen⟩ : GV)⟩ : Sl GV), x.outs, x.pend⟩ : BV) (En.all [E, .gsl (⟨x.gs.A, x.gs.c, x.gs.xs.set 0 (⟨y0.prog, y0.a, y0.pc, y0.written, y0.live, y0.ctl, y0.pending, z, y0.halted, y0.seen⟩ : GV)⟩ : Sl GV), .many En.gst (⟨x.gs.A, x.gs.c, x.gs.xs.set 0 (⟨y0.prog, y0.a, y0.pc, y0.written, y0.live, y0.ctl, y0.pending, z, y0.halted, y0.seen⟩ : GV)⟩ : Sl GV).xs, .int x.outs]) g v rfl (bdr_any (x := (⟨x.mem, (⟨x.gs.A, x.gs.c, x.gs.xs.set 0 (⟨y0.prog, y0.a, y0.pc, y0.written, y0.live, y0.ctl, y0.pending, z, y0.halted, y0.seen⟩ : GV)⟩ : Sl GV), x.outs, x.pend⟩ : BV)) HS2.out) (size_sm (x := (⟨x.mem, (⟨x.gs.A, x.gs.c, x.gs.xs.set 0 (⟨y0.prog, y0.a, y0.pc, y0.written, y0.live, y0.ctl, y0.pending, z, y0.halted, y0.seen⟩ : GV)⟩ : Sl GV), x.outs, x.pend⟩ : BV)) HS2.out.1 HS2.out.2.2.1 HS2.out.2.2.2) (H.pick (.cons (by repeat constructor) .nil))
    · skip
      replace H := Hp.close_all (l := [E, .gsl x.gs, .many En.gst x.gs.xs, .int x.outs]) (H.pick (.cons (by repeat constructor) (.cons (by repeat constructor) (.cons (by repeat constructor) (.cons (by repeat constructor) (.cons (by repeat constructor) (.cons (by repeat constructor) (.cons (by repeat constructor) .nil))))))) : Hp W0 _ [E, .gsl x.gs, .many En.gst x.gs.xs, .int x.outs, .cu b s, .box bX 28 (barr x).toList, .box bR 28 [.slice none 0 0, .slice none 0 0, .slice none 0 0, .int .i64 0]])
      try go_wp2
      refine wp_cut (fun u a' w' => ∃ (g v : Int), Hid True ∧ Hp W0 w' [.box bR 28 (barr x).toList, (En.all [E, .gsl x.gs, .many En.gst x.gs.xs, .int x.outs])] ∧ a' = puts u [(25, x.val), (26, (.pointer (some ⟨b, 0, none⟩))), (27, (.int .i64 g)), (28, (.pointer (some ⟨b, 0, none⟩))), (29, (.int .i64 v)), (3, (.int .i64 g)), (4, (.int .i64 v))]) ?_ ?_
      · refine wp_region_held (S := (fun w' => Rw w' bX 28 (barr x))) (by kernel_rfl) ?_
        replace H := H.drew
        refine tkH (i := 0) rfl .here (yields_loads_R rfl rfl rfl (fun _ hS => hS) (by repeat constructor)) (H.rw_ (by repeat constructor)) ?_
        (try go_frame)
        refine tkH (i := 1) rfl (.of rfl) (yields_val (v := (.pointer (some ⟨b, 0, none⟩))) rfl (fun _ => by go_simp)) (H.rw_ (by repeat constructor)) ?_
        (try go_frame)
        refine tkH (i := 3) rfl (.of rfl) (yields_val (v := (.pointer (some ⟨b, 0, none⟩))) rfl (fun _ => by go_simp)) (H.rw_ (by repeat constructor)) ?_
        (try go_frame)
        refine anyH_1 (i := 2) (by kernel_rfl) ?_
        refine wpOp_at rfl (.of rfl) rfl ?_
        refine wp_call_H Tryz.f69 rfl rfl Tryz.func69 (by kernel_rfl) rfl rfl (calls_ex (val := fun v : Int => .int .i64 v) (l17At_H s b H (by repeat constructor) R)) ?_
        clear H
        rintro _ w ⟨g, rfl, H⟩
        refine ⟨(H.rw_ (by repeat constructor)), ?_⟩
        (try go_frame)
        refine anyH_1 (i := 4) (by kernel_rfl) ?_
        refine wpOp_at rfl (.of rfl) rfl ?_
        refine wp_call_H Tryz.f70 rfl rfl Tryz.func70 (by kernel_rfl) rfl rfl (calls_ex (val := fun v : Int => .int .i64 v) (l19Val_H s b H (by repeat constructor) R)) ?_
        clear H
        rintro _ w ⟨v, rfl, H⟩
        refine ⟨(H.rw_ (by repeat constructor)), ?_⟩
        (try go_frame)
        refine anyH_1 (i := 5) (by kernel_rfl) ?_
        refine wpOp_at rfl (.of rfl) rfl ?_
        refine wp_store_H rfl H rfl rfl (by repeat constructor) ?_
        clear H
        intro w H
        refine ⟨(H.rw_ (by repeat constructor)), ?_⟩
        (try go_frame)
        refine tkH (i := 6) rfl (.of rfl) (yields_val (v := (.int .i64 g)) rfl (fun _ => by go_simp)) (H.rw_ (by repeat constructor)) ?_
        (try go_frame)
        refine tkH (i := 7) rfl (.of rfl) (yields_val (v := (.int .i64 v)) rfl (fun _ => by go_simp)) (H.rw_ (by repeat constructor)) ?_
        (try go_frame)
        refine wpAnyH_done (by kernel_rfl) ?_ _
        exact ⟨rfl, g, v, Lib.hid trivial, H.pick (.cons (by repeat constructor) (.cons (by repeat constructor) .nil)), by first | (simp only [puts_cons, puts_nil, Act.put, List.setIfInBounds_toArray, List.set_cons_succ, List.set_cons_zero]; done) | (simp only [puts_cons, puts_nil, Act.put, List.setIfInBounds_toArray, List.set_cons_succ, List.set_cons_zero]; rfl)⟩
      clear H
      rintro u w ⟨g, v, _, H, rfl⟩
      simp only [puts_cons, puts_nil, Act.put, List.setIfInBounds_toArray, List.set_cons_succ, List.set_cons_zero]
      go_wp2_with (first
        | go_skip
        | ((with_reducible refine at_box ?_); first | (refine wpList_box_H rfl rfl H rfl (by constructor) ?_; clear H; intro b w H))
        | ((with_reducible refine at_alloc ?_); first | (refine wpList_alloc_H rfl rfl H ?_; clear H; intro bQ w H))
        | ((with_reducible refine at_load ?_); first | (refine wpList_load_H rfl rfl H rfl (by repeat constructor) ?_) | (refine wpList_loads_H rfl rfl H rfl (by repeat constructor) ?_))
        | ((with_reducible refine at_store ?_); first | (refine wpList_store_H rfl rfl H rfl rfl (by repeat constructor) ?_; clear H; intro w H)))
      refine bodyPost_ret (res_ctt rfl H rfl (by repeat constructor)) rfl ?_
      exact DAns.mk x (En.all [E, .gsl x.gs, .many En.gst x.gs.xs, .int x.outs]) g v rfl (bdr_any HS.out) (size_sm (x := x) HS.out.1 HS.out.2.2.1 HS.out.2.2.2) (H.pick (.cons (by repeat constructor) .nil))
  · have hd : decide (0 < x.gs.xs.length) = false := decide_eq_false hg
    have hd2 : decide ((0 : Int) < (x.gs.xs.length : Int)) = false := decide_eq_false (by omega)
    go_wp2_with (first
      | go_skip
      | ((with_reducible refine at_box ?_); first | (refine wpList_box_H rfl rfl H rfl (by constructor) ?_; clear H; intro b w H))
      | ((with_reducible refine at_alloc ?_); first | (refine wpList_alloc_H rfl rfl H ?_; clear H; intro bX w H))
      | ((with_reducible refine at_load ?_); first | (refine wpList_load_H rfl rfl H rfl (by repeat constructor) ?_) | (refine wpList_loads_H rfl rfl H rfl (by repeat constructor) ?_))
      | ((with_reducible refine at_store ?_); first | (refine wpList_store_H rfl rfl H rfl rfl (by repeat constructor) ?_; clear H; intro w H))
      | (go_at_call 67; refine (l01Once_H s b _ (by decide) (by decide) H (by repeat constructor) R).mono ?_; clear H; rintro e w ⟨o, rfl, H⟩))
    replace H := Hp.close_all (l := [E, .gsl x.gs, .many En.gst x.gs.xs, .int x.outs]) (H.pick (.cons (by repeat constructor) (.cons (by repeat constructor) (.cons (by repeat constructor) (.cons (by repeat constructor) (.cons (by repeat constructor) (.cons (by repeat constructor) (.cons (by repeat constructor) .nil))))))) : Hp W0 _ [E, .gsl x.gs, .many En.gst x.gs.xs, .int x.outs, .cu b s, .box bX 28 (barr x).toList, .box bR 28 [.slice none 0 0, .slice none 0 0, .slice none 0 0, .int .i64 0]])
    try go_wp2
    refine wp_cut (fun u a' w' => ∃ (g v : Int), Hid True ∧ Hp W0 w' [.box bR 28 (barr x).toList, (En.all [E, .gsl x.gs, .many En.gst x.gs.xs, .int x.outs])] ∧ a' = puts u [(25, x.val), (26, (.pointer (some ⟨b, 0, none⟩))), (27, (.int .i64 g)), (28, (.pointer (some ⟨b, 0, none⟩))), (29, (.int .i64 v)), (3, (.int .i64 g)), (4, (.int .i64 v))]) ?_ ?_
    · refine wp_region_held (S := (fun w' => Rw w' bX 28 (barr x))) (by kernel_rfl) ?_
      replace H := H.drew
      refine tkH (i := 0) rfl .here (yields_loads_R rfl rfl rfl (fun _ hS => hS) (by repeat constructor)) (H.rw_ (by repeat constructor)) ?_
      (try go_frame)
      refine tkH (i := 1) rfl (.of rfl) (yields_val (v := (.pointer (some ⟨b, 0, none⟩))) rfl (fun _ => by go_simp)) (H.rw_ (by repeat constructor)) ?_
      (try go_frame)
      refine tkH (i := 3) rfl (.of rfl) (yields_val (v := (.pointer (some ⟨b, 0, none⟩))) rfl (fun _ => by go_simp)) (H.rw_ (by repeat constructor)) ?_
      (try go_frame)
      refine anyH_1 (i := 2) (by kernel_rfl) ?_
      refine wpOp_at rfl (.of rfl) rfl ?_
      refine wp_call_H Tryz.f69 rfl rfl Tryz.func69 (by kernel_rfl) rfl rfl (calls_ex (val := fun v : Int => .int .i64 v) (l17At_H s b H (by repeat constructor) R)) ?_
      clear H
      rintro _ w ⟨g, rfl, H⟩
      refine ⟨(H.rw_ (by repeat constructor)), ?_⟩
      (try go_frame)
      refine anyH_1 (i := 4) (by kernel_rfl) ?_
      refine wpOp_at rfl (.of rfl) rfl ?_
      refine wp_call_H Tryz.f70 rfl rfl Tryz.func70 (by kernel_rfl) rfl rfl (calls_ex (val := fun v : Int => .int .i64 v) (l19Val_H s b H (by repeat constructor) R)) ?_
      clear H
      rintro _ w ⟨v, rfl, H⟩
      refine ⟨(H.rw_ (by repeat constructor)), ?_⟩
      (try go_frame)
      refine anyH_1 (i := 5) (by kernel_rfl) ?_
      refine wpOp_at rfl (.of rfl) rfl ?_
      refine wp_store_H rfl H rfl rfl (by repeat constructor) ?_
      clear H
      intro w H
      refine ⟨(H.rw_ (by repeat constructor)), ?_⟩
      (try go_frame)
      refine tkH (i := 6) rfl (.of rfl) (yields_val (v := (.int .i64 g)) rfl (fun _ => by go_simp)) (H.rw_ (by repeat constructor)) ?_
      (try go_frame)
      refine tkH (i := 7) rfl (.of rfl) (yields_val (v := (.int .i64 v)) rfl (fun _ => by go_simp)) (H.rw_ (by repeat constructor)) ?_
      (try go_frame)
      refine wpAnyH_done (by kernel_rfl) ?_ _
      exact ⟨rfl, g, v, Lib.hid trivial, H.pick (.cons (by repeat constructor) (.cons (by repeat constructor) .nil)), by first | (simp only [puts_cons, puts_nil, Act.put, List.setIfInBounds_toArray, List.set_cons_succ, List.set_cons_zero]; done) | (simp only [puts_cons, puts_nil, Act.put, List.setIfInBounds_toArray, List.set_cons_succ, List.set_cons_zero]; rfl)⟩
    clear H
    rintro u w ⟨g, v, _, H, rfl⟩
    simp only [puts_cons, puts_nil, Act.put, List.setIfInBounds_toArray, List.set_cons_succ, List.set_cons_zero]
    go_wp2_with (first
      | go_skip
      | ((with_reducible refine at_box ?_); first | (refine wpList_box_H rfl rfl H rfl (by constructor) ?_; clear H; intro b w H))
      | ((with_reducible refine at_alloc ?_); first | (refine wpList_alloc_H rfl rfl H ?_; clear H; intro bQ w H))
      | ((with_reducible refine at_load ?_); first | (refine wpList_load_H rfl rfl H rfl (by repeat constructor) ?_) | (refine wpList_loads_H rfl rfl H rfl (by repeat constructor) ?_))
      | ((with_reducible refine at_store ?_); first | (refine wpList_store_H rfl rfl H rfl rfl (by repeat constructor) ?_; clear H; intro w H)))
    refine bodyPost_ret (res_ctt rfl H rfl (by repeat constructor)) rfl ?_
    exact DAns.mk x (En.all [E, .gsl x.gs, .many En.gst x.gs.xs, .int x.outs]) g v rfl (bdr_any HS.out) (size_sm (x := x) HS.out.1 HS.out.2.2.1 HS.out.2.2.2) (H.pick (.cons (by repeat constructor) .nil))
theorem drawBareAnswer_c (s : Sl Int) (W0 : World) (R : Rd u8cell 1 W0 s ∧ s.xs.length ≤ 1048576) : Calls Tryz.prog 8 #[.slice s.A s.xs.length s.c] W0 fun e w' => ∃ (x : BV) (EB : En) (g v : Int), e = .returned (.tuple #[x.val, .int .i64 g, .int .i64 v]) ∧ BDr EB x ∧ x.m.size ≤ 1000 ∧ Hp W0 w' [EB] := drawBareAnswer_c0 s W0 R
set_option maxRecDepth 100000 in
set_option maxHeartbeats 4000000 in
theorem drawBareResume_c (s : Sl Int) (W0 : World) (R : Rd u8cell 1 W0 s ∧ s.xs.length ≤ 1048576) : Calls Tryz.prog 11 #[.slice s.A s.xs.length s.c] W0 fun e w' => ∃ (x : BV) (EB : En) (g : Int), e = .returned (.tuple #[x.val, .int .i64 g]) ∧ BDr EB x ∧ x.m.size ≤ 1000 ∧ Hp W0 w' [EB] := by
  have H := Hp.start W0
  go_enter Tryz.func11, Tryz.ntmps11
  go_wp2_with (first
    | go_skip
    | ((with_reducible refine at_box ?_); first | (refine wpList_box_H rfl rfl H rfl (by constructor) ?_; clear H; intro b w H))
    | ((with_reducible refine at_alloc ?_); first | (refine wpList_alloc_H rfl rfl H ?_; clear H; intro b w H))
    | ((with_reducible refine at_load ?_); first | (refine wpList_load_H rfl rfl H rfl (by repeat constructor) ?_) | (refine wpList_loads_H rfl rfl H rfl (by repeat constructor) ?_))
    | ((with_reducible refine at_store ?_); first | (refine wpList_store_H rfl rfl H rfl rfl (by repeat constructor) ?_; clear H; intro w H))
    | (go_at_call 65; refine (l01New_cu s _ ⟨R.1.at_ H, R.2⟩).mono ?_; rintro e w ⟨b, rfl, K⟩; replace H := H.add_all K; clear K))
  go_at_call 8
  refine (drawBareAnswer_c s _ ⟨R.1.at_ H, R.2⟩).mono ?_
  rintro e w ⟨x, EB, g, v, rfl, hb, hsz, K⟩
  replace H := H.add_all K
  clear K
  go_wp2_with (first
    | go_skip
    | ((with_reducible refine at_box ?_); first | (refine wpList_box_H rfl rfl H rfl (by constructor) ?_; clear H; intro b w H))
    | ((with_reducible refine at_alloc ?_); first | (refine wpList_alloc_H rfl rfl H ?_; clear H; intro bQ w H))
    | ((with_reducible refine at_load ?_); first | (refine wpList_load_H rfl rfl H rfl (by repeat constructor) ?_) | (refine wpList_loads_H rfl rfl H rfl (by repeat constructor) ?_))
    | ((with_reducible refine at_store ?_); first | (refine wpList_store_H rfl rfl H rfl rfl (by repeat constructor) ?_; clear H; intro w H)))
  refine bodyPost_ret (results_H2 rfl H rfl (by repeat constructor)) rfl ?_
  exact ⟨x, EB, g, rfl, hb, hsz, H.pick (.cons (by repeat constructor) .nil)⟩
def DSame (W0 : World) (e : Ending) (w' : World) : Prop := ∃ (x y : BV) (E1 E2 : En), e = .returned (.tuple #[x.val, y.val]) ∧ (BDr E1 x ∧ BDr E2 y) ∧ Hp W0 w' [E1, E2]
theorem DSame.mk {W0 : World} {e : Ending} {w' : World} (x y : BV) (E1 E2 : En) (h1 : e = .returned (.tuple #[x.val, y.val])) (h2 : BDr E1 x) (h3 : BDr E2 y) (h : Hp W0 w' [E1, E2]) : DSame W0 e w' := ⟨x, y, E1, E2, h1, ⟨h2, h3⟩, h⟩
end Go.Proofs.YtaafnenmdombiaaGreat
