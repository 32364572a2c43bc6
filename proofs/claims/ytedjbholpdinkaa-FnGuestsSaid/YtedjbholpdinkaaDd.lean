/- Contracts of the draws of the laws on guests. No condition but that the argument lies in memory. -/
import Derived.Test.YtedjbholpdinkaaDc
import Derived.Test.YtedjbholpdinkaaLh
namespace Go.Proofs.Ytedjbholpdinkaa
open Go.RowKit
theorem gbig_sm {g : GV} (h : GSm g) : GBig g := by
  obtain ⟨h1, h2, h3, h4⟩ := h
  exact ⟨by simp only [big]; omega, by simp only [big]; omega, by simp only [big]; omega, by simp only [big]; omega⟩
theorem val_eqD {P : Program} {f : FuncId} {args : Array Value} {w0 w : World} {L : List En} {v v' : Value} (h : Calls P f args w (fun e w' => ∃ u, e = .returned u ∧ (u = v ∧ Hp w0 w' L))) (e : v = v') : Calls P f args w (fun e w' => ∃ u, e = .returned u ∧ (u = v' ∧ Hp w0 w' L)) := e ▸ h
theorem mkgD {w : World} {e : Ending} {w' : World} {m : MG} (h : MkG w m e w') : ∃ d : GV, e = .returned d.val ∧ d.m = m ∧ Hp w w' [.gst d] := by
  obtain ⟨d, he, hm, ho, hb⟩ := MkGc.val h
  exact ⟨d, he, hm, Hp.of_gst ho hb⟩
section
variable {P : Program} {w0 w : World} {L : List En}
theorem results_HH {fn : Func} {p q : Tmp} {ty ty2 : TypeId} (h : fn.results = #[.cell p ty, .cell q ty2]) (H : Hp w0 w L) {tmps : Array Value} {b b2 : Nat} (hp : tmps.getD p undef = .pointer (some ⟨b, 0, none⟩)) (hq : tmps.getD q undef = .pointer (some ⟨b2, 0, none⟩)) {n n2 : Nat} [hS : TyA P ty n] [hS2 : TyA P ty2 n2] {vs vs2 : List Value} (t : LoadsAt L b 0 n vs) (t2 : LoadsAt L b2 0 n2 vs2) :
    (results fn tmps).run P w = .ok (.tuple #[.agg vs.toArray, .agg vs2.toArray]) w := by
  have hr := run_loads_H H hS t
  have hr2 := run_loads_H H hS2 t2
  simp [Instr.loadAt, Instr.sureAddr] at hr hr2
  have hp' : tmps[p]?.getD undef = .pointer (some ⟨b, 0, none⟩) := by simpa using hp
  have hq' : tmps[q]?.getD undef = .pointer (some ⟨b2, 0, none⟩) := by simpa using hq
  simp [results, h, Sem.run_bind, Result.andThen, hp', hq', asAddr, hr, hr2]
end
set_option linter.unusedSimpArgs false in
set_option linter.unusedVariables false in
set_option maxRecDepth 100000 in
set_option maxHeartbeats 4000000 in
theorem drawInterrupted_c (s : Sl Int) (W0 : World) (R : Rd u8cell 1 W0 s ∧ s.xs.length ≤ 1048576) : Calls Try.prog 68 #[.slice s.A s.xs.length s.c] W0 fun e w' => ∃ d : GV, e = .returned d.val ∧ GSm d ∧ Hp W0 w' [.gst d] := by
  have H := Hp.start W0
  go_enter Try.func68, Try.ntmps68
  go_wp2_with (first
    | go_skip
    | ((with_reducible refine at_box ?_); first | (refine wpList_box_H rfl rfl H rfl (by first | exact CellsOf.agg | exact CellsOf.int | exact CellsOf.bool | exact CellsOf.slice | exact CellsOf.string | exact CellsOf.pointer | exact CellsOf.func) ?_; clear H; intro b w H))
    | ((with_reducible refine at_alloc ?_); first | (refine wpList_alloc_H rfl rfl H ?_; clear H; intro b w H))
    | ((with_reducible refine at_load ?_); first | (refine wpList_load_H rfl rfl H rfl (by repeat (first | exact LoadAt.here rfl | apply LoadAt.there)) ?_) | (refine wpList_loads_H rfl rfl H rfl (by repeat (first | (apply LoadsAt.here; repeat (first | exact GetsAt.nil | apply GetsAt.here | apply GetsAt.there)) | apply LoadsAt.there)) ?_))
    | ((with_reducible refine at_store ?_); first | (refine wpList_store_H rfl rfl H rfl rfl (by repeat (first | (apply StoreAt.here; (first | exact CellsOf.agg | exact CellsOf.int | exact CellsOf.bool | exact CellsOf.slice | exact CellsOf.string | exact CellsOf.pointer | exact CellsOf.func); (repeat (first | exact SetsAt.nil | apply SetsAt.here | apply SetsAt.there)); exact rfl; exact rfl) | apply StoreAt.there)) ?_; clear H; intro w H))
    | (go_at_call 81; refine (l01New_cu s _ ⟨R.1.at_ H, R.2⟩).mono ?_; rintro e w ⟨b, rfl, K⟩; replace H := H.add_all K; clear K))
  go_at_call 117
  refine (l15Any_H s b H (by repeat (first | exact Take.head | apply Take.tail)) R).mono ?_
  clear H
  rintro e w ⟨d, rfl, hs, H⟩
  have HS := Lib.hid hs; clear hs
  go_wp2_with (first
    | go_skip
    | ((with_reducible refine at_box ?_); first | (refine wpList_box_H rfl rfl H rfl (by first | exact CellsOf.agg | exact CellsOf.int | exact CellsOf.bool | exact CellsOf.slice | exact CellsOf.string | exact CellsOf.pointer | exact CellsOf.func) ?_; clear H; intro b w H))
    | ((with_reducible refine at_alloc ?_); first | (refine wpList_alloc_H rfl rfl H ?_; clear H; intro bG w H))
    | ((with_reducible refine at_load ?_); first | (refine wpList_load_H rfl rfl H rfl (by repeat (first | exact LoadAt.here rfl | apply LoadAt.there)) ?_) | (refine wpList_loads_H rfl rfl H rfl (by repeat (first | (apply LoadsAt.here; repeat (first | exact GetsAt.nil | apply GetsAt.here | apply GetsAt.there)) | apply LoadsAt.there)) ?_))
    | ((with_reducible refine at_store ?_); first | (refine wpList_store_H rfl rfl H rfl rfl (by repeat (first | (apply StoreAt.here; (first | exact CellsOf.agg | exact CellsOf.int | exact CellsOf.bool | exact CellsOf.slice | exact CellsOf.string | exact CellsOf.pointer | exact CellsOf.func); (repeat (first | exact SetsAt.nil | apply SetsAt.here | apply SetsAt.there)); exact rfl; exact rfl) | apply StoreAt.there)) ?_; clear H; intro w H)))
  refine bodyPost_ret (results_H rfl H rfl (by repeat (first | (apply LoadsAt.here; repeat (first | exact GetsAt.nil | apply GetsAt.here | apply GetsAt.there)) | apply LoadsAt.there))) rfl ?_
  exact ⟨d, rfl, HS.out, H.pick (.cons (by repeat (first | exact Take.head | apply Take.tail)) .nil)⟩
set_option linter.unusedSimpArgs false in
set_option linter.unusedVariables false in
set_option maxRecDepth 100000 in
set_option maxHeartbeats 4000000 in
theorem drawGuestOk_c (s : Sl Int) (W0 : World) (R : Rd u8cell 1 W0 s ∧ s.xs.length ≤ 1048576) : Calls Try.prog 73 #[.slice s.A s.xs.length s.c] W0 fun e w' => ∃ d : GV, e = .returned d.val ∧ GSm d ∧ Hp W0 w' [.gst d] := by
  have H := Hp.start W0
  go_enter Try.func73, Try.ntmps73
  go_wp2_with (first
    | go_skip
    | ((with_reducible refine at_box ?_); first | (refine wpList_box_H rfl rfl H rfl (by first | exact CellsOf.agg | exact CellsOf.int | exact CellsOf.bool | exact CellsOf.slice | exact CellsOf.string | exact CellsOf.pointer | exact CellsOf.func) ?_; clear H; intro b w H))
    | ((with_reducible refine at_alloc ?_); first | (refine wpList_alloc_H rfl rfl H ?_; clear H; intro b w H))
    | ((with_reducible refine at_load ?_); first | (refine wpList_load_H rfl rfl H rfl (by repeat (first | exact LoadAt.here rfl | apply LoadAt.there)) ?_) | (refine wpList_loads_H rfl rfl H rfl (by repeat (first | (apply LoadsAt.here; repeat (first | exact GetsAt.nil | apply GetsAt.here | apply GetsAt.there)) | apply LoadsAt.there)) ?_))
    | ((with_reducible refine at_store ?_); first | (refine wpList_store_H rfl rfl H rfl rfl (by repeat (first | (apply StoreAt.here; (first | exact CellsOf.agg | exact CellsOf.int | exact CellsOf.bool | exact CellsOf.slice | exact CellsOf.string | exact CellsOf.pointer | exact CellsOf.func); (repeat (first | exact SetsAt.nil | apply SetsAt.here | apply SetsAt.there)); exact rfl; exact rfl) | apply StoreAt.there)) ?_; clear H; intro w H))
    | (go_at_call 81; refine (l01New_cu s _ ⟨R.1.at_ H, R.2⟩).mono ?_; rintro e w ⟨b, rfl, K⟩; replace H := H.add_all K; clear K))
  go_at_call 117
  refine (l15Any_H s b H (by repeat (first | exact Take.head | apply Take.tail)) R).mono ?_
  clear H
  rintro e w ⟨d, rfl, hs, H⟩
  have HS := Lib.hid hs; clear hs
  go_wp2_with (first
    | go_skip
    | ((with_reducible refine at_box ?_); first | (refine wpList_box_H rfl rfl H rfl (by first | exact CellsOf.agg | exact CellsOf.int | exact CellsOf.bool | exact CellsOf.slice | exact CellsOf.string | exact CellsOf.pointer | exact CellsOf.func) ?_; clear H; intro b w H))
    | ((with_reducible refine at_alloc ?_); first | (refine wpList_alloc_H rfl rfl H ?_; clear H; intro bG w H))
    | ((with_reducible refine at_load ?_); first | (refine wpList_load_H rfl rfl H rfl (by repeat (first | exact LoadAt.here rfl | apply LoadAt.there)) ?_) | (refine wpList_loads_H rfl rfl H rfl (by repeat (first | (apply LoadsAt.here; repeat (first | exact GetsAt.nil | apply GetsAt.here | apply GetsAt.there)) | apply LoadsAt.there)) ?_))
    | ((with_reducible refine at_store ?_); first | (refine wpList_store_H rfl rfl H rfl rfl (by repeat (first | (apply StoreAt.here; (first | exact CellsOf.agg | exact CellsOf.int | exact CellsOf.bool | exact CellsOf.slice | exact CellsOf.string | exact CellsOf.pointer | exact CellsOf.func); (repeat (first | exact SetsAt.nil | apply SetsAt.here | apply SetsAt.there)); exact rfl; exact rfl) | apply StoreAt.there)) ?_; clear H; intro w H)))
  refine bodyPost_ret (results_H rfl H rfl (by repeat (first | (apply LoadsAt.here; repeat (first | exact GetsAt.nil | apply GetsAt.here | apply GetsAt.there)) | apply LoadsAt.there))) rfl ?_
  exact ⟨d, rfl, HS.out, H.pick (.cons (by repeat (first | exact Take.head | apply Take.tail)) .nil)⟩
set_option linter.unusedSimpArgs false in
set_option linter.unusedVariables false in
set_option maxRecDepth 100000 in
set_option maxHeartbeats 4000000 in
theorem drawPlainly_c (s : Sl Int) (W0 : World) (R : Rd u8cell 1 W0 s ∧ s.xs.length ≤ 1048576) : Calls Try.prog 49 #[.slice s.A s.xs.length s.c] W0 fun e w' => ∃ d : GV, e = .returned d.val ∧ GSm d ∧ Hp W0 w' [.gst d] := by
  have H := Hp.start W0
  go_enter Try.func49, Try.ntmps49
  go_wp2_with (first
    | go_skip
    | ((with_reducible refine at_box ?_); first | (refine wpList_box_H rfl rfl H rfl (by first | exact CellsOf.agg | exact CellsOf.int | exact CellsOf.bool | exact CellsOf.slice | exact CellsOf.string | exact CellsOf.pointer | exact CellsOf.func) ?_; clear H; intro b w H))
    | ((with_reducible refine at_alloc ?_); first | (refine wpList_alloc_H rfl rfl H ?_; clear H; intro b w H))
    | ((with_reducible refine at_load ?_); first | (refine wpList_load_H rfl rfl H rfl (by repeat (first | exact LoadAt.here rfl | apply LoadAt.there)) ?_) | (refine wpList_loads_H rfl rfl H rfl (by repeat (first | (apply LoadsAt.here; repeat (first | exact GetsAt.nil | apply GetsAt.here | apply GetsAt.there)) | apply LoadsAt.there)) ?_))
    | ((with_reducible refine at_store ?_); first | (refine wpList_store_H rfl rfl H rfl rfl (by repeat (first | (apply StoreAt.here; (first | exact CellsOf.agg | exact CellsOf.int | exact CellsOf.bool | exact CellsOf.slice | exact CellsOf.string | exact CellsOf.pointer | exact CellsOf.func); (repeat (first | exact SetsAt.nil | apply SetsAt.here | apply SetsAt.there)); exact rfl; exact rfl) | apply StoreAt.there)) ?_; clear H; intro w H))
    | (go_at_call 81; refine (l01New_cu s _ ⟨R.1.at_ H, R.2⟩).mono ?_; rintro e w ⟨b, rfl, K⟩; replace H := H.add_all K; clear K))
  go_at_call 117
  refine (l15Any_H s b H (by repeat (first | exact Take.head | apply Take.tail)) R).mono ?_
  clear H
  rintro e w ⟨d, rfl, hs, H⟩
  have HS := Lib.hid hs; clear hs
  go_wp2_with (first
    | go_skip
    | ((with_reducible refine at_box ?_); first | (refine wpList_box_H rfl rfl H rfl (by first | exact CellsOf.agg | exact CellsOf.int | exact CellsOf.bool | exact CellsOf.slice | exact CellsOf.string | exact CellsOf.pointer | exact CellsOf.func) ?_; clear H; intro b w H))
    | ((with_reducible refine at_alloc ?_); first | (refine wpList_alloc_H rfl rfl H ?_; clear H; intro bG w H))
    | ((with_reducible refine at_load ?_); first | (refine wpList_load_H rfl rfl H rfl (by repeat (first | exact LoadAt.here rfl | apply LoadAt.there)) ?_) | (refine wpList_loads_H rfl rfl H rfl (by repeat (first | (apply LoadsAt.here; repeat (first | exact GetsAt.nil | apply GetsAt.here | apply GetsAt.there)) | apply LoadsAt.there)) ?_))
    | ((with_reducible refine at_store ?_); first | (refine wpList_store_H rfl rfl H rfl rfl (by repeat (first | (apply StoreAt.here; (first | exact CellsOf.agg | exact CellsOf.int | exact CellsOf.bool | exact CellsOf.slice | exact CellsOf.string | exact CellsOf.pointer | exact CellsOf.func); (repeat (first | exact SetsAt.nil | apply SetsAt.here | apply SetsAt.there)); exact rfl; exact rfl) | apply StoreAt.there)) ?_; clear H; intro w H)))
  refine bodyPost_ret (results_H rfl H rfl (by repeat (first | (apply LoadsAt.here; repeat (first | exact GetsAt.nil | apply GetsAt.here | apply GetsAt.there)) | apply LoadsAt.there))) rfl ?_
  exact ⟨d, rfl, HS.out, H.pick (.cons (by repeat (first | exact Take.head | apply Take.tail)) .nil)⟩
set_option linter.unusedSimpArgs false in
set_option linter.unusedVariables false in
set_option maxRecDepth 100000 in
set_option maxHeartbeats 4000000 in
theorem drawMoved_c (s : Sl Int) (W0 : World) (R : Rd u8cell 1 W0 s ∧ s.xs.length ≤ 1048576) : Calls Try.prog 51 #[.slice s.A s.xs.length s.c] W0 fun e w' => ∃ d : GV, e = .returned d.val ∧ GSm d ∧ Hp W0 w' [.gst d] := by
  have H := Hp.start W0
  go_enter Try.func51, Try.ntmps51
  go_wp2_with (first
    | go_skip
    | ((with_reducible refine at_box ?_); first | (refine wpList_box_H rfl rfl H rfl (by first | exact CellsOf.agg | exact CellsOf.int | exact CellsOf.bool | exact CellsOf.slice | exact CellsOf.string | exact CellsOf.pointer | exact CellsOf.func) ?_; clear H; intro b w H))
    | ((with_reducible refine at_alloc ?_); first | (refine wpList_alloc_H rfl rfl H ?_; clear H; intro b w H))
    | ((with_reducible refine at_load ?_); first | (refine wpList_load_H rfl rfl H rfl (by repeat (first | exact LoadAt.here rfl | apply LoadAt.there)) ?_) | (refine wpList_loads_H rfl rfl H rfl (by repeat (first | (apply LoadsAt.here; repeat (first | exact GetsAt.nil | apply GetsAt.here | apply GetsAt.there)) | apply LoadsAt.there)) ?_))
    | ((with_reducible refine at_store ?_); first | (refine wpList_store_H rfl rfl H rfl rfl (by repeat (first | (apply StoreAt.here; (first | exact CellsOf.agg | exact CellsOf.int | exact CellsOf.bool | exact CellsOf.slice | exact CellsOf.string | exact CellsOf.pointer | exact CellsOf.func); (repeat (first | exact SetsAt.nil | apply SetsAt.here | apply SetsAt.there)); exact rfl; exact rfl) | apply StoreAt.there)) ?_; clear H; intro w H))
    | (go_at_call 81; refine (l01New_cu s _ ⟨R.1.at_ H, R.2⟩).mono ?_; rintro e w ⟨b, rfl, K⟩; replace H := H.add_all K; clear K))
  go_at_call 117
  refine (l15Any_H s b H (by repeat (first | exact Take.head | apply Take.tail)) R).mono ?_
  clear H
  rintro e w ⟨d, rfl, hs, H⟩
  have HS := Lib.hid hs; clear hs
  go_wp2_with (first
    | go_skip
    | ((with_reducible refine at_box ?_); first | (refine wpList_box_H rfl rfl H rfl (by first | exact CellsOf.agg | exact CellsOf.int | exact CellsOf.bool | exact CellsOf.slice | exact CellsOf.string | exact CellsOf.pointer | exact CellsOf.func) ?_; clear H; intro b w H))
    | ((with_reducible refine at_alloc ?_); first | (refine wpList_alloc_H rfl rfl H ?_; clear H; intro bG w H))
    | ((with_reducible refine at_load ?_); first | (refine wpList_load_H rfl rfl H rfl (by repeat (first | exact LoadAt.here rfl | apply LoadAt.there)) ?_) | (refine wpList_loads_H rfl rfl H rfl (by repeat (first | (apply LoadsAt.here; repeat (first | exact GetsAt.nil | apply GetsAt.here | apply GetsAt.there)) | apply LoadsAt.there)) ?_))
    | ((with_reducible refine at_store ?_); first | (refine wpList_store_H rfl rfl H rfl rfl (by repeat (first | (apply StoreAt.here; (first | exact CellsOf.agg | exact CellsOf.int | exact CellsOf.bool | exact CellsOf.slice | exact CellsOf.string | exact CellsOf.pointer | exact CellsOf.func); (repeat (first | exact SetsAt.nil | apply SetsAt.here | apply SetsAt.there)); exact rfl; exact rfl) | apply StoreAt.there)) ?_; clear H; intro w H)))
  refine bodyPost_ret (results_H rfl H rfl (by repeat (first | (apply LoadsAt.here; repeat (first | exact GetsAt.nil | apply GetsAt.here | apply GetsAt.there)) | apply LoadsAt.there))) rfl ?_
  exact ⟨d, rfl, HS.out, H.pick (.cons (by repeat (first | exact Take.head | apply Take.tail)) .nil)⟩
set_option linter.unusedSimpArgs false in
set_option linter.unusedVariables false in
set_option maxRecDepth 100000 in
set_option maxHeartbeats 4000000 in
theorem drawGuestNew_c (s : Sl Int) (W0 : World) (R : Rd u8cell 1 W0 s ∧ s.xs.length ≤ 1048576) : Calls Try.prog 67 #[.slice s.A s.xs.length s.c] W0 fun e w' => ∃ d : Sl Ins, e = .returned (.slice d.A d.xs.length d.c) ∧ d.xs.length ≤ 16 ∧ Hp W0 w' [.ins d] := by
  have H := Hp.start W0
  go_enter Try.func67, Try.ntmps67
  go_wp2_with (first
    | go_skip
    | ((with_reducible refine at_box ?_); first | (refine wpList_box_H rfl rfl H rfl (by first | exact CellsOf.agg | exact CellsOf.int | exact CellsOf.bool | exact CellsOf.slice | exact CellsOf.string | exact CellsOf.pointer | exact CellsOf.func) ?_; clear H; intro b w H))
    | ((with_reducible refine at_alloc ?_); first | (refine wpList_alloc_H rfl rfl H ?_; clear H; intro b w H))
    | ((with_reducible refine at_load ?_); first | (refine wpList_load_H rfl rfl H rfl (by repeat (first | exact LoadAt.here rfl | apply LoadAt.there)) ?_) | (refine wpList_loads_H rfl rfl H rfl (by repeat (first | (apply LoadsAt.here; repeat (first | exact GetsAt.nil | apply GetsAt.here | apply GetsAt.there)) | apply LoadsAt.there)) ?_))
    | ((with_reducible refine at_store ?_); first | (refine wpList_store_H rfl rfl H rfl rfl (by repeat (first | (apply StoreAt.here; (first | exact CellsOf.agg | exact CellsOf.int | exact CellsOf.bool | exact CellsOf.slice | exact CellsOf.string | exact CellsOf.pointer | exact CellsOf.func); (repeat (first | exact SetsAt.nil | apply SetsAt.here | apply SetsAt.there)); exact rfl; exact rfl) | apply StoreAt.there)) ?_; clear H; intro w H))
    | (go_at_call 81; refine (l01New_cu s _ ⟨R.1.at_ H, R.2⟩).mono ?_; rintro e w ⟨b, rfl, K⟩; replace H := H.add_all K; clear K))
  go_at_call 121
  refine (l10AnyProg_H s b H (by repeat (first | exact Take.head | apply Take.tail)) R).mono ?_
  clear H
  rintro e w ⟨d, rfl, hs, H⟩
  go_wp2_with (first
    | go_skip
    | ((with_reducible refine at_box ?_); first | (refine wpList_box_H rfl rfl H rfl (by first | exact CellsOf.agg | exact CellsOf.int | exact CellsOf.bool | exact CellsOf.slice | exact CellsOf.string | exact CellsOf.pointer | exact CellsOf.func) ?_; clear H; intro b w H))
    | ((with_reducible refine at_alloc ?_); first | (refine wpList_alloc_H rfl rfl H ?_; clear H; intro b w H))
    | ((with_reducible refine at_load ?_); first | (refine wpList_load_H rfl rfl H rfl (by repeat (first | exact LoadAt.here rfl | apply LoadAt.there)) ?_) | (refine wpList_loads_H rfl rfl H rfl (by repeat (first | (apply LoadsAt.here; repeat (first | exact GetsAt.nil | apply GetsAt.here | apply GetsAt.there)) | apply LoadsAt.there)) ?_))
    | ((with_reducible refine at_store ?_); first | (refine wpList_store_H rfl rfl H rfl rfl (by repeat (first | (apply StoreAt.here; (first | exact CellsOf.agg | exact CellsOf.int | exact CellsOf.bool | exact CellsOf.slice | exact CellsOf.string | exact CellsOf.pointer | exact CellsOf.func); (repeat (first | exact SetsAt.nil | apply SetsAt.here | apply SetsAt.there)); exact rfl; exact rfl) | apply StoreAt.there)) ?_; clear H; intro w H)))
  go_ret
  exact ⟨d, rfl, hs, H.pick (.cons (by repeat (first | exact Take.head | apply Take.tail)) .nil)⟩
set_option linter.unusedSimpArgs false in
set_option linter.unusedVariables false in
set_option maxRecDepth 100000 in
set_option maxHeartbeats 4000000 in
theorem drawSaw_c (s : Sl Int) (W0 : World) (R : Rd u8cell 1 W0 s ∧ s.xs.length ≤ 1048576) : Calls Try.prog 70 #[.slice s.A s.xs.length s.c] W0 fun e w' => ∃ (d : GV) (v : Int), e = .returned (.tuple #[d.val, .int .i64 v]) ∧ GSm d ∧ Hp W0 w' [.gst d] := by
  have H := Hp.start W0
  go_enter Try.func70, Try.ntmps70
  go_wp2_with (first
    | go_skip
    | ((with_reducible refine at_box ?_); first | (refine wpList_box_H rfl rfl H rfl (by first | exact CellsOf.agg | exact CellsOf.int | exact CellsOf.bool | exact CellsOf.slice | exact CellsOf.string | exact CellsOf.pointer | exact CellsOf.func) ?_; clear H; intro b w H))
    | ((with_reducible refine at_alloc ?_); first | (refine wpList_alloc_H rfl rfl H ?_; clear H; intro b w H))
    | ((with_reducible refine at_load ?_); first | (refine wpList_load_H rfl rfl H rfl (by repeat (first | exact LoadAt.here rfl | apply LoadAt.there)) ?_) | (refine wpList_loads_H rfl rfl H rfl (by repeat (first | (apply LoadsAt.here; repeat (first | exact GetsAt.nil | apply GetsAt.here | apply GetsAt.there)) | apply LoadsAt.there)) ?_))
    | ((with_reducible refine at_store ?_); first | (refine wpList_store_H rfl rfl H rfl rfl (by repeat (first | (apply StoreAt.here; (first | exact CellsOf.agg | exact CellsOf.int | exact CellsOf.bool | exact CellsOf.slice | exact CellsOf.string | exact CellsOf.pointer | exact CellsOf.func); (repeat (first | exact SetsAt.nil | apply SetsAt.here | apply SetsAt.there)); exact rfl; exact rfl) | apply StoreAt.there)) ?_; clear H; intro w H))
    | (go_at_call 81; refine (l01New_cu s _ ⟨R.1.at_ H, R.2⟩).mono ?_; rintro e w ⟨b, rfl, K⟩; replace H := H.add_all K; clear K))
  go_at_call 117
  refine (l15Any_H s b H (by repeat (first | exact Take.head | apply Take.tail)) R).mono ?_
  clear H
  rintro e w ⟨d, rfl, hs, H⟩
  have HS := Lib.hid hs; clear hs
  go_wp2_with (first
    | go_skip
    | ((with_reducible refine at_box ?_); first | (refine wpList_box_H rfl rfl H rfl (by first | exact CellsOf.agg | exact CellsOf.int | exact CellsOf.bool | exact CellsOf.slice | exact CellsOf.string | exact CellsOf.pointer | exact CellsOf.func) ?_; clear H; intro b w H))
    | ((with_reducible refine at_alloc ?_); first | (refine wpList_alloc_H rfl rfl H ?_; clear H; intro bG w H))
    | ((with_reducible refine at_load ?_); first | (refine wpList_load_H rfl rfl H rfl (by repeat (first | exact LoadAt.here rfl | apply LoadAt.there)) ?_) | (refine wpList_loads_H rfl rfl H rfl (by repeat (first | (apply LoadsAt.here; repeat (first | exact GetsAt.nil | apply GetsAt.here | apply GetsAt.there)) | apply LoadsAt.there)) ?_))
    | ((with_reducible refine at_store ?_); first | (refine wpList_store_H rfl rfl H rfl rfl (by repeat (first | (apply StoreAt.here; (first | exact CellsOf.agg | exact CellsOf.int | exact CellsOf.bool | exact CellsOf.slice | exact CellsOf.string | exact CellsOf.pointer | exact CellsOf.func); (repeat (first | exact SetsAt.nil | apply SetsAt.here | apply SetsAt.there)); exact rfl; exact rfl) | apply StoreAt.there)) ?_; clear H; intro w H))
    | (go_at_call 82; refine (l01Below_H s b _ (by decide) (by decide) H (by repeat (first | exact Take.head | apply Take.tail)) R).mono ?_; clear H; rintro e w ⟨v, rfl, va, vb, H⟩))
  refine bodyPost_ret (results_H2 rfl H rfl (by repeat (first | (apply LoadsAt.here; repeat (first | exact GetsAt.nil | apply GetsAt.here | apply GetsAt.there)) | apply LoadsAt.there))) rfl ?_
  exact ⟨d, v, rfl, HS.out, H.pick (.cons (by repeat (first | exact Take.head | apply Take.tail)) .nil)⟩
set_option linter.unusedSimpArgs false in
set_option linter.unusedVariables false in
set_option maxRecDepth 100000 in
set_option maxHeartbeats 4000000 in
theorem drawLoaded_c (s : Sl Int) (W0 : World) (R : Rd u8cell 1 W0 s ∧ s.xs.length ≤ 1048576) : Calls Try.prog 50 #[.slice s.A s.xs.length s.c] W0 fun e w' => ∃ (d : GV) (v : Int), e = .returned (.tuple #[d.val, .int .i64 v]) ∧ GSm d ∧ Hp W0 w' [.gst d] := by
  have H := Hp.start W0
  go_enter Try.func50, Try.ntmps50
  go_wp2_with (first
    | go_skip
    | ((with_reducible refine at_box ?_); first | (refine wpList_box_H rfl rfl H rfl (by first | exact CellsOf.agg | exact CellsOf.int | exact CellsOf.bool | exact CellsOf.slice | exact CellsOf.string | exact CellsOf.pointer | exact CellsOf.func) ?_; clear H; intro b w H))
    | ((with_reducible refine at_alloc ?_); first | (refine wpList_alloc_H rfl rfl H ?_; clear H; intro b w H))
    | ((with_reducible refine at_load ?_); first | (refine wpList_load_H rfl rfl H rfl (by repeat (first | exact LoadAt.here rfl | apply LoadAt.there)) ?_) | (refine wpList_loads_H rfl rfl H rfl (by repeat (first | (apply LoadsAt.here; repeat (first | exact GetsAt.nil | apply GetsAt.here | apply GetsAt.there)) | apply LoadsAt.there)) ?_))
    | ((with_reducible refine at_store ?_); first | (refine wpList_store_H rfl rfl H rfl rfl (by repeat (first | (apply StoreAt.here; (first | exact CellsOf.agg | exact CellsOf.int | exact CellsOf.bool | exact CellsOf.slice | exact CellsOf.string | exact CellsOf.pointer | exact CellsOf.func); (repeat (first | exact SetsAt.nil | apply SetsAt.here | apply SetsAt.there)); exact rfl; exact rfl) | apply StoreAt.there)) ?_; clear H; intro w H))
    | (go_at_call 81; refine (l01New_cu s _ ⟨R.1.at_ H, R.2⟩).mono ?_; rintro e w ⟨b, rfl, K⟩; replace H := H.add_all K; clear K))
  go_at_call 117
  refine (l15Any_H s b H (by repeat (first | exact Take.head | apply Take.tail)) R).mono ?_
  clear H
  rintro e w ⟨d, rfl, hs, H⟩
  have HS := Lib.hid hs; clear hs
  go_wp2_with (first
    | go_skip
    | ((with_reducible refine at_box ?_); first | (refine wpList_box_H rfl rfl H rfl (by first | exact CellsOf.agg | exact CellsOf.int | exact CellsOf.bool | exact CellsOf.slice | exact CellsOf.string | exact CellsOf.pointer | exact CellsOf.func) ?_; clear H; intro b w H))
    | ((with_reducible refine at_alloc ?_); first | (refine wpList_alloc_H rfl rfl H ?_; clear H; intro bG w H))
    | ((with_reducible refine at_load ?_); first | (refine wpList_load_H rfl rfl H rfl (by repeat (first | exact LoadAt.here rfl | apply LoadAt.there)) ?_) | (refine wpList_loads_H rfl rfl H rfl (by repeat (first | (apply LoadsAt.here; repeat (first | exact GetsAt.nil | apply GetsAt.here | apply GetsAt.there)) | apply LoadsAt.there)) ?_))
    | ((with_reducible refine at_store ?_); first | (refine wpList_store_H rfl rfl H rfl rfl (by repeat (first | (apply StoreAt.here; (first | exact CellsOf.agg | exact CellsOf.int | exact CellsOf.bool | exact CellsOf.slice | exact CellsOf.string | exact CellsOf.pointer | exact CellsOf.func); (repeat (first | exact SetsAt.nil | apply SetsAt.here | apply SetsAt.there)); exact rfl; exact rfl) | apply StoreAt.there)) ?_; clear H; intro w H))
    | (go_at_call 82; refine (l01Below_H s b _ (by decide) (by decide) H (by repeat (first | exact Take.head | apply Take.tail)) R).mono ?_; clear H; rintro e w ⟨v, rfl, va, vb, H⟩))
  refine bodyPost_ret (results_H2 rfl H rfl (by repeat (first | (apply LoadsAt.here; repeat (first | exact GetsAt.nil | apply GetsAt.here | apply GetsAt.there)) | apply LoadsAt.there))) rfl ?_
  exact ⟨d, v, rfl, HS.out, H.pick (.cons (by repeat (first | exact Take.head | apply Take.tail)) .nil)⟩
set_option linter.unusedSimpArgs false in
set_option linter.unusedVariables false in
set_option maxRecDepth 100000 in
set_option maxHeartbeats 4000000 in
theorem drawStopped_c (s : Sl Int) (W0 : World) (R : Rd u8cell 1 W0 s ∧ s.xs.length ≤ 1048576) : Calls Try.prog 71 #[.slice s.A s.xs.length s.c] W0 fun e w' => ∃ (d : GV) (x : Exit), e = .returned (.tuple #[d.val, x.val]) ∧ GSm d ∧ Hp W0 w' [.gst d] := by
  have H := Hp.start W0
  go_enter Try.func71, Try.ntmps71
  go_wp2_with (first
    | go_skip
    | ((with_reducible refine at_box ?_); first | (refine wpList_box_H rfl rfl H rfl (by first | exact CellsOf.agg | exact CellsOf.int | exact CellsOf.bool | exact CellsOf.slice | exact CellsOf.string | exact CellsOf.pointer | exact CellsOf.func) ?_; clear H; intro b w H))
    | ((with_reducible refine at_alloc ?_); first | (refine wpList_alloc_H rfl rfl H ?_; clear H; intro b w H))
    | ((with_reducible refine at_load ?_); first | (refine wpList_load_H rfl rfl H rfl (by repeat (first | exact LoadAt.here rfl | apply LoadAt.there)) ?_) | (refine wpList_loads_H rfl rfl H rfl (by repeat (first | (apply LoadsAt.here; repeat (first | exact GetsAt.nil | apply GetsAt.here | apply GetsAt.there)) | apply LoadsAt.there)) ?_))
    | ((with_reducible refine at_store ?_); first | (refine wpList_store_H rfl rfl H rfl rfl (by repeat (first | (apply StoreAt.here; (first | exact CellsOf.agg | exact CellsOf.int | exact CellsOf.bool | exact CellsOf.slice | exact CellsOf.string | exact CellsOf.pointer | exact CellsOf.func); (repeat (first | exact SetsAt.nil | apply SetsAt.here | apply SetsAt.there)); exact rfl; exact rfl) | apply StoreAt.there)) ?_; clear H; intro w H))
    | (go_at_call 81; refine (l01New_cu s _ ⟨R.1.at_ H, R.2⟩).mono ?_; rintro e w ⟨b, rfl, K⟩; replace H := H.add_all K; clear K))
  go_at_call 117
  refine (l15Any_H s b H (by repeat (first | exact Take.head | apply Take.tail)) R).mono ?_
  clear H
  rintro e w ⟨d, rfl, hs, H⟩
  have HS := Lib.hid hs; clear hs
  go_wp2_with (first
    | go_skip
    | ((with_reducible refine at_box ?_); first | (refine wpList_box_H rfl rfl H rfl (by first | exact CellsOf.agg | exact CellsOf.int | exact CellsOf.bool | exact CellsOf.slice | exact CellsOf.string | exact CellsOf.pointer | exact CellsOf.func) ?_; clear H; intro b w H))
    | ((with_reducible refine at_alloc ?_); first | (refine wpList_alloc_H rfl rfl H ?_; clear H; intro bG w H))
    | ((with_reducible refine at_load ?_); first | (refine wpList_load_H rfl rfl H rfl (by repeat (first | exact LoadAt.here rfl | apply LoadAt.there)) ?_) | (refine wpList_loads_H rfl rfl H rfl (by repeat (first | (apply LoadsAt.here; repeat (first | exact GetsAt.nil | apply GetsAt.here | apply GetsAt.there)) | apply LoadsAt.there)) ?_))
    | ((with_reducible refine at_store ?_); first | (refine wpList_store_H rfl rfl H rfl rfl (by repeat (first | (apply StoreAt.here; (first | exact CellsOf.agg | exact CellsOf.int | exact CellsOf.bool | exact CellsOf.slice | exact CellsOf.string | exact CellsOf.pointer | exact CellsOf.func); (repeat (first | exact SetsAt.nil | apply SetsAt.here | apply SetsAt.there)); exact rfl; exact rfl) | apply StoreAt.there)) ?_; clear H; intro w H))
    | (go_at_call 122; refine (l13Any_H s b H (by repeat (first | exact Take.head | apply Take.tail)) R).mono ?_; clear H; rintro e w ⟨x, rfl, H⟩))
  refine bodyPost_ret (results_HH rfl H rfl rfl (by repeat (first | (apply LoadsAt.here; repeat (first | exact GetsAt.nil | apply GetsAt.here | apply GetsAt.there)) | apply LoadsAt.there)) (by repeat (first | (apply LoadsAt.here; repeat (first | exact GetsAt.nil | apply GetsAt.here | apply GetsAt.there)) | apply LoadsAt.there))) rfl ?_
  exact ⟨d, x, rfl, HS.out, H.pick (.cons (by repeat (first | exact Take.head | apply Take.tail)) .nil)⟩
set_option linter.unusedSimpArgs false in
set_option linter.unusedVariables false in
set_option maxRecDepth 100000 in
set_option maxHeartbeats 4000000 in
theorem drawSameGuest_c (s : Sl Int) (W0 : World) (R : Rd u8cell 1 W0 s ∧ s.xs.length ≤ 1048576) : Calls Try.prog 72 #[.slice s.A s.xs.length s.c] W0 fun e w' => ∃ d x : GV, e = .returned (.tuple #[d.val, x.val]) ∧ GSm d ∧ (∃ E : En, (∀ w, E.ok w → GRd w x) ∧ Hp W0 w' [.gst d, E]) := by
  have H := Hp.start W0
  go_enter Try.func72, Try.ntmps72
  go_wp2_with (first
    | go_skip
    | ((with_reducible refine at_box ?_); first | (refine wpList_box_H rfl rfl H rfl (by first | exact CellsOf.agg | exact CellsOf.int | exact CellsOf.bool | exact CellsOf.slice | exact CellsOf.string | exact CellsOf.pointer | exact CellsOf.func) ?_; clear H; intro b w H))
    | ((with_reducible refine at_alloc ?_); first | ((with_reducible refine at_dst 2 ?_); refine wpList_alloc_H rfl rfl H ?_; clear H; intro bC w H) | ((with_reducible refine at_dst 3 ?_); refine wpList_alloc_H rfl rfl H ?_; clear H; intro bD w H) | (refine wpList_alloc_H rfl rfl H ?_; clear H; intro b w H))
    | ((with_reducible refine at_load ?_); first | (refine wpList_load_H rfl rfl H rfl (by repeat (first | exact LoadAt.here rfl | apply LoadAt.there)) ?_) | (refine wpList_loads_H rfl rfl H rfl (by repeat (first | (apply LoadsAt.here; repeat (first | exact GetsAt.nil | apply GetsAt.here | apply GetsAt.there)) | apply LoadsAt.there)) ?_))
    | ((with_reducible refine at_store ?_); first | (refine wpList_store_H rfl rfl H rfl rfl (by repeat (first | (apply StoreAt.here; (first | exact CellsOf.agg | exact CellsOf.int | exact CellsOf.bool | exact CellsOf.slice | exact CellsOf.string | exact CellsOf.pointer | exact CellsOf.func); (repeat (first | exact SetsAt.nil | apply SetsAt.here | apply SetsAt.there)); exact rfl; exact rfl) | apply StoreAt.there)) ?_; clear H; intro w H))
    | (go_at_call 81; refine (l01New_cu s _ ⟨R.1.at_ H, R.2⟩).mono ?_; rintro e w ⟨b, rfl, K⟩; replace H := H.add_all K; clear K))
  go_at_call 117
  refine (l15Any_H s b H (by repeat (first | exact Take.head | apply Take.tail)) R).mono ?_
  clear H
  rintro e w ⟨d, rfl, hs, H⟩
  have HS := Lib.hid hs; clear hs
  go_wp2_with (first
    | go_skip
    | ((with_reducible refine at_box ?_); first | (refine wpList_box_H rfl rfl H rfl (by first | exact CellsOf.agg | exact CellsOf.int | exact CellsOf.bool | exact CellsOf.slice | exact CellsOf.string | exact CellsOf.pointer | exact CellsOf.func) ?_; clear H; intro b w H))
    | ((with_reducible refine at_alloc ?_); first | ((with_reducible refine at_dst 5 ?_); refine wpList_alloc_H rfl rfl H ?_; clear H; intro bX w H) | (refine wpList_alloc_H rfl rfl H ?_; clear H; intro b w H))
    | ((with_reducible refine at_load ?_); first | (refine wpList_load_H rfl rfl H rfl (by repeat (first | exact LoadAt.here rfl | apply LoadAt.there)) ?_) | (refine wpList_loads_H rfl rfl H rfl (by repeat (first | (apply LoadsAt.here; repeat (first | exact GetsAt.nil | apply GetsAt.here | apply GetsAt.there)) | apply LoadsAt.there)) ?_))
    | ((with_reducible refine at_store ?_); first | (refine wpList_store_H rfl rfl H rfl rfl (by repeat (first | (apply StoreAt.here; (first | exact CellsOf.agg | exact CellsOf.int | exact CellsOf.bool | exact CellsOf.slice | exact CellsOf.string | exact CellsOf.pointer | exact CellsOf.func); (repeat (first | exact SetsAt.nil | apply SetsAt.here | apply SetsAt.there)); exact rfl; exact rfl) | apply StoreAt.there)) ?_; clear H; intro w H)))
  go_at_call 116
  refine ((l15Copy_c d _ (H.grd1 (by repeat (first | exact Take.head | apply Take.tail))) (gbig_sm HS.out)).mono fun _ _ h => mkgD (m := d.m) h).mono ?_
  rintro e w ⟨q, rfl, hm, K⟩
  have hsn := (congrArg (fun m => m.seen.length) hm : q.seen.xs.length = d.seen.xs.length)
  have HZ : q.seen.xs.length ≤ 44 := by rw [hsn]; exact HS.out.2.2.2
  clear hm hsn
  replace H := (H.add_all K).slices
  clear K
  go_wp2_with (first
    | go_skip
    | ((with_reducible refine at_box ?_); first | (refine wpList_box_H rfl rfl H rfl (by first | exact CellsOf.agg | exact CellsOf.int | exact CellsOf.bool | exact CellsOf.slice | exact CellsOf.string | exact CellsOf.pointer | exact CellsOf.func) ?_; clear H; intro b w H))
    | ((with_reducible refine at_alloc ?_); first | ((with_reducible refine at_dst 6 ?_); refine wpList_alloc_H rfl rfl H ?_; clear H; intro bY w H) | (refine wpList_alloc_H rfl rfl H ?_; clear H; intro b w H))
    | ((with_reducible refine at_load ?_); first | (refine wpList_load_H rfl rfl H rfl (by repeat (first | exact LoadAt.here rfl | apply LoadAt.there)) ?_) | (refine wpList_loads_H rfl rfl H rfl (by repeat (first | (apply LoadsAt.here; repeat (first | exact GetsAt.nil | apply GetsAt.here | apply GetsAt.there)) | apply LoadsAt.there)) ?_))
    | ((with_reducible refine at_store ?_); first | (refine wpList_store_H rfl rfl H rfl rfl (by repeat (first | (apply StoreAt.here; (first | exact CellsOf.agg | exact CellsOf.int | exact CellsOf.bool | exact CellsOf.slice | exact CellsOf.string | exact CellsOf.pointer | exact CellsOf.func); (repeat (first | exact SetsAt.nil | apply SetsAt.here | apply SetsAt.there)); exact rfl; exact rfl) | apply StoreAt.there)) ?_; clear H; intro w H))
    | ((with_reducible refine at_slice ?_); first | ((with_reducible refine at_dst 25 ?_); refine wpList_one_H rfl rfl H (5 : Int) rfl CellsOf.int rfl (by decide) ?_; clear H; intro b1 w H))
    | ((with_reducible refine at_append ?_); first | ((with_reducible refine at_dst 26 ?_); refine wpList_append_H rfl rfl H q.seen (⟨some ⟨b1, 0, none⟩, 1, [(5 : Int)]⟩ : Sl Int) rfl rfl (by repeat (first | exact Take.head | apply Take.tail)) (H.rd (s := (⟨some ⟨b1, 0, none⟩, 1, [(5 : Int)]⟩ : Sl Int)) (by repeat (first | exact Take.head | apply Take.tail)) int_len) (by simp only [List.length_cons, List.length_nil]; omega) (by decide) ?_; clear H; intro p2 w h2 H))
    | (go_at_call 82; refine (l01Below_H s b _ (by decide) (by decide) H (by repeat (first | exact Take.head | apply Take.tail)) R).mono ?_; clear H; rintro e w ⟨v, rfl, va, vb, H⟩)
    | (go_at_call 123; refine (l03Table_H s b H (by repeat (first | exact Take.head | apply Take.tail)) R).mono ?_; clear H; rintro e w ⟨t, rfl, t1, H⟩; clear t1))
  · skip
    refine wp_cut (fun u a' w' => ∃ (_ : Unit), Hid True ∧ Hp W0 w' [.box bC 33 (garr d).toList, .box bD 33 (garr (⟨q.prog, (wrap64 (q.a + 1)), q.pc, q.written, q.live, q.ctl, q.pending, q.exit, q.halted, q.seen⟩ : GV)).toList, .gst d, .ins (⟨q.prog, (wrap64 (q.a + 1)), q.pc, q.written, q.live, q.ctl, q.pending, q.exit, q.halted, q.seen⟩ : GV).prog, .slot (⟨q.prog, (wrap64 (q.a + 1)), q.pc, q.written, q.live, q.ctl, q.pending, q.exit, q.halted, q.seen⟩ : GV).written, .slot (⟨q.prog, (wrap64 (q.a + 1)), q.pc, q.written, q.live, q.ctl, q.pending, q.exit, q.halted, q.seen⟩ : GV).live, .int (⟨q.prog, (wrap64 (q.a + 1)), q.pc, q.written, q.live, q.ctl, q.pending, q.exit, q.halted, q.seen⟩ : GV).seen] ∧ a' = puts u [(33, d.val), (34, (⟨q.prog, (wrap64 (q.a + 1)), q.pc, q.written, q.live, q.ctl, q.pending, q.exit, q.halted, q.seen⟩ : GV).val)]) ?_ ?_
    · refine wp_region_held (S := (fun w' => Rw w' bX 33 (garr d) ∧ Rw w' bY 33 (garr (⟨q.prog, (wrap64 (q.a + 1)), q.pc, q.written, q.live, q.ctl, q.pending, q.exit, q.halted, q.seen⟩ : GV)))) (by kernel_rfl) ?_
      replace H := H.drew
      refine takeH (i := 0) rfl .here (by kernel_rfl) (by kernel_rfl) (by kernel_rfl) (fun _ _ _ h => absurd h.1 (by simp)) (yields_loads_R rfl rfl rfl (fun _ hS => hS.1) (by repeat (first | exact GetsAt.nil | apply GetsAt.here | apply GetsAt.there))) ⟨H.rw_ (by repeat (first | exact Take.head | apply Take.tail)), H.rw_ (by repeat (first | exact Take.head | apply Take.tail))⟩ ?_
      (try simp only [Act.put, List.setIfInBounds_toArray, List.set_cons_succ, List.set_cons_zero])
      refine takeH (i := 1) rfl (.there .here) (by kernel_rfl) (by kernel_rfl) (by kernel_rfl) (fun _ _ _ h => absurd h.1 (by simp)) (yields_loads_R rfl rfl rfl (fun _ hS => hS.2) (by repeat (first | exact GetsAt.nil | apply GetsAt.here | apply GetsAt.there))) ⟨H.rw_ (by repeat (first | exact Take.head | apply Take.tail)), H.rw_ (by repeat (first | exact Take.head | apply Take.tail))⟩ ?_
      (try simp only [Act.put, List.setIfInBounds_toArray, List.set_cons_succ, List.set_cons_zero])
      refine anyH_1 (i := 2) (by kernel_rfl) ?_
      refine wpOp_at rfl (.there (.there .here)) rfl ?_
      refine wp_store_H rfl H rfl rfl (by repeat (first | (apply StoreAt.here; (first | exact CellsOf.agg | exact CellsOf.int | exact CellsOf.bool | exact CellsOf.slice | exact CellsOf.string | exact CellsOf.pointer | exact CellsOf.func); (repeat (first | exact SetsAt.nil | apply SetsAt.here | apply SetsAt.there)); exact rfl; exact rfl) | apply StoreAt.there)) ?_
      clear H
      intro w H
      refine ⟨⟨H.rw_ (by repeat (first | exact Take.head | apply Take.tail)), H.rw_ (by repeat (first | exact Take.head | apply Take.tail))⟩, ?_⟩
      (try simp only [Act.put, List.setIfInBounds_toArray, List.set_cons_succ, List.set_cons_zero])
      refine anyH_1 (i := 3) (by kernel_rfl) ?_
      refine wpOp_at rfl (.there (.there (.there .here))) rfl ?_
      refine wp_store_H rfl H rfl rfl (by repeat (first | (apply StoreAt.here; (first | exact CellsOf.agg | exact CellsOf.int | exact CellsOf.bool | exact CellsOf.slice | exact CellsOf.string | exact CellsOf.pointer | exact CellsOf.func); (repeat (first | exact SetsAt.nil | apply SetsAt.here | apply SetsAt.there)); exact rfl; exact rfl) | apply StoreAt.there)) ?_
      clear H
      intro w H
      refine ⟨⟨H.rw_ (by repeat (first | exact Take.head | apply Take.tail)), H.rw_ (by repeat (first | exact Take.head | apply Take.tail))⟩, ?_⟩
      (try simp only [Act.put, List.setIfInBounds_toArray, List.set_cons_succ, List.set_cons_zero])
      refine wpAnyH_done (by kernel_rfl) ?_ _
      exact ⟨rfl, (), Lib.hid trivial, H.pick (.cons (by repeat (first | exact Take.head | apply Take.tail)) (.cons (by repeat (first | exact Take.head | apply Take.tail)) (.cons (by repeat (first | exact Take.head | apply Take.tail)) (.cons (by repeat (first | exact Take.head | apply Take.tail)) (.cons (by repeat (first | exact Take.head | apply Take.tail)) (.cons (by repeat (first | exact Take.head | apply Take.tail)) (.cons (by repeat (first | exact Take.head | apply Take.tail)) .nil))))))), by first | (simp only [puts_cons, puts_nil, Act.put, List.setIfInBounds_toArray, List.set_cons_succ, List.set_cons_zero]; done) | (simp only [puts_cons, puts_nil, Act.put, List.setIfInBounds_toArray, List.set_cons_succ, List.set_cons_zero]; rfl)⟩
    clear H
    rintro u w ⟨_, _, H, rfl⟩
    simp only [puts_cons, puts_nil, Act.put, List.setIfInBounds_toArray, List.set_cons_succ, List.set_cons_zero]
    go_wp2_with (first
      | go_skip
      | ((with_reducible refine at_box ?_); first | (refine wpList_box_H rfl rfl H rfl (by first | exact CellsOf.agg | exact CellsOf.int | exact CellsOf.bool | exact CellsOf.slice | exact CellsOf.string | exact CellsOf.pointer | exact CellsOf.func) ?_; clear H; intro b w H))
      | ((with_reducible refine at_alloc ?_); first | (refine wpList_alloc_H rfl rfl H ?_; clear H; intro bG w H))
      | ((with_reducible refine at_load ?_); first | (refine wpList_load_H rfl rfl H rfl (by repeat (first | exact LoadAt.here rfl | apply LoadAt.there)) ?_) | (refine wpList_loads_H rfl rfl H rfl (by repeat (first | (apply LoadsAt.here; repeat (first | exact GetsAt.nil | apply GetsAt.here | apply GetsAt.there)) | apply LoadsAt.there)) ?_))
      | ((with_reducible refine at_store ?_); first | (refine wpList_store_H rfl rfl H rfl rfl (by repeat (first | (apply StoreAt.here; (first | exact CellsOf.agg | exact CellsOf.int | exact CellsOf.bool | exact CellsOf.slice | exact CellsOf.string | exact CellsOf.pointer | exact CellsOf.func); (repeat (first | exact SetsAt.nil | apply SetsAt.here | apply SetsAt.there)); exact rfl; exact rfl) | apply StoreAt.there)) ?_; clear H; intro w H)))
    refine bodyPost_ret (results_HH rfl H rfl rfl (by repeat (first | (apply LoadsAt.here; repeat (first | exact GetsAt.nil | apply GetsAt.here | apply GetsAt.there)) | apply LoadsAt.there)) (by repeat (first | (apply LoadsAt.here; repeat (first | exact GetsAt.nil | apply GetsAt.here | apply GetsAt.there)) | apply LoadsAt.there))) rfl ?_
    refine ⟨d, (⟨q.prog, (wrap64 (q.a + 1)), q.pc, q.written, q.live, q.ctl, q.pending, q.exit, q.halted, q.seen⟩ : GV), rfl, HS.out, .all [.ins (⟨q.prog, (wrap64 (q.a + 1)), q.pc, q.written, q.live, q.ctl, q.pending, q.exit, q.halted, q.seen⟩ : GV).prog, .slot (⟨q.prog, (wrap64 (q.a + 1)), q.pc, q.written, q.live, q.ctl, q.pending, q.exit, q.halted, q.seen⟩ : GV).written, .slot (⟨q.prog, (wrap64 (q.a + 1)), q.pc, q.written, q.live, q.ctl, q.pending, q.exit, q.halted, q.seen⟩ : GV).live, .int (⟨q.prog, (wrap64 (q.a + 1)), q.pc, q.written, q.live, q.ctl, q.pending, q.exit, q.halted, q.seen⟩ : GV).seen], fun w h => ?_, ?_⟩
    · have h1 := h (.ins (⟨q.prog, (wrap64 (q.a + 1)), q.pc, q.written, q.live, q.ctl, q.pending, q.exit, q.halted, q.seen⟩ : GV).prog) (by simp)
      have h2 := h (.slot (⟨q.prog, (wrap64 (q.a + 1)), q.pc, q.written, q.live, q.ctl, q.pending, q.exit, q.halted, q.seen⟩ : GV).written) (by simp)
      have h3 := h (.slot (⟨q.prog, (wrap64 (q.a + 1)), q.pc, q.written, q.live, q.ctl, q.pending, q.exit, q.halted, q.seen⟩ : GV).live) (by simp)
      have h4 := h (.int (⟨q.prog, (wrap64 (q.a + 1)), q.pc, q.written, q.live, q.ctl, q.pending, q.exit, q.halted, q.seen⟩ : GV).seen) (by simp)
      exact ⟨Own.rd h1 ins_len, Own.rd h2 slot_len, Own.rd h3 slot_len, Own.rd h4 int_len⟩
    · have H2 : Hp W0 _ [.ins (⟨q.prog, (wrap64 (q.a + 1)), q.pc, q.written, q.live, q.ctl, q.pending, q.exit, q.halted, q.seen⟩ : GV).prog, .slot (⟨q.prog, (wrap64 (q.a + 1)), q.pc, q.written, q.live, q.ctl, q.pending, q.exit, q.halted, q.seen⟩ : GV).written, .slot (⟨q.prog, (wrap64 (q.a + 1)), q.pc, q.written, q.live, q.ctl, q.pending, q.exit, q.halted, q.seen⟩ : GV).live, .int (⟨q.prog, (wrap64 (q.a + 1)), q.pc, q.written, q.live, q.ctl, q.pending, q.exit, q.halted, q.seen⟩ : GV).seen, .gst d] := H.pick (.cons (by repeat (first | exact Take.head | apply Take.tail)) (.cons (by repeat (first | exact Take.head | apply Take.tail)) (.cons (by repeat (first | exact Take.head | apply Take.tail)) (.cons (by repeat (first | exact Take.head | apply Take.tail)) (.cons (by repeat (first | exact Take.head | apply Take.tail)) .nil)))))
      exact (Hp.close_all (l := [.ins (⟨q.prog, (wrap64 (q.a + 1)), q.pc, q.written, q.live, q.ctl, q.pending, q.exit, q.halted, q.seen⟩ : GV).prog, .slot (⟨q.prog, (wrap64 (q.a + 1)), q.pc, q.written, q.live, q.ctl, q.pending, q.exit, q.halted, q.seen⟩ : GV).written, .slot (⟨q.prog, (wrap64 (q.a + 1)), q.pc, q.written, q.live, q.ctl, q.pending, q.exit, q.halted, q.seen⟩ : GV).live, .int (⟨q.prog, (wrap64 (q.a + 1)), q.pc, q.written, q.live, q.ctl, q.pending, q.exit, q.halted, q.seen⟩ : GV).seen]) H2).pick (.cons (by repeat (first | exact Take.head | apply Take.tail)) (.cons (by repeat (first | exact Take.head | apply Take.tail)) .nil))
  · skip
    refine wp_cut (fun u a' w' => ∃ (_ : Unit), Hid True ∧ Hp W0 w' [.box bC 33 (garr d).toList, .box bD 33 (garr (⟨q.prog, q.a, q.pc, q.written, q.live, q.ctl, q.pending, q.exit, q.halted, p2⟩ : GV)).toList, .gst d, .ins (⟨q.prog, q.a, q.pc, q.written, q.live, q.ctl, q.pending, q.exit, q.halted, p2⟩ : GV).prog, .slot (⟨q.prog, q.a, q.pc, q.written, q.live, q.ctl, q.pending, q.exit, q.halted, p2⟩ : GV).written, .slot (⟨q.prog, q.a, q.pc, q.written, q.live, q.ctl, q.pending, q.exit, q.halted, p2⟩ : GV).live, .int (⟨q.prog, q.a, q.pc, q.written, q.live, q.ctl, q.pending, q.exit, q.halted, p2⟩ : GV).seen] ∧ a' = puts u [(33, d.val), (34, (⟨q.prog, q.a, q.pc, q.written, q.live, q.ctl, q.pending, q.exit, q.halted, p2⟩ : GV).val)]) ?_ ?_
    · refine wp_region_held (S := (fun w' => Rw w' bX 33 (garr d) ∧ Rw w' bY 33 (garr (⟨q.prog, q.a, q.pc, q.written, q.live, q.ctl, q.pending, q.exit, q.halted, p2⟩ : GV)))) (by kernel_rfl) ?_
      replace H := H.drew
      refine takeH (i := 0) rfl .here (by kernel_rfl) (by kernel_rfl) (by kernel_rfl) (fun _ _ _ h => absurd h.1 (by simp)) (yields_loads_R rfl rfl rfl (fun _ hS => hS.1) (by repeat (first | exact GetsAt.nil | apply GetsAt.here | apply GetsAt.there))) ⟨H.rw_ (by repeat (first | exact Take.head | apply Take.tail)), H.rw_ (by repeat (first | exact Take.head | apply Take.tail))⟩ ?_
      (try simp only [Act.put, List.setIfInBounds_toArray, List.set_cons_succ, List.set_cons_zero])
      refine takeH (i := 1) rfl (.there .here) (by kernel_rfl) (by kernel_rfl) (by kernel_rfl) (fun _ _ _ h => absurd h.1 (by simp)) (yields_loads_R rfl rfl rfl (fun _ hS => hS.2) (by repeat (first | exact GetsAt.nil | apply GetsAt.here | apply GetsAt.there))) ⟨H.rw_ (by repeat (first | exact Take.head | apply Take.tail)), H.rw_ (by repeat (first | exact Take.head | apply Take.tail))⟩ ?_
      (try simp only [Act.put, List.setIfInBounds_toArray, List.set_cons_succ, List.set_cons_zero])
      refine anyH_1 (i := 2) (by kernel_rfl) ?_
      refine wpOp_at rfl (.there (.there .here)) rfl ?_
      refine wp_store_H rfl H rfl rfl (by repeat (first | (apply StoreAt.here; (first | exact CellsOf.agg | exact CellsOf.int | exact CellsOf.bool | exact CellsOf.slice | exact CellsOf.string | exact CellsOf.pointer | exact CellsOf.func); (repeat (first | exact SetsAt.nil | apply SetsAt.here | apply SetsAt.there)); exact rfl; exact rfl) | apply StoreAt.there)) ?_
      clear H
      intro w H
      refine ⟨⟨H.rw_ (by repeat (first | exact Take.head | apply Take.tail)), H.rw_ (by repeat (first | exact Take.head | apply Take.tail))⟩, ?_⟩
      (try simp only [Act.put, List.setIfInBounds_toArray, List.set_cons_succ, List.set_cons_zero])
      refine anyH_1 (i := 3) (by kernel_rfl) ?_
      refine wpOp_at rfl (.there (.there (.there .here))) rfl ?_
      refine wp_store_H rfl H rfl rfl (by repeat (first | (apply StoreAt.here; (first | exact CellsOf.agg | exact CellsOf.int | exact CellsOf.bool | exact CellsOf.slice | exact CellsOf.string | exact CellsOf.pointer | exact CellsOf.func); (repeat (first | exact SetsAt.nil | apply SetsAt.here | apply SetsAt.there)); exact rfl; exact rfl) | apply StoreAt.there)) ?_
      clear H
      intro w H
      refine ⟨⟨H.rw_ (by repeat (first | exact Take.head | apply Take.tail)), H.rw_ (by repeat (first | exact Take.head | apply Take.tail))⟩, ?_⟩
      (try simp only [Act.put, List.setIfInBounds_toArray, List.set_cons_succ, List.set_cons_zero])
      refine wpAnyH_done (by kernel_rfl) ?_ _
      exact ⟨rfl, (), Lib.hid trivial, H.pick (.cons (by repeat (first | exact Take.head | apply Take.tail)) (.cons (by repeat (first | exact Take.head | apply Take.tail)) (.cons (by repeat (first | exact Take.head | apply Take.tail)) (.cons (by repeat (first | exact Take.head | apply Take.tail)) (.cons (by repeat (first | exact Take.head | apply Take.tail)) (.cons (by repeat (first | exact Take.head | apply Take.tail)) (.cons (by repeat (first | exact Take.head | apply Take.tail)) .nil))))))), by first | (simp only [puts_cons, puts_nil, Act.put, List.setIfInBounds_toArray, List.set_cons_succ, List.set_cons_zero]; done) | (simp only [puts_cons, puts_nil, Act.put, List.setIfInBounds_toArray, List.set_cons_succ, List.set_cons_zero]; rfl)⟩
    clear H
    rintro u w ⟨_, _, H, rfl⟩
    simp only [puts_cons, puts_nil, Act.put, List.setIfInBounds_toArray, List.set_cons_succ, List.set_cons_zero]
    go_wp2_with (first
      | go_skip
      | ((with_reducible refine at_box ?_); first | (refine wpList_box_H rfl rfl H rfl (by first | exact CellsOf.agg | exact CellsOf.int | exact CellsOf.bool | exact CellsOf.slice | exact CellsOf.string | exact CellsOf.pointer | exact CellsOf.func) ?_; clear H; intro b w H))
      | ((with_reducible refine at_alloc ?_); first | (refine wpList_alloc_H rfl rfl H ?_; clear H; intro bG w H))
      | ((with_reducible refine at_load ?_); first | (refine wpList_load_H rfl rfl H rfl (by repeat (first | exact LoadAt.here rfl | apply LoadAt.there)) ?_) | (refine wpList_loads_H rfl rfl H rfl (by repeat (first | (apply LoadsAt.here; repeat (first | exact GetsAt.nil | apply GetsAt.here | apply GetsAt.there)) | apply LoadsAt.there)) ?_))
      | ((with_reducible refine at_store ?_); first | (refine wpList_store_H rfl rfl H rfl rfl (by repeat (first | (apply StoreAt.here; (first | exact CellsOf.agg | exact CellsOf.int | exact CellsOf.bool | exact CellsOf.slice | exact CellsOf.string | exact CellsOf.pointer | exact CellsOf.func); (repeat (first | exact SetsAt.nil | apply SetsAt.here | apply SetsAt.there)); exact rfl; exact rfl) | apply StoreAt.there)) ?_; clear H; intro w H)))
    refine bodyPost_ret (results_HH rfl H rfl rfl (by repeat (first | (apply LoadsAt.here; repeat (first | exact GetsAt.nil | apply GetsAt.here | apply GetsAt.there)) | apply LoadsAt.there)) (by repeat (first | (apply LoadsAt.here; repeat (first | exact GetsAt.nil | apply GetsAt.here | apply GetsAt.there)) | apply LoadsAt.there))) rfl ?_
    refine ⟨d, (⟨q.prog, q.a, q.pc, q.written, q.live, q.ctl, q.pending, q.exit, q.halted, p2⟩ : GV), rfl, HS.out, .all [.ins (⟨q.prog, q.a, q.pc, q.written, q.live, q.ctl, q.pending, q.exit, q.halted, p2⟩ : GV).prog, .slot (⟨q.prog, q.a, q.pc, q.written, q.live, q.ctl, q.pending, q.exit, q.halted, p2⟩ : GV).written, .slot (⟨q.prog, q.a, q.pc, q.written, q.live, q.ctl, q.pending, q.exit, q.halted, p2⟩ : GV).live, .int (⟨q.prog, q.a, q.pc, q.written, q.live, q.ctl, q.pending, q.exit, q.halted, p2⟩ : GV).seen], fun w h => ?_, ?_⟩
    · have h1 := h (.ins (⟨q.prog, q.a, q.pc, q.written, q.live, q.ctl, q.pending, q.exit, q.halted, p2⟩ : GV).prog) (by simp)
      have h2 := h (.slot (⟨q.prog, q.a, q.pc, q.written, q.live, q.ctl, q.pending, q.exit, q.halted, p2⟩ : GV).written) (by simp)
      have h3 := h (.slot (⟨q.prog, q.a, q.pc, q.written, q.live, q.ctl, q.pending, q.exit, q.halted, p2⟩ : GV).live) (by simp)
      have h4 := h (.int (⟨q.prog, q.a, q.pc, q.written, q.live, q.ctl, q.pending, q.exit, q.halted, p2⟩ : GV).seen) (by simp)
      exact ⟨Own.rd h1 ins_len, Own.rd h2 slot_len, Own.rd h3 slot_len, Own.rd h4 int_len⟩
    · have H2 : Hp W0 _ [.ins (⟨q.prog, q.a, q.pc, q.written, q.live, q.ctl, q.pending, q.exit, q.halted, p2⟩ : GV).prog, .slot (⟨q.prog, q.a, q.pc, q.written, q.live, q.ctl, q.pending, q.exit, q.halted, p2⟩ : GV).written, .slot (⟨q.prog, q.a, q.pc, q.written, q.live, q.ctl, q.pending, q.exit, q.halted, p2⟩ : GV).live, .int (⟨q.prog, q.a, q.pc, q.written, q.live, q.ctl, q.pending, q.exit, q.halted, p2⟩ : GV).seen, .gst d] := H.pick (.cons (by repeat (first | exact Take.head | apply Take.tail)) (.cons (by repeat (first | exact Take.head | apply Take.tail)) (.cons (by repeat (first | exact Take.head | apply Take.tail)) (.cons (by repeat (first | exact Take.head | apply Take.tail)) (.cons (by repeat (first | exact Take.head | apply Take.tail)) .nil)))))
      exact (Hp.close_all (l := [.ins (⟨q.prog, q.a, q.pc, q.written, q.live, q.ctl, q.pending, q.exit, q.halted, p2⟩ : GV).prog, .slot (⟨q.prog, q.a, q.pc, q.written, q.live, q.ctl, q.pending, q.exit, q.halted, p2⟩ : GV).written, .slot (⟨q.prog, q.a, q.pc, q.written, q.live, q.ctl, q.pending, q.exit, q.halted, p2⟩ : GV).live, .int (⟨q.prog, q.a, q.pc, q.written, q.live, q.ctl, q.pending, q.exit, q.halted, p2⟩ : GV).seen]) H2).pick (.cons (by repeat (first | exact Take.head | apply Take.tail)) (.cons (by repeat (first | exact Take.head | apply Take.tail)) .nil))
  · skip
    refine wp_cut (fun u a' w' => ∃ (_ : Unit), Hid True ∧ Hp W0 w' [.box bC 33 (garr d).toList, .box bD 33 (garr (⟨q.prog, q.a, q.pc, q.written, t, q.ctl, q.pending, q.exit, q.halted, q.seen⟩ : GV)).toList, .gst d, .ins (⟨q.prog, q.a, q.pc, q.written, t, q.ctl, q.pending, q.exit, q.halted, q.seen⟩ : GV).prog, .slot (⟨q.prog, q.a, q.pc, q.written, t, q.ctl, q.pending, q.exit, q.halted, q.seen⟩ : GV).written, .slot (⟨q.prog, q.a, q.pc, q.written, t, q.ctl, q.pending, q.exit, q.halted, q.seen⟩ : GV).live, .int (⟨q.prog, q.a, q.pc, q.written, t, q.ctl, q.pending, q.exit, q.halted, q.seen⟩ : GV).seen] ∧ a' = puts u [(33, d.val), (34, (⟨q.prog, q.a, q.pc, q.written, t, q.ctl, q.pending, q.exit, q.halted, q.seen⟩ : GV).val)]) ?_ ?_
    · refine wp_region_held (S := (fun w' => Rw w' bX 33 (garr d) ∧ Rw w' bY 33 (garr (⟨q.prog, q.a, q.pc, q.written, t, q.ctl, q.pending, q.exit, q.halted, q.seen⟩ : GV)))) (by kernel_rfl) ?_
      replace H := H.drew
      refine takeH (i := 0) rfl .here (by kernel_rfl) (by kernel_rfl) (by kernel_rfl) (fun _ _ _ h => absurd h.1 (by simp)) (yields_loads_R rfl rfl rfl (fun _ hS => hS.1) (by repeat (first | exact GetsAt.nil | apply GetsAt.here | apply GetsAt.there))) ⟨H.rw_ (by repeat (first | exact Take.head | apply Take.tail)), H.rw_ (by repeat (first | exact Take.head | apply Take.tail))⟩ ?_
      (try simp only [Act.put, List.setIfInBounds_toArray, List.set_cons_succ, List.set_cons_zero])
      refine takeH (i := 1) rfl (.there .here) (by kernel_rfl) (by kernel_rfl) (by kernel_rfl) (fun _ _ _ h => absurd h.1 (by simp)) (yields_loads_R rfl rfl rfl (fun _ hS => hS.2) (by repeat (first | exact GetsAt.nil | apply GetsAt.here | apply GetsAt.there))) ⟨H.rw_ (by repeat (first | exact Take.head | apply Take.tail)), H.rw_ (by repeat (first | exact Take.head | apply Take.tail))⟩ ?_
      (try simp only [Act.put, List.setIfInBounds_toArray, List.set_cons_succ, List.set_cons_zero])
      refine anyH_1 (i := 2) (by kernel_rfl) ?_
      refine wpOp_at rfl (.there (.there .here)) rfl ?_
      refine wp_store_H rfl H rfl rfl (by repeat (first | (apply StoreAt.here; (first | exact CellsOf.agg | exact CellsOf.int | exact CellsOf.bool | exact CellsOf.slice | exact CellsOf.string | exact CellsOf.pointer | exact CellsOf.func); (repeat (first | exact SetsAt.nil | apply SetsAt.here | apply SetsAt.there)); exact rfl; exact rfl) | apply StoreAt.there)) ?_
      clear H
      intro w H
      refine ⟨⟨H.rw_ (by repeat (first | exact Take.head | apply Take.tail)), H.rw_ (by repeat (first | exact Take.head | apply Take.tail))⟩, ?_⟩
      (try simp only [Act.put, List.setIfInBounds_toArray, List.set_cons_succ, List.set_cons_zero])
      refine anyH_1 (i := 3) (by kernel_rfl) ?_
      refine wpOp_at rfl (.there (.there (.there .here))) rfl ?_
      refine wp_store_H rfl H rfl rfl (by repeat (first | (apply StoreAt.here; (first | exact CellsOf.agg | exact CellsOf.int | exact CellsOf.bool | exact CellsOf.slice | exact CellsOf.string | exact CellsOf.pointer | exact CellsOf.func); (repeat (first | exact SetsAt.nil | apply SetsAt.here | apply SetsAt.there)); exact rfl; exact rfl) | apply StoreAt.there)) ?_
      clear H
      intro w H
      refine ⟨⟨H.rw_ (by repeat (first | exact Take.head | apply Take.tail)), H.rw_ (by repeat (first | exact Take.head | apply Take.tail))⟩, ?_⟩
      (try simp only [Act.put, List.setIfInBounds_toArray, List.set_cons_succ, List.set_cons_zero])
      refine wpAnyH_done (by kernel_rfl) ?_ _
      exact ⟨rfl, (), Lib.hid trivial, H.pick (.cons (by repeat (first | exact Take.head | apply Take.tail)) (.cons (by repeat (first | exact Take.head | apply Take.tail)) (.cons (by repeat (first | exact Take.head | apply Take.tail)) (.cons (by repeat (first | exact Take.head | apply Take.tail)) (.cons (by repeat (first | exact Take.head | apply Take.tail)) (.cons (by repeat (first | exact Take.head | apply Take.tail)) (.cons (by repeat (first | exact Take.head | apply Take.tail)) .nil))))))), by first | (simp only [puts_cons, puts_nil, Act.put, List.setIfInBounds_toArray, List.set_cons_succ, List.set_cons_zero]; done) | (simp only [puts_cons, puts_nil, Act.put, List.setIfInBounds_toArray, List.set_cons_succ, List.set_cons_zero]; rfl)⟩
    clear H
    rintro u w ⟨_, _, H, rfl⟩
    simp only [puts_cons, puts_nil, Act.put, List.setIfInBounds_toArray, List.set_cons_succ, List.set_cons_zero]
    go_wp2_with (first
      | go_skip
      | ((with_reducible refine at_box ?_); first | (refine wpList_box_H rfl rfl H rfl (by first | exact CellsOf.agg | exact CellsOf.int | exact CellsOf.bool | exact CellsOf.slice | exact CellsOf.string | exact CellsOf.pointer | exact CellsOf.func) ?_; clear H; intro b w H))
      | ((with_reducible refine at_alloc ?_); first | (refine wpList_alloc_H rfl rfl H ?_; clear H; intro bG w H))
      | ((with_reducible refine at_load ?_); first | (refine wpList_load_H rfl rfl H rfl (by repeat (first | exact LoadAt.here rfl | apply LoadAt.there)) ?_) | (refine wpList_loads_H rfl rfl H rfl (by repeat (first | (apply LoadsAt.here; repeat (first | exact GetsAt.nil | apply GetsAt.here | apply GetsAt.there)) | apply LoadsAt.there)) ?_))
      | ((with_reducible refine at_store ?_); first | (refine wpList_store_H rfl rfl H rfl rfl (by repeat (first | (apply StoreAt.here; (first | exact CellsOf.agg | exact CellsOf.int | exact CellsOf.bool | exact CellsOf.slice | exact CellsOf.string | exact CellsOf.pointer | exact CellsOf.func); (repeat (first | exact SetsAt.nil | apply SetsAt.here | apply SetsAt.there)); exact rfl; exact rfl) | apply StoreAt.there)) ?_; clear H; intro w H)))
    refine bodyPost_ret (results_HH rfl H rfl rfl (by repeat (first | (apply LoadsAt.here; repeat (first | exact GetsAt.nil | apply GetsAt.here | apply GetsAt.there)) | apply LoadsAt.there)) (by repeat (first | (apply LoadsAt.here; repeat (first | exact GetsAt.nil | apply GetsAt.here | apply GetsAt.there)) | apply LoadsAt.there))) rfl ?_
    refine ⟨d, (⟨q.prog, q.a, q.pc, q.written, t, q.ctl, q.pending, q.exit, q.halted, q.seen⟩ : GV), rfl, HS.out, .all [.ins (⟨q.prog, q.a, q.pc, q.written, t, q.ctl, q.pending, q.exit, q.halted, q.seen⟩ : GV).prog, .slot (⟨q.prog, q.a, q.pc, q.written, t, q.ctl, q.pending, q.exit, q.halted, q.seen⟩ : GV).written, .slot (⟨q.prog, q.a, q.pc, q.written, t, q.ctl, q.pending, q.exit, q.halted, q.seen⟩ : GV).live, .int (⟨q.prog, q.a, q.pc, q.written, t, q.ctl, q.pending, q.exit, q.halted, q.seen⟩ : GV).seen], fun w h => ?_, ?_⟩
    · have h1 := h (.ins (⟨q.prog, q.a, q.pc, q.written, t, q.ctl, q.pending, q.exit, q.halted, q.seen⟩ : GV).prog) (by simp)
      have h2 := h (.slot (⟨q.prog, q.a, q.pc, q.written, t, q.ctl, q.pending, q.exit, q.halted, q.seen⟩ : GV).written) (by simp)
      have h3 := h (.slot (⟨q.prog, q.a, q.pc, q.written, t, q.ctl, q.pending, q.exit, q.halted, q.seen⟩ : GV).live) (by simp)
      have h4 := h (.int (⟨q.prog, q.a, q.pc, q.written, t, q.ctl, q.pending, q.exit, q.halted, q.seen⟩ : GV).seen) (by simp)
      exact ⟨Own.rd h1 ins_len, Own.rd h2 slot_len, Own.rd h3 slot_len, Own.rd h4 int_len⟩
    · have H2 : Hp W0 _ [.ins (⟨q.prog, q.a, q.pc, q.written, t, q.ctl, q.pending, q.exit, q.halted, q.seen⟩ : GV).prog, .slot (⟨q.prog, q.a, q.pc, q.written, t, q.ctl, q.pending, q.exit, q.halted, q.seen⟩ : GV).written, .slot (⟨q.prog, q.a, q.pc, q.written, t, q.ctl, q.pending, q.exit, q.halted, q.seen⟩ : GV).live, .int (⟨q.prog, q.a, q.pc, q.written, t, q.ctl, q.pending, q.exit, q.halted, q.seen⟩ : GV).seen, .gst d] := H.pick (.cons (by repeat (first | exact Take.head | apply Take.tail)) (.cons (by repeat (first | exact Take.head | apply Take.tail)) (.cons (by repeat (first | exact Take.head | apply Take.tail)) (.cons (by repeat (first | exact Take.head | apply Take.tail)) (.cons (by repeat (first | exact Take.head | apply Take.tail)) .nil)))))
      exact (Hp.close_all (l := [.ins (⟨q.prog, q.a, q.pc, q.written, t, q.ctl, q.pending, q.exit, q.halted, q.seen⟩ : GV).prog, .slot (⟨q.prog, q.a, q.pc, q.written, t, q.ctl, q.pending, q.exit, q.halted, q.seen⟩ : GV).written, .slot (⟨q.prog, q.a, q.pc, q.written, t, q.ctl, q.pending, q.exit, q.halted, q.seen⟩ : GV).live, .int (⟨q.prog, q.a, q.pc, q.written, t, q.ctl, q.pending, q.exit, q.halted, q.seen⟩ : GV).seen]) H2).pick (.cons (by repeat (first | exact Take.head | apply Take.tail)) (.cons (by repeat (first | exact Take.head | apply Take.tail)) .nil))
  · skip
    refine wp_cut (fun u a' w' => ∃ (_ : Unit), Hid True ∧ Hp W0 w' [.box bC 33 (garr d).toList, .box bD 33 (garr (⟨q.prog, q.a, q.pc, q.written, q.live, q.ctl, q.pending, q.exit, q.halted, q.seen⟩ : GV)).toList, .gst d, .ins (⟨q.prog, q.a, q.pc, q.written, q.live, q.ctl, q.pending, q.exit, q.halted, q.seen⟩ : GV).prog, .slot (⟨q.prog, q.a, q.pc, q.written, q.live, q.ctl, q.pending, q.exit, q.halted, q.seen⟩ : GV).written, .slot (⟨q.prog, q.a, q.pc, q.written, q.live, q.ctl, q.pending, q.exit, q.halted, q.seen⟩ : GV).live, .int (⟨q.prog, q.a, q.pc, q.written, q.live, q.ctl, q.pending, q.exit, q.halted, q.seen⟩ : GV).seen] ∧ a' = puts u [(33, d.val), (34, (⟨q.prog, q.a, q.pc, q.written, q.live, q.ctl, q.pending, q.exit, q.halted, q.seen⟩ : GV).val)]) ?_ ?_
    · refine wp_region_held (S := (fun w' => Rw w' bX 33 (garr d) ∧ Rw w' bY 33 (garr (⟨q.prog, q.a, q.pc, q.written, q.live, q.ctl, q.pending, q.exit, q.halted, q.seen⟩ : GV)))) (by kernel_rfl) ?_
      replace H := H.drew
      refine takeH (i := 0) rfl .here (by kernel_rfl) (by kernel_rfl) (by kernel_rfl) (fun _ _ _ h => absurd h.1 (by simp)) (yields_loads_R rfl rfl rfl (fun _ hS => hS.1) (by repeat (first | exact GetsAt.nil | apply GetsAt.here | apply GetsAt.there))) ⟨H.rw_ (by repeat (first | exact Take.head | apply Take.tail)), H.rw_ (by repeat (first | exact Take.head | apply Take.tail))⟩ ?_
      (try simp only [Act.put, List.setIfInBounds_toArray, List.set_cons_succ, List.set_cons_zero])
      refine takeH (i := 1) rfl (.there .here) (by kernel_rfl) (by kernel_rfl) (by kernel_rfl) (fun _ _ _ h => absurd h.1 (by simp)) (yields_loads_R rfl rfl rfl (fun _ hS => hS.2) (by repeat (first | exact GetsAt.nil | apply GetsAt.here | apply GetsAt.there))) ⟨H.rw_ (by repeat (first | exact Take.head | apply Take.tail)), H.rw_ (by repeat (first | exact Take.head | apply Take.tail))⟩ ?_
      (try simp only [Act.put, List.setIfInBounds_toArray, List.set_cons_succ, List.set_cons_zero])
      refine anyH_1 (i := 2) (by kernel_rfl) ?_
      refine wpOp_at rfl (.there (.there .here)) rfl ?_
      refine wp_store_H rfl H rfl rfl (by repeat (first | (apply StoreAt.here; (first | exact CellsOf.agg | exact CellsOf.int | exact CellsOf.bool | exact CellsOf.slice | exact CellsOf.string | exact CellsOf.pointer | exact CellsOf.func); (repeat (first | exact SetsAt.nil | apply SetsAt.here | apply SetsAt.there)); exact rfl; exact rfl) | apply StoreAt.there)) ?_
      clear H
      intro w H
      refine ⟨⟨H.rw_ (by repeat (first | exact Take.head | apply Take.tail)), H.rw_ (by repeat (first | exact Take.head | apply Take.tail))⟩, ?_⟩
      (try simp only [Act.put, List.setIfInBounds_toArray, List.set_cons_succ, List.set_cons_zero])
      refine anyH_1 (i := 3) (by kernel_rfl) ?_
      refine wpOp_at rfl (.there (.there (.there .here))) rfl ?_
      refine wp_store_H rfl H rfl rfl (by repeat (first | (apply StoreAt.here; (first | exact CellsOf.agg | exact CellsOf.int | exact CellsOf.bool | exact CellsOf.slice | exact CellsOf.string | exact CellsOf.pointer | exact CellsOf.func); (repeat (first | exact SetsAt.nil | apply SetsAt.here | apply SetsAt.there)); exact rfl; exact rfl) | apply StoreAt.there)) ?_
      clear H
      intro w H
      refine ⟨⟨H.rw_ (by repeat (first | exact Take.head | apply Take.tail)), H.rw_ (by repeat (first | exact Take.head | apply Take.tail))⟩, ?_⟩
      (try simp only [Act.put, List.setIfInBounds_toArray, List.set_cons_succ, List.set_cons_zero])
      refine wpAnyH_done (by kernel_rfl) ?_ _
      exact ⟨rfl, (), Lib.hid trivial, H.pick (.cons (by repeat (first | exact Take.head | apply Take.tail)) (.cons (by repeat (first | exact Take.head | apply Take.tail)) (.cons (by repeat (first | exact Take.head | apply Take.tail)) (.cons (by repeat (first | exact Take.head | apply Take.tail)) (.cons (by repeat (first | exact Take.head | apply Take.tail)) (.cons (by repeat (first | exact Take.head | apply Take.tail)) (.cons (by repeat (first | exact Take.head | apply Take.tail)) .nil))))))), by first | (simp only [puts_cons, puts_nil, Act.put, List.setIfInBounds_toArray, List.set_cons_succ, List.set_cons_zero]; done) | (simp only [puts_cons, puts_nil, Act.put, List.setIfInBounds_toArray, List.set_cons_succ, List.set_cons_zero]; rfl)⟩
    clear H
    rintro u w ⟨_, _, H, rfl⟩
    simp only [puts_cons, puts_nil, Act.put, List.setIfInBounds_toArray, List.set_cons_succ, List.set_cons_zero]
    go_wp2_with (first
      | go_skip
      | ((with_reducible refine at_box ?_); first | (refine wpList_box_H rfl rfl H rfl (by first | exact CellsOf.agg | exact CellsOf.int | exact CellsOf.bool | exact CellsOf.slice | exact CellsOf.string | exact CellsOf.pointer | exact CellsOf.func) ?_; clear H; intro b w H))
      | ((with_reducible refine at_alloc ?_); first | (refine wpList_alloc_H rfl rfl H ?_; clear H; intro bG w H))
      | ((with_reducible refine at_load ?_); first | (refine wpList_load_H rfl rfl H rfl (by repeat (first | exact LoadAt.here rfl | apply LoadAt.there)) ?_) | (refine wpList_loads_H rfl rfl H rfl (by repeat (first | (apply LoadsAt.here; repeat (first | exact GetsAt.nil | apply GetsAt.here | apply GetsAt.there)) | apply LoadsAt.there)) ?_))
      | ((with_reducible refine at_store ?_); first | (refine wpList_store_H rfl rfl H rfl rfl (by repeat (first | (apply StoreAt.here; (first | exact CellsOf.agg | exact CellsOf.int | exact CellsOf.bool | exact CellsOf.slice | exact CellsOf.string | exact CellsOf.pointer | exact CellsOf.func); (repeat (first | exact SetsAt.nil | apply SetsAt.here | apply SetsAt.there)); exact rfl; exact rfl) | apply StoreAt.there)) ?_; clear H; intro w H)))
    refine bodyPost_ret (results_HH rfl H rfl rfl (by repeat (first | (apply LoadsAt.here; repeat (first | exact GetsAt.nil | apply GetsAt.here | apply GetsAt.there)) | apply LoadsAt.there)) (by repeat (first | (apply LoadsAt.here; repeat (first | exact GetsAt.nil | apply GetsAt.here | apply GetsAt.there)) | apply LoadsAt.there))) rfl ?_
    refine ⟨d, (⟨q.prog, q.a, q.pc, q.written, q.live, q.ctl, q.pending, q.exit, q.halted, q.seen⟩ : GV), rfl, HS.out, .all [.ins (⟨q.prog, q.a, q.pc, q.written, q.live, q.ctl, q.pending, q.exit, q.halted, q.seen⟩ : GV).prog, .slot (⟨q.prog, q.a, q.pc, q.written, q.live, q.ctl, q.pending, q.exit, q.halted, q.seen⟩ : GV).written, .slot (⟨q.prog, q.a, q.pc, q.written, q.live, q.ctl, q.pending, q.exit, q.halted, q.seen⟩ : GV).live, .int (⟨q.prog, q.a, q.pc, q.written, q.live, q.ctl, q.pending, q.exit, q.halted, q.seen⟩ : GV).seen], fun w h => ?_, ?_⟩
    · have h1 := h (.ins (⟨q.prog, q.a, q.pc, q.written, q.live, q.ctl, q.pending, q.exit, q.halted, q.seen⟩ : GV).prog) (by simp)
      have h2 := h (.slot (⟨q.prog, q.a, q.pc, q.written, q.live, q.ctl, q.pending, q.exit, q.halted, q.seen⟩ : GV).written) (by simp)
      have h3 := h (.slot (⟨q.prog, q.a, q.pc, q.written, q.live, q.ctl, q.pending, q.exit, q.halted, q.seen⟩ : GV).live) (by simp)
      have h4 := h (.int (⟨q.prog, q.a, q.pc, q.written, q.live, q.ctl, q.pending, q.exit, q.halted, q.seen⟩ : GV).seen) (by simp)
      exact ⟨Own.rd h1 ins_len, Own.rd h2 slot_len, Own.rd h3 slot_len, Own.rd h4 int_len⟩
    · have H2 : Hp W0 _ [.ins (⟨q.prog, q.a, q.pc, q.written, q.live, q.ctl, q.pending, q.exit, q.halted, q.seen⟩ : GV).prog, .slot (⟨q.prog, q.a, q.pc, q.written, q.live, q.ctl, q.pending, q.exit, q.halted, q.seen⟩ : GV).written, .slot (⟨q.prog, q.a, q.pc, q.written, q.live, q.ctl, q.pending, q.exit, q.halted, q.seen⟩ : GV).live, .int (⟨q.prog, q.a, q.pc, q.written, q.live, q.ctl, q.pending, q.exit, q.halted, q.seen⟩ : GV).seen, .gst d] := H.pick (.cons (by repeat (first | exact Take.head | apply Take.tail)) (.cons (by repeat (first | exact Take.head | apply Take.tail)) (.cons (by repeat (first | exact Take.head | apply Take.tail)) (.cons (by repeat (first | exact Take.head | apply Take.tail)) (.cons (by repeat (first | exact Take.head | apply Take.tail)) .nil)))))
      exact (Hp.close_all (l := [.ins (⟨q.prog, q.a, q.pc, q.written, q.live, q.ctl, q.pending, q.exit, q.halted, q.seen⟩ : GV).prog, .slot (⟨q.prog, q.a, q.pc, q.written, q.live, q.ctl, q.pending, q.exit, q.halted, q.seen⟩ : GV).written, .slot (⟨q.prog, q.a, q.pc, q.written, q.live, q.ctl, q.pending, q.exit, q.halted, q.seen⟩ : GV).live, .int (⟨q.prog, q.a, q.pc, q.written, q.live, q.ctl, q.pending, q.exit, q.halted, q.seen⟩ : GV).seen]) H2).pick (.cons (by repeat (first | exact Take.head | apply Take.tail)) (.cons (by repeat (first | exact Take.head | apply Take.tail)) .nil))
end Go.Proofs.Ytedjbholpdinkaa
