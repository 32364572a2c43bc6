/- Contracts of GuestNew, of the program and of the reference. No condition but that the argument lies in memory. -/
import Derived.Test.YtedjbholpdinkaaTn
namespace Go.Proofs.Ytedjbholpdinkaa
open Go.RowKit
def guestNewM (p : List Ins) : MG := ⟨p, 0, 0, [⟨-1, 0⟩, ⟨-1, 0⟩, ⟨-1, 0⟩, ⟨-1, 0⟩], [⟨-1, 0⟩, ⟨-1, 0⟩, ⟨-1, 0⟩, ⟨-1, 0⟩], ⟨0, 0, false⟩, 0, ⟨0, 0, false, 0⟩, false, []⟩
theorem Hp.nil_int {w0 w : World} {L : List En} (H : Hp w0 w L) : Hp w0 w (.int (Sl.nil Int) :: L) :=
  H.add (Below.refl _ _) (Own.none_ _) (by simp [En.sl, Sl.nil, Sl.blk]) (by simp [En.sl, Sl.nil, Sl.blk])
@[go_sem] theorem run_build_guest (A1 A2 A3 : Option Addr) (n1 n2 n3 c1 c2 c3 : Nat) (w : World) : (Instr.build 33 #[(0, .slice A1 n1 c1), (3, .slice A2 n2 c2), (4, .slice A3 n3 c3)]).run Try.prog w = .ok (.agg #[.slice A1 n1 c1, .int .i64 0, .int .i64 0, .slice A2 n2 c2, .slice A3 n3 c3, .int .i64 0, .int .i64 0, .bool false, .int .i64 0, .int .i64 0, .int .i64 0, .bool false, .int .i64 0, .bool false, .slice none 0 0]) w := by kernel_rfl
set_option linter.unusedSimpArgs false in
set_option linter.unusedVariables false in
set_option maxRecDepth 100000 in
set_option maxHeartbeats 4000000 in
theorem guestNew_c (p : Sl Ins) (W0 : World) (R : Rd Ins.cells 2 W0 p) (Z : p.xs.length ≤ 4194304) : Calls Try.prog 14 #[.slice p.A p.xs.length p.c] W0 fun e w' => ∃ d : GV, e = .returned d.val ∧ d.m = guestNewM p.xs ∧ Hp W0 w' [.gst d] := by
  have H := Hp.start W0
  have H := Hp.start W0
  go_enter Try.func14, Try.ntmps14
  go_wp2_with (first
    | go_skip
    | ((with_reducible refine at_box ?_); first | (refine wpList_box_H rfl rfl H rfl (by first | exact CellsOf.agg | exact CellsOf.int | exact CellsOf.bool | exact CellsOf.slice | exact CellsOf.string | exact CellsOf.pointer | exact CellsOf.func) ?_; clear H; intro bB w H))
    | ((with_reducible refine at_alloc ?_); first | (refine wpList_alloc_H rfl rfl H ?_; clear H; intro bG w H))
    | ((with_reducible refine at_load ?_); first | (refine wpList_load_H rfl rfl H rfl (by repeat (first | exact LoadAt.here rfl | apply LoadAt.there)) ?_) | (refine wpList_loads_H rfl rfl H rfl (by repeat (first | (apply LoadsAt.here; repeat (first | exact GetsAt.nil | apply GetsAt.here | apply GetsAt.there)) | apply LoadsAt.there)) ?_))
    | ((with_reducible refine at_store ?_); first | (refine wpList_store_H rfl rfl H rfl rfl (by repeat (first | (apply StoreAt.here; (first | exact CellsOf.agg | exact CellsOf.int | exact CellsOf.bool | exact CellsOf.slice | exact CellsOf.string | exact CellsOf.pointer | exact CellsOf.func); (repeat (first | exact SetsAt.nil | apply SetsAt.here | apply SetsAt.there)); exact rfl; exact rfl) | apply StoreAt.there)) ?_; clear H; intro w H))
    | (go_at_call 83; refine (copyProg_any p _ (R.at_ H) Z).mono ?_; rintro e w ⟨q, rfl, hq, ho, hb⟩; have HQ := Lib.hid hq; clear hq; replace H := H.add_sl ho hb; clear ho hb))
  go_at_call 84
  refine (tableNew_c _).mono ?_
  rintro e w ⟨wr, rfl, HX, K⟩
  have Hwr := Lib.hid HX; clear HX
  replace H := H.add_all K; clear K
  go_wp2_with (first
    | go_skip
    | ((with_reducible refine at_box ?_); first | (refine wpList_box_H rfl rfl H rfl (by first | exact CellsOf.agg | exact CellsOf.int | exact CellsOf.bool | exact CellsOf.slice | exact CellsOf.string | exact CellsOf.pointer | exact CellsOf.func) ?_; clear H; intro bB w H))
    | ((with_reducible refine at_alloc ?_); first | (refine wpList_alloc_H rfl rfl H ?_; clear H; intro bG w H))
    | ((with_reducible refine at_load ?_); first | (refine wpList_load_H rfl rfl H rfl (by repeat (first | exact LoadAt.here rfl | apply LoadAt.there)) ?_) | (refine wpList_loads_H rfl rfl H rfl (by repeat (first | (apply LoadsAt.here; repeat (first | exact GetsAt.nil | apply GetsAt.here | apply GetsAt.there)) | apply LoadsAt.there)) ?_))
    | ((with_reducible refine at_store ?_); first | (refine wpList_store_H rfl rfl H rfl rfl (by repeat (first | (apply StoreAt.here; (first | exact CellsOf.agg | exact CellsOf.int | exact CellsOf.bool | exact CellsOf.slice | exact CellsOf.string | exact CellsOf.pointer | exact CellsOf.func); (repeat (first | exact SetsAt.nil | apply SetsAt.here | apply SetsAt.there)); exact rfl; exact rfl) | apply StoreAt.there)) ?_; clear H; intro w H)))
  go_at_call 84
  refine (tableNew_c _).mono ?_
  rintro e w ⟨lv, rfl, HX, K⟩
  have Hlv := Lib.hid HX; clear HX
  replace H := H.add_all K; clear K
  go_wp2_with (first
    | go_skip
    | ((with_reducible refine at_box ?_); first | (refine wpList_box_H rfl rfl H rfl (by first | exact CellsOf.agg | exact CellsOf.int | exact CellsOf.bool | exact CellsOf.slice | exact CellsOf.string | exact CellsOf.pointer | exact CellsOf.func) ?_; clear H; intro bB w H))
    | ((with_reducible refine at_alloc ?_); first | (refine wpList_alloc_H rfl rfl H ?_; clear H; intro bG w H))
    | ((with_reducible refine at_load ?_); first | (refine wpList_load_H rfl rfl H rfl (by repeat (first | exact LoadAt.here rfl | apply LoadAt.there)) ?_) | (refine wpList_loads_H rfl rfl H rfl (by repeat (first | (apply LoadsAt.here; repeat (first | exact GetsAt.nil | apply GetsAt.here | apply GetsAt.there)) | apply LoadsAt.there)) ?_))
    | ((with_reducible refine at_store ?_); first | (refine wpList_store_H rfl rfl H rfl rfl (by repeat (first | (apply StoreAt.here; (first | exact CellsOf.agg | exact CellsOf.int | exact CellsOf.bool | exact CellsOf.slice | exact CellsOf.string | exact CellsOf.pointer | exact CellsOf.func); (repeat (first | exact SetsAt.nil | apply SetsAt.here | apply SetsAt.there)); exact rfl; exact rfl) | apply StoreAt.there)) ?_; clear H; intro w H)))
  replace H := H.nil_int
  refine bodyPost_ret (results_H rfl H rfl (by repeat (first | (apply LoadsAt.here; repeat (first | exact GetsAt.nil | apply GetsAt.here | apply GetsAt.there)) | apply LoadsAt.there))) rfl ⟨⟨q, 0, 0, wr, lv, ⟨0, 0, false⟩, 0, ⟨0, 0, false, 0⟩, false, Sl.nil Int⟩, rfl, ?_, (H.pick (M := [.ins q, .slot wr, .slot lv, .int (Sl.nil Int)]) (.cons (by repeat (first | exact Take.head | apply Take.tail)) (.cons (by repeat (first | exact Take.head | apply Take.tail)) (.cons (by repeat (first | exact Take.head | apply Take.tail)) (.cons (by repeat (first | exact Take.head | apply Take.tail)) .nil))))).guest 0 0 _ 0 _ false⟩
  show MG.mk q.xs 0 0 wr.xs lv.xs _ 0 _ false [] = _
  rw [HQ.out, Hwr.out, Hlv.out]; rfl
set_option linter.unusedSimpArgs false in
set_option linter.unusedVariables false in
set_option maxRecDepth 100000 in
set_option maxHeartbeats 4000000 in
theorem specGuestNew_c (p : Sl Ins) (W0 : World) (R : Rd Ins.cells 2 W0 p) (Z : p.xs.length ≤ 4194304) : Calls Try.prog 40 #[.slice p.A p.xs.length p.c] W0 fun e w' => ∃ d : GV, e = .returned d.val ∧ d.m = guestNewM p.xs ∧ Hp W0 w' [.gst d] := by
  have H := Hp.start W0
  have H := Hp.start W0
  go_enter Try.func40, Try.ntmps40
  go_wp2_with (first
    | go_skip
    | ((with_reducible refine at_box ?_); first | (refine wpList_box_H rfl rfl H rfl (by first | exact CellsOf.agg | exact CellsOf.int | exact CellsOf.bool | exact CellsOf.slice | exact CellsOf.string | exact CellsOf.pointer | exact CellsOf.func) ?_; clear H; intro bB w H))
    | ((with_reducible refine at_alloc ?_); first | (refine wpList_alloc_H rfl rfl H ?_; clear H; intro bG w H))
    | ((with_reducible refine at_load ?_); first | (refine wpList_load_H rfl rfl H rfl (by repeat (first | exact LoadAt.here rfl | apply LoadAt.there)) ?_) | (refine wpList_loads_H rfl rfl H rfl (by repeat (first | (apply LoadsAt.here; repeat (first | exact GetsAt.nil | apply GetsAt.here | apply GetsAt.there)) | apply LoadsAt.there)) ?_))
    | ((with_reducible refine at_store ?_); first | (refine wpList_store_H rfl rfl H rfl rfl (by repeat (first | (apply StoreAt.here; (first | exact CellsOf.agg | exact CellsOf.int | exact CellsOf.bool | exact CellsOf.slice | exact CellsOf.string | exact CellsOf.pointer | exact CellsOf.func); (repeat (first | exact SetsAt.nil | apply SetsAt.here | apply SetsAt.there)); exact rfl; exact rfl) | apply StoreAt.there)) ?_; clear H; intro w H))
    | ((with_reducible refine at_slice ?_); first | (refine wpList_nil_H rfl rfl H ?_; clear H; intro bn w H))
    | ((with_reducible refine at_append ?_); first | (refine wpList_append_H rfl rfl H (⟨some ⟨bn, 0, none⟩, 0, []⟩ : Sl Ins) p rfl rfl (by repeat (first | exact Take.head | apply Take.tail)) (R.at_ H) (by simp only [List.length_nil]; omega) (by decide) ?_; clear H; intro q w HQ H; replace HQ := nil_app HQ)))
  go_at_call 108
  refine (specTableNew_c _).mono ?_
  rintro e w ⟨wr, rfl, HX, K⟩
  have Hwr := Lib.hid HX; clear HX
  replace H := H.add_all K; clear K
  go_wp2_with (first
    | go_skip
    | ((with_reducible refine at_box ?_); first | (refine wpList_box_H rfl rfl H rfl (by first | exact CellsOf.agg | exact CellsOf.int | exact CellsOf.bool | exact CellsOf.slice | exact CellsOf.string | exact CellsOf.pointer | exact CellsOf.func) ?_; clear H; intro bB w H))
    | ((with_reducible refine at_alloc ?_); first | (refine wpList_alloc_H rfl rfl H ?_; clear H; intro bG w H))
    | ((with_reducible refine at_load ?_); first | (refine wpList_load_H rfl rfl H rfl (by repeat (first | exact LoadAt.here rfl | apply LoadAt.there)) ?_) | (refine wpList_loads_H rfl rfl H rfl (by repeat (first | (apply LoadsAt.here; repeat (first | exact GetsAt.nil | apply GetsAt.here | apply GetsAt.there)) | apply LoadsAt.there)) ?_))
    | ((with_reducible refine at_store ?_); first | (refine wpList_store_H rfl rfl H rfl rfl (by repeat (first | (apply StoreAt.here; (first | exact CellsOf.agg | exact CellsOf.int | exact CellsOf.bool | exact CellsOf.slice | exact CellsOf.string | exact CellsOf.pointer | exact CellsOf.func); (repeat (first | exact SetsAt.nil | apply SetsAt.here | apply SetsAt.there)); exact rfl; exact rfl) | apply StoreAt.there)) ?_; clear H; intro w H)))
  go_at_call 108
  refine (specTableNew_c _).mono ?_
  rintro e w ⟨lv, rfl, HX, K⟩
  have Hlv := Lib.hid HX; clear HX
  replace H := H.add_all K; clear K
  go_wp2_with (first
    | go_skip
    | ((with_reducible refine at_box ?_); first | (refine wpList_box_H rfl rfl H rfl (by first | exact CellsOf.agg | exact CellsOf.int | exact CellsOf.bool | exact CellsOf.slice | exact CellsOf.string | exact CellsOf.pointer | exact CellsOf.func) ?_; clear H; intro bB w H))
    | ((with_reducible refine at_alloc ?_); first | (refine wpList_alloc_H rfl rfl H ?_; clear H; intro bG w H))
    | ((with_reducible refine at_load ?_); first | (refine wpList_load_H rfl rfl H rfl (by repeat (first | exact LoadAt.here rfl | apply LoadAt.there)) ?_) | (refine wpList_loads_H rfl rfl H rfl (by repeat (first | (apply LoadsAt.here; repeat (first | exact GetsAt.nil | apply GetsAt.here | apply GetsAt.there)) | apply LoadsAt.there)) ?_))
    | ((with_reducible refine at_store ?_); first | (refine wpList_store_H rfl rfl H rfl rfl (by repeat (first | (apply StoreAt.here; (first | exact CellsOf.agg | exact CellsOf.int | exact CellsOf.bool | exact CellsOf.slice | exact CellsOf.string | exact CellsOf.pointer | exact CellsOf.func); (repeat (first | exact SetsAt.nil | apply SetsAt.here | apply SetsAt.there)); exact rfl; exact rfl) | apply StoreAt.there)) ?_; clear H; intro w H)))
  replace H := H.nil_int
  refine bodyPost_ret (results_H rfl H rfl (by repeat (first | (apply LoadsAt.here; repeat (first | exact GetsAt.nil | apply GetsAt.here | apply GetsAt.there)) | apply LoadsAt.there))) rfl ⟨⟨q, 0, 0, wr, lv, ⟨0, 0, false⟩, 0, ⟨0, 0, false, 0⟩, false, Sl.nil Int⟩, rfl, ?_, (H.pick (M := [.ins q, .slot wr, .slot lv, .int (Sl.nil Int)]) (.cons (by repeat (first | exact Take.head | apply Take.tail)) (.cons (by repeat (first | exact Take.head | apply Take.tail)) (.cons (by repeat (first | exact Take.head | apply Take.tail)) (.cons (by repeat (first | exact Take.head | apply Take.tail)) .nil))))).guest 0 0 _ 0 _ false⟩
  show MG.mk q.xs 0 0 wr.xs lv.xs _ 0 _ false [] = _
  rw [HQ.out, Hwr.out, Hlv.out]; rfl
end Go.Proofs.Ytedjbholpdinkaa
