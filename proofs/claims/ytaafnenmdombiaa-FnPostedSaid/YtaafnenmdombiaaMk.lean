/- Contracts of the functions that make a guest out of a guest, of the program and of the reference: what they hand back lies in memory of its own and reads as said. No condition but that the argument lies in memory. -/
import Derived.Test.YtaafnenmdombiaaTy
import Derived.Test.YtaafnenmdombiaaCopy
import Derived.Test.YtaafnenmdombiaaGWant
namespace Go.Proofs.Ytaafnenmdombiaa
open Go.RowKit
instance eiIns : EI Try.prog 37 Ins.cells 2 16 36 := ⟨eIns⟩
instance eiSlot : EI Try.prog 50 Slot.cells 2 16 107 := ⟨eSlot⟩
instance eiInt : EI Try.prog 26 icell 1 8 3 := ⟨eInt⟩
/-- A new guest is handed back, in memory of its own. -/
def MkGc (w : World) (P : List Ins) (a pc : Int) (W V : List Slot) (ctl : Ctl) (pn : Int) (x : Exit) (hd : Bool) (S : List Int) (e : Ending) (w' : World) : Prop :=
  ∃ (p : Sl Ins) (wr lv : Sl Slot) (sn : Sl Int), e = .returned (.agg #[.slice p.A p.xs.length p.c, .int .i64 a, .int .i64 pc, .slice wr.A wr.xs.length wr.c, .slice lv.A lv.xs.length lv.c,
    .int .i64 ctl.traps, .int .i64 ctl.post, .bool ctl.opn, .int .i64 pn, .int .i64 x.kind, .int .i64 x.page, .bool x.write, .int .i64 x.n, .bool hd, .slice sn.A sn.xs.length sn.c]) ∧
    p.xs = P ∧ wr.xs = W ∧ lv.xs = V ∧ sn.xs = S ∧ GOwn w' w.heap.size ⟨p, a, pc, wr, lv, ctl, pn, x, hd, sn⟩ ∧ Below w.heap.size w w'
def MkG (w : World) (m : MG) (e : Ending) (w' : World) : Prop := MkGc w m.prog m.a m.pc m.written m.live m.ctl m.pending m.exit m.halted m.seen e w'
theorem MkGc.val {w w' : World} {m : MG} {e : Ending} (h : MkG w m e w') : ∃ d : GV, e = .returned d.val ∧ d.m = m ∧ GOwn w' w.heap.size d ∧ Below w.heap.size w w' := by
  obtain ⟨p, wr, lv, sn, rfl, h1, h2, h3, h4, ho, hb⟩ := h
  exact ⟨_, rfl, by simp only [GV.m, h1, h2, h3, h4], ho, hb⟩
def MBig (m : MG) : Prop := m.prog.length ≤ big ∧ m.written.length ≤ big ∧ m.live.length ≤ big ∧ m.seen.length ≤ big
theorem GBig.m {g : GV} (h : GBig g) : MBig g.m := h
set_option maxRecDepth 100000 in
set_option maxHeartbeats 2000000 in
theorem copyGuest_c (g : GV) (w : World) (hg : GRd w g) (hz : GBig g) :
    Calls Try.prog 84 #[g.val] w (MkGc w g.prog.xs g.a g.pc g.written.xs g.live.xs g.ctl g.pending g.exit g.halted g.seen.xs) := by
  obtain ⟨R1, R2, R3, R4⟩ := id hg
  obtain ⟨Z1, Z2, Z3, Z4⟩ := id hz
  simp only [big] at Z1 Z2 Z3 Z4
  have H := Hp.start w
  go_enter Try.func84, Try.ntmps84
  go_wp2_with (first
    | (refine wpList_box_H rfl rfl H rfl (by first | exact CellsOf.agg | exact CellsOf.int | exact CellsOf.bool | exact CellsOf.slice | exact CellsOf.string | exact CellsOf.pointer | exact CellsOf.func) ?_; clear H; intro b w H)
    | (refine wpList_alloc_H rfl rfl H ?_; clear H; intro b w H)
    | (refine wpList_load_H rfl rfl H rfl (by repeat (first | exact LoadAt.here rfl | apply LoadAt.there)) ?_)
    | (refine wpList_loads_H rfl rfl H rfl (by repeat (first | (apply LoadsAt.here; repeat (first | exact GetsAt.nil | apply GetsAt.here | apply GetsAt.there)) | apply LoadsAt.there)) ?_)
    | (refine wpList_store_H rfl rfl H rfl rfl (by repeat (first | (apply StoreAt.here; (first | exact CellsOf.agg | exact CellsOf.int | exact CellsOf.bool | exact CellsOf.slice | exact CellsOf.string | exact CellsOf.pointer | exact CellsOf.func); (repeat (first | exact SetsAt.nil | apply SetsAt.here | apply SetsAt.there)); exact rfl; exact rfl) | apply StoreAt.there)) ?_; clear H; intro w H)
    | (go_at_call 106; ((with_reducible refine (copyProg_any g.prog _ (R1.at_ H) Z1).mono ?_)); rintro e w ⟨p1, rfl, hx, ho, hb⟩; have h1 := Lib.hid hx; clear hx; replace H := H.add_sl ho hb; clear ho hb)
    | (go_at_call 107; ((with_reducible refine (copyTable_any g.written _ (R2.at_ H) Z2).mono ?_)); rintro e w ⟨p2, rfl, hx, ho, hb⟩; have h2 := Lib.hid hx; clear hx; replace H := H.add_sl ho hb; clear ho hb)
    | (go_at_call 107; ((with_reducible refine (copyTable_any g.live _ (R3.at_ H) Z3).mono ?_)); rintro e w ⟨p3, rfl, hx, ho, hb⟩; have h3 := Lib.hid hx; clear hx; replace H := H.add_sl ho hb; clear ho hb)
    | (go_at_call 56; ((with_reducible refine (copyInts_any g.seen _ (R4.at_ H) Z4).mono ?_)); rintro e w ⟨p4, rfl, hx, ho, hb⟩; have h4 := Lib.hid hx; clear hx; replace H := H.add_sl ho hb; clear ho hb))
  refine bodyPost_ret (results_H rfl H rfl (by repeat (first | (apply LoadsAt.here; repeat (first | exact GetsAt.nil | apply GetsAt.here | apply GetsAt.there)) | apply LoadsAt.there))) rfl ⟨p1, p2, p3, p4, rfl, h1.out, h2.out, h3.out, h4.out, (H.gret (by repeat (first | exact Take.head | apply Take.tail)) (by repeat (first | exact Take.head | apply Take.tail)) (by repeat (first | exact Take.head | apply Take.tail)) (by repeat (first | exact Take.head | apply Take.tail))), H.below⟩
set_option maxRecDepth 100000 in
set_option maxHeartbeats 2000000 in
theorem l15Copy_c (g : GV) (w : World) (hg : GRd w g) (hz : GBig g) :
    Calls Try.prog 89 #[g.val] w (MkGc w g.prog.xs g.a g.pc g.written.xs g.live.xs g.ctl g.pending g.exit g.halted g.seen.xs) := by
  obtain ⟨R1, R2, R3, R4⟩ := id hg
  obtain ⟨Z1, Z2, Z3, Z4⟩ := id hz
  simp only [big] at Z1 Z2 Z3 Z4
  have H := Hp.start w
  go_enter Try.func89, Try.ntmps89
  go_wp2_with (first
    | (refine wpList_box_H rfl rfl H rfl (by first | exact CellsOf.agg | exact CellsOf.int | exact CellsOf.bool | exact CellsOf.slice | exact CellsOf.string | exact CellsOf.pointer | exact CellsOf.func) ?_; clear H; intro b w H)
    | (refine wpList_alloc_H rfl rfl H ?_; clear H; intro b w H)
    | (refine wpList_load_H rfl rfl H rfl (by repeat (first | exact LoadAt.here rfl | apply LoadAt.there)) ?_)
    | (refine wpList_loads_H rfl rfl H rfl (by repeat (first | (apply LoadsAt.here; repeat (first | exact GetsAt.nil | apply GetsAt.here | apply GetsAt.there)) | apply LoadsAt.there)) ?_)
    | (refine wpList_store_H rfl rfl H rfl rfl (by repeat (first | (apply StoreAt.here; (first | exact CellsOf.agg | exact CellsOf.int | exact CellsOf.bool | exact CellsOf.slice | exact CellsOf.string | exact CellsOf.pointer | exact CellsOf.func); (repeat (first | exact SetsAt.nil | apply SetsAt.here | apply SetsAt.there)); exact rfl; exact rfl) | apply StoreAt.there)) ?_; clear H; intro w H)
    | (refine wpList_nil_H rfl rfl H ?_; clear H; intro b w H)
    | (refine wpList_append_H rfl rfl H ⟨_, 0, []⟩ g.prog rfl rfl (by repeat (first | exact Take.head | apply Take.tail)) (R1.at_ H) (by simp only [List.length_nil]; omega) (by decide) ?_; clear H; intro p1 w h1 H)
    | (refine wpList_append_H rfl rfl H ⟨_, 0, []⟩ g.written rfl rfl (by repeat (first | exact Take.head | apply Take.tail)) (R2.at_ H) (by simp only [List.length_nil]; omega) (by decide) ?_; clear H; intro p2 w h2 H)
    | (refine wpList_append_H rfl rfl H ⟨_, 0, []⟩ g.live rfl rfl (by repeat (first | exact Take.head | apply Take.tail)) (R3.at_ H) (by simp only [List.length_nil]; omega) (by decide) ?_; clear H; intro p3 w h3 H)
    | (refine wpList_append_H rfl rfl H ⟨_, 0, []⟩ g.seen rfl rfl (by repeat (first | exact Take.head | apply Take.tail)) (R4.at_ H) (by simp only [List.length_nil]; omega) (by decide) ?_; clear H; intro p4 w h4 H))
  refine bodyPost_ret (results_H rfl H rfl (by repeat (first | (apply LoadsAt.here; repeat (first | exact GetsAt.nil | apply GetsAt.here | apply GetsAt.there)) | apply LoadsAt.there))) rfl ⟨p1, p2, p3, p4, rfl, by simpa using h1.out, by simpa using h2.out, by simpa using h3.out, by simpa using h4.out, (H.gret (by repeat (first | exact Take.head | apply Take.tail)) (by repeat (first | exact Take.head | apply Take.tail)) (by repeat (first | exact Take.head | apply Take.tail)) (by repeat (first | exact Take.head | apply Take.tail))), H.below⟩
end Go.Proofs.Ytaafnenmdombiaa
