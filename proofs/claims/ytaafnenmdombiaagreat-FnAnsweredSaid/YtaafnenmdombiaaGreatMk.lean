/- Contracts of the functions that make a guest out of a guest, of the program and of the reference: what they hand back lies in memory of its own and reads as said. No condition but that the argument lies in memory. -/
import Derived.Test.YtaafnenmdombiaaGreatTy
import Derived.Test.YtaafnenmdombiaaGreatCopy
import Derived.Test.YtaafnenmdombiaaGreatGWant
namespace Go.Proofs.YtaafnenmdombiaaGreat
open Go.RowKit
instance eiIns : EI Tryz.prog 46 Ins.cells 2 16 45 := ⟨eIns⟩
instance eiSlot : EI Tryz.prog 49 Slot.cells 2 16 56 := ⟨eSlot⟩
instance eiInt : EI Tryz.prog 26 icell 1 8 3 := ⟨eInt⟩
/-- A new guest is handed back, in memory of its own. -/
def MkGc (w : World) (P : List Ins) (a pc : Int) (W V : List Slot) (ctl : Ctl) (pn : Int) (x : Exit) (hd : Bool) (S : List Int) (e : Ending) (w' : World) : Prop :=
  ∃ (p : Sl Ins) (wr lv : Sl Slot) (sn : Sl Int), e = .returned (.agg #[.slice p.A p.xs.length p.c, .int .i64 a, .int .i64 pc, .slice wr.A wr.xs.length wr.c, .slice lv.A lv.xs.length lv.c,
    .int .i64 ctl.traps, .int .i64 ctl.post, .bool ctl.opn, .int .i64 pn, .int .i64 x.kind, .int .i64 x.page, .bool x.write, .int .i64 x.n, .bool hd, .slice sn.A sn.xs.length sn.c]) ∧
    p.xs = P ∧ wr.xs = W ∧ lv.xs = V ∧ sn.xs = S ∧ GOwn w' w.heap.size ⟨p, a, pc, wr, lv, ctl, pn, x, hd, sn⟩ ∧ Below w.heap.size w w'
def MkG (w : World) (m : MG) (e : Ending) (w' : World) : Prop := MkGc w m.prog m.a m.pc m.written m.live m.ctl m.pending m.exit m.halted m.seen e w'
theorem MkGc.val {w w' : World} {m : MG} {e : Ending} (h : MkG w m e w') : ∃ d : GV, e = .returned d.val ∧ d.m = m ∧ GOwn w' w.heap.size d ∧ Below w.heap.size w w' := by
  obtain ⟨p, wr, lv, sn, rfl, h1, h2, h3, h4, ho, hb⟩ := h
  exact ⟨_, rfl, by simp only [GV.m, h1, h2, h3, h4], ho, hb⟩
/-- A guest of the call's own, out of plain data and the places of its slices. -/
abbrev gvOf (m : MG) (p : Sl Ins) (wr lv : Sl Slot) (sn : Sl Int) : GV := ⟨p, m.a, m.pc, wr, lv, m.ctl, m.pending, m.exit, m.halted, sn⟩
theorem gvOf_m {m : MG} {p : Sl Ins} {wr lv : Sl Slot} {sn : Sl Int} (h1 : p.xs = m.prog) (h2 : wr.xs = m.written) (h3 : lv.xs = m.live) (h4 : sn.xs = m.seen) : (gvOf m p wr lv sn).m = m := by
  simp only [GV.m, h1, h2, h3, h4]
def MBig (m : MG) : Prop := m.prog.length ≤ big ∧ m.written.length ≤ big ∧ m.live.length ≤ big ∧ m.seen.length ≤ big
theorem gbig_mk {g : GV} (h1 : g.prog.xs.length ≤ 4194304) (h2 : g.written.xs.length ≤ 4194304) (h3 : g.live.xs.length ≤ 4194304) (h4 : g.seen.xs.length ≤ 4194304) : GBig g := ⟨h1, h2, h3, h4⟩
theorem GBig.m {g : GV} (h : GBig g) : MBig g.m := h
theorem gvOf_big {m : MG} {p : Sl Ins} {wr lv : Sl Slot} {sn : Sl Int} (h1 : p.xs = m.prog) (h2 : wr.xs = m.written) (h3 : lv.xs = m.live) (h4 : sn.xs = m.seen) (h : MBig m) : GBig (gvOf m p wr lv sn) := by
  unfold GBig; simp only [h1, h2, h3, h4]; exact h
def stoppedM (g : MG) (x : Exit) : MG := { g with exit := x }
def movedM (g : MG) : MG := { g with pc := if 12 ≤ g.pc then 12 else wrap64 (g.pc + 1) }
def heldM (g : MG) : MG := movedM { g with halted := true }
def sawM (g : MG) (n : Int) : MG := if g.seen.length < 40 then { g with seen := g.seen ++ [n] } else g
def loadedM (g : MG) (v : Int) : MG := movedM (sawM { g with a := v } v)
def interruptedM (g : MG) : MG := if takesM g then sawM { g with pending := tookI g.pending } (100 + topI g.pending) else g
def plainlyM (g : MG) : MG :=
  if wantM g = 2 then
    if inB g.a 0 99 && inB (insAtM g.prog g.pc).x 0 99 then
      if (insAtM g.prog g.pc).op = 1 then { movedM g with a := (insAtM g.prog g.pc).x }
      else if (insAtM g.prog g.pc).op = 2 then { movedM g with a := (g.a + (insAtM g.prog g.pc).x) % 100 }
      else if (insAtM g.prog g.pc).op = 8 ∧ g.a = 0 then { g with pc := (insAtM g.prog g.pc).x }
      else movedM g
    else movedM g
  else g
theorem sawM_big {m : MG} (h : MBig m) (n : Int) : MBig (sawM m n) := by
  unfold sawM MBig at *
  unfold big at *
  split
  · exact ⟨h.1, h.2.1, h.2.2.1, by simp; omega⟩
  · exact h
theorem movedM_hi {g : MG} (h : 12 ≤ g.pc) : movedM g = { g with pc := 12 } := by unfold movedM; rw [if_pos h]
theorem movedM_lo {g : MG} (h : g.pc < 12) : movedM g = { g with pc := wrap64 (g.pc + 1) } := by unfold movedM; rw [if_neg (by omega)]
theorem sawM_lo {g : MG} (n : Int) (h : (g.seen.length : Int) < 40) : sawM g n = { g with seen := g.seen ++ [n] } := by unfold sawM; rw [if_pos (by omega)]
theorem sawM_hi {g : MG} (n : Int) (h : 40 ≤ (g.seen.length : Int)) : sawM g n = g := by unfold sawM; rw [if_neg (by omega)]
theorem topI_bd (p : Int) : -1 ≤ topI p ∧ topI p ≤ 7 := by unfold topI; split <;> (repeat (first | omega | split))
set_option maxRecDepth 100000 in
set_option maxHeartbeats 2000000 in
theorem copyGuest_c (g : GV) (w : World) (hg : GRd w g) (hz : GBig g) :
    Calls Tryz.prog 148 #[g.val] w (MkGc w g.prog.xs g.a g.pc g.written.xs g.live.xs g.ctl g.pending g.exit g.halted g.seen.xs) := by
  obtain ⟨R1, R2, R3, R4⟩ := id hg
  obtain ⟨Z1, Z2, Z3, Z4⟩ := id hz
  simp only [big] at Z1 Z2 Z3 Z4
  have H := Hp.start w
  go_enter Tryz.func148, Tryz.ntmps148
  go_wp2_with (first
    | (refine wpList_box_H rfl rfl H rfl (by constructor) ?_; clear H; intro b w H)
    | (refine wpList_alloc_H rfl rfl H ?_; clear H; intro b w H)
    | (refine wpList_load_H rfl rfl H rfl (by repeat constructor) ?_)
    | (refine wpList_loads_H rfl rfl H rfl (by repeat constructor) ?_)
    | (refine wpList_store_H rfl rfl H rfl rfl (by repeat constructor) ?_; clear H; intro w H)
    | (go_at_call 198; ((with_reducible refine (copyProg_any g.prog _ (R1.at_ H) Z1).mono ?_)); rintro e w ⟨p1, rfl, hx, ho, hb⟩; have h1 := Lib.hid hx; clear hx; replace H := H.add_sl ho hb; clear ho hb)
    | (go_at_call 194; ((with_reducible refine (copyTable_any g.written _ (R2.at_ H) Z2).mono ?_)); rintro e w ⟨p2, rfl, hx, ho, hb⟩; have h2 := Lib.hid hx; clear hx; replace H := H.add_sl ho hb; clear ho hb)
    | (go_at_call 194; ((with_reducible refine (copyTable_any g.live _ (R3.at_ H) Z3).mono ?_)); rintro e w ⟨p3, rfl, hx, ho, hb⟩; have h3 := Lib.hid hx; clear hx; replace H := H.add_sl ho hb; clear ho hb)
    | (go_at_call 186; ((with_reducible refine (copyInts_any g.seen _ (R4.at_ H) Z4).mono ?_)); rintro e w ⟨p4, rfl, hx, ho, hb⟩; have h4 := Lib.hid hx; clear hx; replace H := H.add_sl ho hb; clear ho hb))
  refine bodyPost_ret (results_H rfl H rfl (by repeat constructor)) rfl ⟨p1, p2, p3, p4, rfl, h1.out, h2.out, h3.out, h4.out, (H.gret (by repeat constructor) (by repeat constructor) (by repeat constructor) (by repeat constructor)), H.below⟩
set_option maxRecDepth 100000 in
set_option maxHeartbeats 2000000 in
theorem l15Copy_c (g : GV) (w : World) (hg : GRd w g) (hz : GBig g) :
    Calls Tryz.prog 149 #[g.val] w (MkGc w g.prog.xs g.a g.pc g.written.xs g.live.xs g.ctl g.pending g.exit g.halted g.seen.xs) := by
  obtain ⟨R1, R2, R3, R4⟩ := id hg
  obtain ⟨Z1, Z2, Z3, Z4⟩ := id hz
  simp only [big] at Z1 Z2 Z3 Z4
  have H := Hp.start w
  go_enter Tryz.func149, Tryz.ntmps149
  go_wp2_with (first
    | (refine wpList_box_H rfl rfl H rfl (by constructor) ?_; clear H; intro b w H)
    | (refine wpList_alloc_H rfl rfl H ?_; clear H; intro b w H)
    | (refine wpList_load_H rfl rfl H rfl (by repeat constructor) ?_)
    | (refine wpList_loads_H rfl rfl H rfl (by repeat constructor) ?_)
    | (refine wpList_store_H rfl rfl H rfl rfl (by repeat constructor) ?_; clear H; intro w H)
    | (refine wpList_nil_H rfl rfl H ?_; clear H; intro b w H)
    | (refine wpList_append_H rfl rfl H ⟨_, 0, []⟩ g.prog rfl rfl (by repeat constructor) (R1.at_ H) (by simp only [List.length_nil]; omega) (by decide) ?_; clear H; intro p1 w h1 H)
    | (refine wpList_append_H rfl rfl H ⟨_, 0, []⟩ g.written rfl rfl (by repeat constructor) (R2.at_ H) (by simp only [List.length_nil]; omega) (by decide) ?_; clear H; intro p2 w h2 H)
    | (refine wpList_append_H rfl rfl H ⟨_, 0, []⟩ g.live rfl rfl (by repeat constructor) (R3.at_ H) (by simp only [List.length_nil]; omega) (by decide) ?_; clear H; intro p3 w h3 H)
    | (refine wpList_append_H rfl rfl H ⟨_, 0, []⟩ g.seen rfl rfl (by repeat constructor) (R4.at_ H) (by simp only [List.length_nil]; omega) (by decide) ?_; clear H; intro p4 w h4 H))
  refine bodyPost_ret (results_H rfl H rfl (by repeat constructor)) rfl ⟨p1, p2, p3, p4, rfl, by simpa using h1.out, by simpa using h2.out, by simpa using h3.out, by simpa using h4.out, (H.gret (by repeat constructor) (by repeat constructor) (by repeat constructor) (by repeat constructor)), H.below⟩
set_option maxRecDepth 100000 in
set_option maxHeartbeats 2000000 in
theorem stopped_c (g : GV) (x : Exit) (m : MG) (hm : m = stoppedM g.m x) (w : World) (hg : GRd w g) (hz : GBig g) :
    Calls Tryz.prog 75 #[g.val, x.val] w (MkG w m) := by
  obtain ⟨R1, R2, R3, R4⟩ := id hg
  obtain ⟨Z1, Z2, Z3, Z4⟩ := id hz
  simp only [big] at Z1 Z2 Z3 Z4
  have HM := Lib.hid hm; clear hm
  have H := Hp.start w
  go_enter Tryz.func75, Tryz.ntmps75
  go_wp2_with (first
    | (refine wpList_box_H rfl rfl H rfl (by constructor) ?_; clear H; intro b w H)
    | (refine wpList_alloc_H rfl rfl H ?_; clear H; intro b w H)
    | (refine wpList_load_H rfl rfl H rfl (by repeat constructor) ?_)
    | (refine wpList_loads_H rfl rfl H rfl (by repeat constructor) ?_)
    | (refine wpList_store_H rfl rfl H rfl rfl (by repeat constructor) ?_; clear H; intro w H)
    | (go_at_call 148; ((with_reducible refine (copyGuest_c g _ (hg.at_ H) hz).mono ?_)); rintro e w ⟨p1, r1, l1, n1, rfl, x1, x2, x3, x4, ho, hb⟩; have hp1 := Lib.hid x1; have hr1 := Lib.hid x2; have hl1 := Lib.hid x3; have hn1 := Lib.hid x4; clear x1 x2 x3 x4; replace H := (H.add_gst ho hb).slices; clear ho hb))
  all_goals refine bodyPost_ret (results_H rfl H rfl (by repeat constructor)) rfl ?_
  all_goals first
    | (rw [show m = stoppedM g.m x from HM.out.trans (rfl)]; exact ⟨p1, r1, l1, n1, rfl, hp1.out, hr1.out, hl1.out, hn1.out, (H.gret (by repeat constructor) (by repeat constructor) (by repeat constructor) (by repeat constructor)), H.below⟩)
set_option maxRecDepth 100000 in
set_option maxHeartbeats 2000000 in
theorem moved_c (g : GV) (m : MG) (hm : m = movedM g.m) (w : World) (hg : GRd w g) (hz : GBig g) :
    Calls Tryz.prog 74 #[g.val] w (MkG w m) := by
  obtain ⟨R1, R2, R3, R4⟩ := id hg
  obtain ⟨Z1, Z2, Z3, Z4⟩ := id hz
  simp only [big] at Z1 Z2 Z3 Z4
  have HM := Lib.hid hm; clear hm
  have H := Hp.start w
  go_enter Tryz.func74, Tryz.ntmps74
  go_wp2_with (first
    | (refine wpList_box_H rfl rfl H rfl (by constructor) ?_; clear H; intro b w H)
    | (refine wpList_alloc_H rfl rfl H ?_; clear H; intro b w H)
    | (refine wpList_load_H rfl rfl H rfl (by repeat constructor) ?_)
    | (refine wpList_loads_H rfl rfl H rfl (by repeat constructor) ?_)
    | (refine wpList_store_H rfl rfl H rfl rfl (by repeat constructor) ?_; clear H; intro w H)
    | (go_at_call 148; ((with_reducible refine (copyGuest_c g _ (hg.at_ H) hz).mono ?_)); rintro e w ⟨p1, r1, l1, n1, rfl, x1, x2, x3, x4, ho, hb⟩; have hp1 := Lib.hid x1; have hr1 := Lib.hid x2; have hl1 := Lib.hid x3; have hn1 := Lib.hid x4; clear x1 x2 x3 x4; replace H := (H.add_gst ho hb).slices; clear ho hb))
  all_goals refine bodyPost_ret (results_H rfl H rfl (by repeat constructor)) rfl ?_
  all_goals first
    | (rw [show m = { g.m with pc := 12 } from HM.out.trans (movedM_hi (by assumption))]; exact ⟨p1, r1, l1, n1, rfl, hp1.out, hr1.out, hl1.out, hn1.out, (H.gret (by repeat constructor) (by repeat constructor) (by repeat constructor) (by repeat constructor)), H.below⟩)
    | (rw [show m = { g.m with pc := wrap64 (g.pc + 1) } from HM.out.trans (movedM_lo (by assumption))]; exact ⟨p1, r1, l1, n1, rfl, hp1.out, hr1.out, hl1.out, hn1.out, (H.gret (by repeat constructor) (by repeat constructor) (by repeat constructor) (by repeat constructor)), H.below⟩)
set_option maxRecDepth 100000 in
set_option maxHeartbeats 2000000 in
theorem held_c (g : GV) (m : MG) (hm : m = heldM g.m) (w : World) (hg : GRd w g) (hz : GBig g) :
    Calls Tryz.prog 82 #[g.val] w (MkG w m) := by
  obtain ⟨R1, R2, R3, R4⟩ := id hg
  obtain ⟨Z1, Z2, Z3, Z4⟩ := id hz
  simp only [big] at Z1 Z2 Z3 Z4
  have HM := Lib.hid hm; clear hm
  have H := Hp.start w
  go_enter Tryz.func82, Tryz.ntmps82
  go_wp2_with (first
    | (refine wpList_box_H rfl rfl H rfl (by constructor) ?_; clear H; intro b w H)
    | (refine wpList_alloc_H rfl rfl H ?_; clear H; intro b w H)
    | (refine wpList_load_H rfl rfl H rfl (by repeat constructor) ?_)
    | (refine wpList_loads_H rfl rfl H rfl (by repeat constructor) ?_)
    | (refine wpList_store_H rfl rfl H rfl rfl (by repeat constructor) ?_; clear H; intro w H)
    | (go_at_call 74; refine (moved_c { g with halted := true } m HM.out _ ⟨R1.at_ H, R2.at_ H, R3.at_ H, R4.at_ H⟩ (gbig_mk Z1 Z2 Z3 Z4)).mono ?_; rintro e w ⟨p2, r2, l2, n2, rfl, x1, x2, x3, x4, ho, hb⟩; have hp2 := Lib.hid x1; have hr2 := Lib.hid x2; have hl2 := Lib.hid x3; have hn2 := Lib.hid x4; clear x1 x2 x3 x4; replace H := (H.add_gst ho hb).slices; clear ho hb))
  all_goals refine bodyPost_ret (results_H rfl H rfl (by repeat constructor)) rfl ?_
  all_goals first
    | (rw [show m = m from HM.out.trans (HM.out.symm)]; exact ⟨p2, r2, l2, n2, rfl, hp2.out, hr2.out, hl2.out, hn2.out, (H.gret (by repeat constructor) (by repeat constructor) (by repeat constructor) (by repeat constructor)), H.below⟩)
set_option maxRecDepth 100000 in
set_option maxHeartbeats 2000000 in
theorem stored_c (g : GV) (m : MG) (hm : m = movedM g.m) (w : World) (hg : GRd w g) (hz : GBig g) :
    Calls Tryz.prog 124 #[g.val] w (MkG w m) := by
  obtain ⟨R1, R2, R3, R4⟩ := id hg
  obtain ⟨Z1, Z2, Z3, Z4⟩ := id hz
  simp only [big] at Z1 Z2 Z3 Z4
  have HM := Lib.hid hm; clear hm
  have H := Hp.start w
  go_enter Tryz.func124, Tryz.ntmps124
  go_wp2_with (first
    | (refine wpList_box_H rfl rfl H rfl (by constructor) ?_; clear H; intro b w H)
    | (refine wpList_alloc_H rfl rfl H ?_; clear H; intro b w H)
    | (refine wpList_load_H rfl rfl H rfl (by repeat constructor) ?_)
    | (refine wpList_loads_H rfl rfl H rfl (by repeat constructor) ?_)
    | (refine wpList_store_H rfl rfl H rfl rfl (by repeat constructor) ?_; clear H; intro w H)
    | (go_at_call 74; refine (moved_c g m HM.out _ (hg.at_ H) hz).mono ?_; rintro e w ⟨p2, r2, l2, n2, rfl, x1, x2, x3, x4, ho, hb⟩; have hp2 := Lib.hid x1; have hr2 := Lib.hid x2; have hl2 := Lib.hid x3; have hn2 := Lib.hid x4; clear x1 x2 x3 x4; replace H := (H.add_gst ho hb).slices; clear ho hb))
  all_goals refine bodyPost_ret (results_H rfl H rfl (by repeat constructor)) rfl ?_
  all_goals first
    | (rw [show m = m from HM.out.trans (HM.out.symm)]; exact ⟨p2, r2, l2, n2, rfl, hp2.out, hr2.out, hl2.out, hn2.out, (H.gret (by repeat constructor) (by repeat constructor) (by repeat constructor) (by repeat constructor)), H.below⟩)
set_option maxRecDepth 100000 in
set_option maxHeartbeats 2000000 in
theorem saw_c (g : GV) (n : Int) (m : MG) (hm : m = sawM g.m n) (w : World) (hg : GRd w g) (hz : GBig g) :
    Calls Tryz.prog 188 #[g.val, .int .i64 n] w (MkG w m) := by
  obtain ⟨R1, R2, R3, R4⟩ := id hg
  obtain ⟨Z1, Z2, Z3, Z4⟩ := id hz
  simp only [big] at Z1 Z2 Z3 Z4
  have HM := Lib.hid hm; clear hm
  have H := Hp.start w
  go_enter Tryz.func188, Tryz.ntmps188
  go_wp2_with (first
    | (refine wpList_box_H rfl rfl H rfl (by constructor) ?_; clear H; intro b w H)
    | (refine wpList_alloc_H rfl rfl H ?_; clear H; intro b w H)
    | (refine wpList_load_H rfl rfl H rfl (by repeat constructor) ?_)
    | (refine wpList_loads_H rfl rfl H rfl (by repeat constructor) ?_)
    | (refine wpList_store_H rfl rfl H rfl rfl (by repeat constructor) ?_; clear H; intro w H)
    | (go_at_call 148; ((with_reducible refine (copyGuest_c g _ (hg.at_ H) hz).mono ?_)); rintro e w ⟨p1, r1, l1, n1, rfl, x1, x2, x3, x4, ho, hb⟩; have hp1 := Lib.hid x1; have hr1 := Lib.hid x2; have hl1 := Lib.hid x3; have hn1 := Lib.hid x4; clear x1 x2 x3 x4; replace H := (H.add_gst ho hb).slices; clear ho hb)
    | (refine wpList_lit_H rfl rfl H [n] (by kernel_rfl) rfl (by decide) (by decide) ?_; clear H; intro b w H)
    | (refine wpList_append_H rfl rfl H n1 ⟨_, 1, [n]⟩ rfl rfl (by repeat constructor) (H.rdI (s := ⟨_, 1, [n]⟩) (by repeat constructor)) (by rw [hn1.out]; simp only [List.length_cons, List.length_nil]; omega) (by decide) ?_; clear H; intro n2 w hn2 H))
  all_goals refine bodyPost_ret (results_H rfl H rfl (by repeat constructor)) rfl ?_
  all_goals first
    | (rw [show m = { g.m with seen := g.m.seen ++ [n] } from HM.out.trans (sawM_lo n (by first | assumption | (show ((g.seen.xs.length : Nat) : Int) < 40; rw [← hn1.out]; assumption)))]; exact ⟨p1, r1, l1, n2, rfl, hp1.out, hr1.out, hl1.out, by rw [hn2.out, hn1.out]; rfl, (H.gret (by repeat constructor) (by repeat constructor) (by repeat constructor) (by repeat constructor)), H.below⟩)
    | (rw [show m = g.m from HM.out.trans (sawM_hi n (by first | assumption | (show 40 ≤ ((g.seen.xs.length : Nat) : Int); rw [← hn1.out]; assumption)))]; exact ⟨p1, r1, l1, n1, rfl, hp1.out, hr1.out, hl1.out, hn1.out, (H.gret (by repeat constructor) (by repeat constructor) (by repeat constructor) (by repeat constructor)), H.below⟩)
set_option maxRecDepth 100000 in
set_option maxHeartbeats 2000000 in
theorem loaded_c (g : GV) (v : Int) (m : MG) (hm : m = loadedM g.m v) (w : World) (hg : GRd w g) (hz : GBig g) :
    Calls Tryz.prog 125 #[g.val, .int .i64 v] w (MkG w m) := by
  obtain ⟨R1, R2, R3, R4⟩ := id hg
  obtain ⟨Z1, Z2, Z3, Z4⟩ := id hz
  simp only [big] at Z1 Z2 Z3 Z4
  have HM := Lib.hid hm; clear hm
  obtain ⟨m1, h1⟩ : ∃ m1, m1 = sawM ({ g with a := v } : GV).m v := ⟨_, rfl⟩
  have H1 := Lib.hid h1; clear h1
  have H := Hp.start w
  go_enter Tryz.func125, Tryz.ntmps125
  go_wp2_with (first
    | (refine wpList_box_H rfl rfl H rfl (by constructor) ?_; clear H; intro b w H)
    | (refine wpList_alloc_H rfl rfl H ?_; clear H; intro b w H)
    | (refine wpList_load_H rfl rfl H rfl (by repeat constructor) ?_)
    | (refine wpList_loads_H rfl rfl H rfl (by repeat constructor) ?_)
    | (refine wpList_store_H rfl rfl H rfl rfl (by repeat constructor) ?_; clear H; intro w H)
    | (go_at_call 188; refine (saw_c { g with a := v } v m1 H1.out _ ⟨R1.at_ H, R2.at_ H, R3.at_ H, R4.at_ H⟩ (gbig_mk Z1 Z2 Z3 Z4)).mono ?_; rintro e w ⟨p1, r1, l1, n1, rfl, x1, x2, x3, x4, ho, hb⟩; have hp1 := Lib.hid x1; have hr1 := Lib.hid x2; have hl1 := Lib.hid x3; have hn1 := Lib.hid x4; clear x1 x2 x3 x4; replace H := (H.add_gst ho hb).slices; clear ho hb)
    | (go_at_call 74; refine (moved_c (gvOf m1 p1 r1 l1 n1) m (by rw [gvOf_m hp1.out hr1.out hl1.out hn1.out, H1.out]; exact HM.out) _ (H.grd (by repeat constructor) (by repeat constructor) (by repeat constructor) (by repeat constructor)) (gvOf_big hp1.out hr1.out hl1.out hn1.out (by rw [H1.out]; exact sawM_big (GBig.m (gbig_mk (g := { g with a := v }) Z1 Z2 Z3 Z4)) v))).mono ?_; rintro e w ⟨p2, r2, l2, n2, rfl, x1, x2, x3, x4, ho, hb⟩; have hp2 := Lib.hid x1; have hr2 := Lib.hid x2; have hl2 := Lib.hid x3; have hn2 := Lib.hid x4; clear x1 x2 x3 x4; replace H := (H.add_gst ho hb).slices; clear ho hb))
  all_goals refine bodyPost_ret (results_H rfl H rfl (by repeat constructor)) rfl ?_
  all_goals first
    | (rw [show m = m from HM.out.trans (HM.out.symm)]; exact ⟨p2, r2, l2, n2, rfl, hp2.out, hr2.out, hl2.out, hn2.out, (H.gret (by repeat constructor) (by repeat constructor) (by repeat constructor) (by repeat constructor)), H.below⟩)
set_option maxRecDepth 100000 in
set_option maxHeartbeats 2000000 in
theorem specStopped_c (g : GV) (x : Exit) (m : MG) (hm : m = stoppedM g.m x) (w : World) (hg : GRd w g) (hz : GBig g) :
    Calls Tryz.prog 80 #[g.val, x.val] w (MkG w m) := by
  obtain ⟨R1, R2, R3, R4⟩ := id hg
  obtain ⟨Z1, Z2, Z3, Z4⟩ := id hz
  simp only [big] at Z1 Z2 Z3 Z4
  have HM := Lib.hid hm; clear hm
  have H := Hp.start w
  go_enter Tryz.func80, Tryz.ntmps80
  go_wp2_with (first
    | (refine wpList_box_H rfl rfl H rfl (by constructor) ?_; clear H; intro b w H)
    | (refine wpList_alloc_H rfl rfl H ?_; clear H; intro b w H)
    | (refine wpList_load_H rfl rfl H rfl (by repeat constructor) ?_)
    | (refine wpList_loads_H rfl rfl H rfl (by repeat constructor) ?_)
    | (refine wpList_store_H rfl rfl H rfl rfl (by repeat constructor) ?_; clear H; intro w H)
    | (go_at_call 149; ((with_reducible refine (l15Copy_c g _ (hg.at_ H) hz).mono ?_)); rintro e w ⟨p1, r1, l1, n1, rfl, x1, x2, x3, x4, ho, hb⟩; have hp1 := Lib.hid x1; have hr1 := Lib.hid x2; have hl1 := Lib.hid x3; have hn1 := Lib.hid x4; clear x1 x2 x3 x4; replace H := (H.add_gst ho hb).slices; clear ho hb))
  all_goals refine bodyPost_ret (results_H rfl H rfl (by repeat constructor)) rfl ?_
  all_goals first
    | (rw [show m = stoppedM g.m x from HM.out.trans (rfl)]; exact ⟨p1, r1, l1, n1, rfl, hp1.out, hr1.out, hl1.out, hn1.out, (H.gret (by repeat constructor) (by repeat constructor) (by repeat constructor) (by repeat constructor)), H.below⟩)
set_option maxRecDepth 100000 in
set_option maxHeartbeats 2000000 in
theorem specMoved_c (g : GV) (m : MG) (hm : m = movedM g.m) (w : World) (hg : GRd w g) (hz : GBig g) :
    Calls Tryz.prog 79 #[g.val] w (MkG w m) := by
  obtain ⟨R1, R2, R3, R4⟩ := id hg
  obtain ⟨Z1, Z2, Z3, Z4⟩ := id hz
  simp only [big] at Z1 Z2 Z3 Z4
  have HM := Lib.hid hm; clear hm
  have H := Hp.start w
  go_enter Tryz.func79, Tryz.ntmps79
  go_wp2_with (first
    | (refine wpList_box_H rfl rfl H rfl (by constructor) ?_; clear H; intro b w H)
    | (refine wpList_alloc_H rfl rfl H ?_; clear H; intro b w H)
    | (refine wpList_load_H rfl rfl H rfl (by repeat constructor) ?_)
    | (refine wpList_loads_H rfl rfl H rfl (by repeat constructor) ?_)
    | (refine wpList_store_H rfl rfl H rfl rfl (by repeat constructor) ?_; clear H; intro w H)
    | (go_at_call 149; ((with_reducible refine (l15Copy_c g _ (hg.at_ H) hz).mono ?_)); rintro e w ⟨p1, r1, l1, n1, rfl, x1, x2, x3, x4, ho, hb⟩; have hp1 := Lib.hid x1; have hr1 := Lib.hid x2; have hl1 := Lib.hid x3; have hn1 := Lib.hid x4; clear x1 x2 x3 x4; replace H := (H.add_gst ho hb).slices; clear ho hb))
  all_goals refine bodyPost_ret (results_H rfl H rfl (by repeat constructor)) rfl ?_
  all_goals first
    | (rw [show m = { g.m with pc := 12 } from HM.out.trans (movedM_hi (by assumption))]; exact ⟨p1, r1, l1, n1, rfl, hp1.out, hr1.out, hl1.out, hn1.out, (H.gret (by repeat constructor) (by repeat constructor) (by repeat constructor) (by repeat constructor)), H.below⟩)
    | (rw [show m = { g.m with pc := wrap64 (g.pc + 1) } from HM.out.trans (movedM_lo (by assumption))]; exact ⟨p1, r1, l1, n1, rfl, hp1.out, hr1.out, hl1.out, hn1.out, (H.gret (by repeat constructor) (by repeat constructor) (by repeat constructor) (by repeat constructor)), H.below⟩)
set_option maxRecDepth 100000 in
set_option maxHeartbeats 2000000 in
theorem specHeld_c (g : GV) (m : MG) (hm : m = heldM g.m) (w : World) (hg : GRd w g) (hz : GBig g) :
    Calls Tryz.prog 83 #[g.val] w (MkG w m) := by
  obtain ⟨R1, R2, R3, R4⟩ := id hg
  obtain ⟨Z1, Z2, Z3, Z4⟩ := id hz
  simp only [big] at Z1 Z2 Z3 Z4
  have HM := Lib.hid hm; clear hm
  have H := Hp.start w
  go_enter Tryz.func83, Tryz.ntmps83
  go_wp2_with (first
    | (refine wpList_box_H rfl rfl H rfl (by constructor) ?_; clear H; intro b w H)
    | (refine wpList_alloc_H rfl rfl H ?_; clear H; intro b w H)
    | (refine wpList_load_H rfl rfl H rfl (by repeat constructor) ?_)
    | (refine wpList_loads_H rfl rfl H rfl (by repeat constructor) ?_)
    | (refine wpList_store_H rfl rfl H rfl rfl (by repeat constructor) ?_; clear H; intro w H)
    | (go_at_call 79; refine (specMoved_c { g with halted := true } m HM.out _ ⟨R1.at_ H, R2.at_ H, R3.at_ H, R4.at_ H⟩ (gbig_mk Z1 Z2 Z3 Z4)).mono ?_; rintro e w ⟨p2, r2, l2, n2, rfl, x1, x2, x3, x4, ho, hb⟩; have hp2 := Lib.hid x1; have hr2 := Lib.hid x2; have hl2 := Lib.hid x3; have hn2 := Lib.hid x4; clear x1 x2 x3 x4; replace H := (H.add_gst ho hb).slices; clear ho hb))
  all_goals refine bodyPost_ret (results_H rfl H rfl (by repeat constructor)) rfl ?_
  all_goals first
    | (rw [show m = m from HM.out.trans (HM.out.symm)]; exact ⟨p2, r2, l2, n2, rfl, hp2.out, hr2.out, hl2.out, hn2.out, (H.gret (by repeat constructor) (by repeat constructor) (by repeat constructor) (by repeat constructor)), H.below⟩)
set_option maxRecDepth 100000 in
set_option maxHeartbeats 2000000 in
theorem specStored_c (g : GV) (m : MG) (hm : m = movedM g.m) (w : World) (hg : GRd w g) (hz : GBig g) :
    Calls Tryz.prog 105 #[g.val] w (MkG w m) := by
  obtain ⟨R1, R2, R3, R4⟩ := id hg
  obtain ⟨Z1, Z2, Z3, Z4⟩ := id hz
  simp only [big] at Z1 Z2 Z3 Z4
  have HM := Lib.hid hm; clear hm
  have H := Hp.start w
  go_enter Tryz.func105, Tryz.ntmps105
  go_wp2_with (first
    | (refine wpList_box_H rfl rfl H rfl (by constructor) ?_; clear H; intro b w H)
    | (refine wpList_alloc_H rfl rfl H ?_; clear H; intro b w H)
    | (refine wpList_load_H rfl rfl H rfl (by repeat constructor) ?_)
    | (refine wpList_loads_H rfl rfl H rfl (by repeat constructor) ?_)
    | (refine wpList_store_H rfl rfl H rfl rfl (by repeat constructor) ?_; clear H; intro w H)
    | (go_at_call 79; refine (specMoved_c g m HM.out _ (hg.at_ H) hz).mono ?_; rintro e w ⟨p2, r2, l2, n2, rfl, x1, x2, x3, x4, ho, hb⟩; have hp2 := Lib.hid x1; have hr2 := Lib.hid x2; have hl2 := Lib.hid x3; have hn2 := Lib.hid x4; clear x1 x2 x3 x4; replace H := (H.add_gst ho hb).slices; clear ho hb))
  all_goals refine bodyPost_ret (results_H rfl H rfl (by repeat constructor)) rfl ?_
  all_goals first
    | (rw [show m = m from HM.out.trans (HM.out.symm)]; exact ⟨p2, r2, l2, n2, rfl, hp2.out, hr2.out, hl2.out, hn2.out, (H.gret (by repeat constructor) (by repeat constructor) (by repeat constructor) (by repeat constructor)), H.below⟩)
set_option maxRecDepth 100000 in
set_option maxHeartbeats 2000000 in
theorem specSaw_c (g : GV) (n : Int) (m : MG) (hm : m = sawM g.m n) (w : World) (hg : GRd w g) (hz : GBig g) :
    Calls Tryz.prog 177 #[g.val, .int .i64 n] w (MkG w m) := by
  obtain ⟨R1, R2, R3, R4⟩ := id hg
  obtain ⟨Z1, Z2, Z3, Z4⟩ := id hz
  simp only [big] at Z1 Z2 Z3 Z4
  have HM := Lib.hid hm; clear hm
  have H := Hp.start w
  go_enter Tryz.func177, Tryz.ntmps177
  go_wp2_with (first
    | (refine wpList_box_H rfl rfl H rfl (by constructor) ?_; clear H; intro b w H)
    | (refine wpList_alloc_H rfl rfl H ?_; clear H; intro b w H)
    | (refine wpList_load_H rfl rfl H rfl (by repeat constructor) ?_)
    | (refine wpList_loads_H rfl rfl H rfl (by repeat constructor) ?_)
    | (refine wpList_store_H rfl rfl H rfl rfl (by repeat constructor) ?_; clear H; intro w H)
    | (go_at_call 149; ((with_reducible refine (l15Copy_c g _ (hg.at_ H) hz).mono ?_)); rintro e w ⟨p1, r1, l1, n1, rfl, x1, x2, x3, x4, ho, hb⟩; have hp1 := Lib.hid x1; have hr1 := Lib.hid x2; have hl1 := Lib.hid x3; have hn1 := Lib.hid x4; clear x1 x2 x3 x4; replace H := (H.add_gst ho hb).slices; clear ho hb)
    | (refine wpList_lit_H rfl rfl H [n] (by kernel_rfl) rfl (by decide) (by decide) ?_; clear H; intro b w H)
    | (refine wpList_append_H rfl rfl H n1 ⟨_, 1, [n]⟩ rfl rfl (by repeat constructor) (H.rdI (s := ⟨_, 1, [n]⟩) (by repeat constructor)) (by rw [hn1.out]; simp only [List.length_cons, List.length_nil]; omega) (by decide) ?_; clear H; intro n2 w hn2 H))
  all_goals refine bodyPost_ret (results_H rfl H rfl (by repeat constructor)) rfl ?_
  all_goals first
    | (rw [show m = { g.m with seen := g.m.seen ++ [n] } from HM.out.trans (sawM_lo n (by first | assumption | (show ((g.seen.xs.length : Nat) : Int) < 40; rw [← hn1.out]; assumption)))]; exact ⟨p1, r1, l1, n2, rfl, hp1.out, hr1.out, hl1.out, by rw [hn2.out, hn1.out]; rfl, (H.gret (by repeat constructor) (by repeat constructor) (by repeat constructor) (by repeat constructor)), H.below⟩)
    | (rw [show m = g.m from HM.out.trans (sawM_hi n (by first | assumption | (show 40 ≤ ((g.seen.xs.length : Nat) : Int); rw [← hn1.out]; assumption)))]; exact ⟨p1, r1, l1, n1, rfl, hp1.out, hr1.out, hl1.out, hn1.out, (H.gret (by repeat constructor) (by repeat constructor) (by repeat constructor) (by repeat constructor)), H.below⟩)
set_option maxRecDepth 100000 in
set_option maxHeartbeats 2000000 in
theorem specLoaded_c (g : GV) (v : Int) (m : MG) (hm : m = loadedM g.m v) (w : World) (hg : GRd w g) (hz : GBig g) :
    Calls Tryz.prog 106 #[g.val, .int .i64 v] w (MkG w m) := by
  obtain ⟨R1, R2, R3, R4⟩ := id hg
  obtain ⟨Z1, Z2, Z3, Z4⟩ := id hz
  simp only [big] at Z1 Z2 Z3 Z4
  have HM := Lib.hid hm; clear hm
  obtain ⟨m1, h1⟩ : ∃ m1, m1 = sawM ({ g with a := v } : GV).m v := ⟨_, rfl⟩
  have H1 := Lib.hid h1; clear h1
  have H := Hp.start w
  go_enter Tryz.func106, Tryz.ntmps106
  go_wp2_with (first
    | (refine wpList_box_H rfl rfl H rfl (by constructor) ?_; clear H; intro b w H)
    | (refine wpList_alloc_H rfl rfl H ?_; clear H; intro b w H)
    | (refine wpList_load_H rfl rfl H rfl (by repeat constructor) ?_)
    | (refine wpList_loads_H rfl rfl H rfl (by repeat constructor) ?_)
    | (refine wpList_store_H rfl rfl H rfl rfl (by repeat constructor) ?_; clear H; intro w H)
    | (go_at_call 177; refine (specSaw_c { g with a := v } v m1 H1.out _ ⟨R1.at_ H, R2.at_ H, R3.at_ H, R4.at_ H⟩ (gbig_mk Z1 Z2 Z3 Z4)).mono ?_; rintro e w ⟨p1, r1, l1, n1, rfl, x1, x2, x3, x4, ho, hb⟩; have hp1 := Lib.hid x1; have hr1 := Lib.hid x2; have hl1 := Lib.hid x3; have hn1 := Lib.hid x4; clear x1 x2 x3 x4; replace H := (H.add_gst ho hb).slices; clear ho hb)
    | (go_at_call 79; refine (specMoved_c (gvOf m1 p1 r1 l1 n1) m (by rw [gvOf_m hp1.out hr1.out hl1.out hn1.out, H1.out]; exact HM.out) _ (H.grd (by repeat constructor) (by repeat constructor) (by repeat constructor) (by repeat constructor)) (gvOf_big hp1.out hr1.out hl1.out hn1.out (by rw [H1.out]; exact sawM_big (GBig.m (gbig_mk (g := { g with a := v }) Z1 Z2 Z3 Z4)) v))).mono ?_; rintro e w ⟨p2, r2, l2, n2, rfl, x1, x2, x3, x4, ho, hb⟩; have hp2 := Lib.hid x1; have hr2 := Lib.hid x2; have hl2 := Lib.hid x3; have hn2 := Lib.hid x4; clear x1 x2 x3 x4; replace H := (H.add_gst ho hb).slices; clear ho hb))
  all_goals refine bodyPost_ret (results_H rfl H rfl (by repeat constructor)) rfl ?_
  all_goals first
    | (rw [show m = m from HM.out.trans (HM.out.symm)]; exact ⟨p2, r2, l2, n2, rfl, hp2.out, hr2.out, hl2.out, hn2.out, (H.gret (by repeat constructor) (by repeat constructor) (by repeat constructor) (by repeat constructor)), H.below⟩)
end Go.Proofs.YtaafnenmdombiaaGreat
