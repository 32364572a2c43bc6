/- Contracts of Interrupted and Plainly, of the program and of the reference. No condition but that the argument lies in memory. -/
import Derived.Test.YtaafnenmdombiaaGreatMk
namespace Go.Proofs.YtaafnenmdombiaaGreat
open Go.RowKit
theorem insAt_c (s : Sl Ins) (pc : Int) (w : World) (hs : Rd Ins.cells 2 w s) (hl : s.xs.length ≤ 4194304) (i : Ins) (hi : i = insAtM s.xs pc) : Calls Tryz.prog 115 #[.slice s.A s.xs.length s.c, .int .i64 pc] w fun e w' => e = .returned (.agg #[.int .i64 i.op, .int .i64 i.x]) ∧ Below w.heap.size w w' := by
  subst hi; exact insAt_any s pc w hs hl
theorem specInsAt_c (s : Sl Ins) (pc : Int) (w : World) (hs : Rd Ins.cells 2 w s) (hl : s.xs.length ≤ 4194304) (i : Ins) (hi : i = insAtM s.xs pc) : Calls Tryz.prog 109 #[.slice s.A s.xs.length s.c, .int .i64 pc] w fun e w' => e = .returned (.agg #[.int .i64 i.op, .int .i64 i.x]) ∧ Below w.heap.size w w' := by
  subst hi; exact specInsAt_any s pc w hs hl
theorem moved_u (p : Sl Ins) (a pc : Int) (wr lv : Sl Slot) (ctl : Ctl) (pn : Int) (x : Exit) (hd : Bool) (sn : Sl Int) (m : MG) (hm : m = movedM (GV.m ⟨p, a, pc, wr, lv, ctl, pn, x, hd, sn⟩)) (w : World) (hg : GRd w ⟨p, a, pc, wr, lv, ctl, pn, x, hd, sn⟩) (hz : GBig ⟨p, a, pc, wr, lv, ctl, pn, x, hd, sn⟩) : Calls Tryz.prog 74 #[.agg #[.slice p.A p.xs.length p.c, .int .i64 a, .int .i64 pc, .slice wr.A wr.xs.length wr.c, .slice lv.A lv.xs.length lv.c, .int .i64 ctl.traps, .int .i64 ctl.post, .bool ctl.opn, .int .i64 pn, .int .i64 x.kind, .int .i64 x.page, .bool x.write, .int .i64 x.n, .bool hd, .slice sn.A sn.xs.length sn.c]] w (MkG w m) := moved_c ⟨p, a, pc, wr, lv, ctl, pn, x, hd, sn⟩ m hm w hg hz
theorem saw_u (p : Sl Ins) (a pc : Int) (wr lv : Sl Slot) (ctl : Ctl) (pn : Int) (x : Exit) (hd : Bool) (sn : Sl Int) (n : Int) (m : MG) (hm : m = sawM (GV.m ⟨p, a, pc, wr, lv, ctl, pn, x, hd, sn⟩) n) (w : World) (hg : GRd w ⟨p, a, pc, wr, lv, ctl, pn, x, hd, sn⟩) (hz : GBig ⟨p, a, pc, wr, lv, ctl, pn, x, hd, sn⟩) : Calls Tryz.prog 188 #[.agg #[.slice p.A p.xs.length p.c, .int .i64 a, .int .i64 pc, .slice wr.A wr.xs.length wr.c, .slice lv.A lv.xs.length lv.c, .int .i64 ctl.traps, .int .i64 ctl.post, .bool ctl.opn, .int .i64 pn, .int .i64 x.kind, .int .i64 x.page, .bool x.write, .int .i64 x.n, .bool hd, .slice sn.A sn.xs.length sn.c], .int .i64 n] w (MkG w m) := saw_c ⟨p, a, pc, wr, lv, ctl, pn, x, hd, sn⟩ n m hm w hg hz
theorem specMoved_u (p : Sl Ins) (a pc : Int) (wr lv : Sl Slot) (ctl : Ctl) (pn : Int) (x : Exit) (hd : Bool) (sn : Sl Int) (m : MG) (hm : m = movedM (GV.m ⟨p, a, pc, wr, lv, ctl, pn, x, hd, sn⟩)) (w : World) (hg : GRd w ⟨p, a, pc, wr, lv, ctl, pn, x, hd, sn⟩) (hz : GBig ⟨p, a, pc, wr, lv, ctl, pn, x, hd, sn⟩) : Calls Tryz.prog 79 #[.agg #[.slice p.A p.xs.length p.c, .int .i64 a, .int .i64 pc, .slice wr.A wr.xs.length wr.c, .slice lv.A lv.xs.length lv.c, .int .i64 ctl.traps, .int .i64 ctl.post, .bool ctl.opn, .int .i64 pn, .int .i64 x.kind, .int .i64 x.page, .bool x.write, .int .i64 x.n, .bool hd, .slice sn.A sn.xs.length sn.c]] w (MkG w m) := specMoved_c ⟨p, a, pc, wr, lv, ctl, pn, x, hd, sn⟩ m hm w hg hz
theorem specSaw_u (p : Sl Ins) (a pc : Int) (wr lv : Sl Slot) (ctl : Ctl) (pn : Int) (x : Exit) (hd : Bool) (sn : Sl Int) (n : Int) (m : MG) (hm : m = sawM (GV.m ⟨p, a, pc, wr, lv, ctl, pn, x, hd, sn⟩) n) (w : World) (hg : GRd w ⟨p, a, pc, wr, lv, ctl, pn, x, hd, sn⟩) (hz : GBig ⟨p, a, pc, wr, lv, ctl, pn, x, hd, sn⟩) : Calls Tryz.prog 177 #[.agg #[.slice p.A p.xs.length p.c, .int .i64 a, .int .i64 pc, .slice wr.A wr.xs.length wr.c, .slice lv.A lv.xs.length lv.c, .int .i64 ctl.traps, .int .i64 ctl.post, .bool ctl.opn, .int .i64 pn, .int .i64 x.kind, .int .i64 x.page, .bool x.write, .int .i64 x.n, .bool hd, .slice sn.A sn.xs.length sn.c], .int .i64 n] w (MkG w m) := specSaw_c ⟨p, a, pc, wr, lv, ctl, pn, x, hd, sn⟩ n m hm w hg hz
set_option maxRecDepth 100000 in
set_option maxHeartbeats 2000000 in
theorem interrupted_true (g : GV) (tk : takesM g.m = true) (m : MG) (hm : m = interruptedM g.m) (w : World) (hg : GRd w g) (hz : GBig g) :
    Calls Tryz.prog 116 #[g.val] w (MkG w m) := by
  obtain ⟨R1, R2, R3, R4⟩ := id hg
  obtain ⟨Z1, Z2, Z3, Z4⟩ := id hz
  simp only [big] at Z1 Z2 Z3 Z4
  have HM := Lib.hid hm; clear hm
  obtain ⟨m1, h1⟩ : ∃ m1, m1 = sawM ({ g with pending := tookI g.pending } : GV).m (100 + topI g.pending) := ⟨_, rfl⟩
  have H1 := Lib.hid h1; clear h1
  have T1 := (topI_bd g.pending).1
  have T2 := (topI_bd g.pending).2
  have H := Hp.start w
  go_enter Tryz.func116, Tryz.ntmps116
  go_wp2_with (first
    | (refine wpList_box_H rfl rfl H rfl (by constructor) ?_; clear H; intro b w H)
    | (refine wpList_alloc_H rfl rfl H ?_; clear H; intro b w H)
    | (refine wpList_load_H rfl rfl H rfl (by repeat constructor) ?_)
    | (refine wpList_loads_H rfl rfl H rfl (by repeat constructor) ?_)
    | (refine wpList_store_H rfl rfl H rfl rfl (by repeat constructor) ?_; clear H; intro w H)
    | (go_at_call 183; ((with_reducible refine (takesIrq_any g _).mono ?_)); rintro e w ⟨rfl, hb⟩; replace H := H.still hb; clear hb)
    | (go_at_call 148; ((with_reducible refine (copyGuest_c g _ (hg.at_ H) hz).mono ?_)); rintro e w ⟨p1, r1, l1, n1, rfl, x1, x2, x3, x4, ho, hb⟩; have hp1 := Lib.hid x1; have hr1 := Lib.hid x2; have hl1 := Lib.hid x3; have hn1 := Lib.hid x4; clear x1 x2 x3 x4; replace H := (H.add_gst ho hb).slices; clear ho hb)
    | (go_at_call 187; ((with_reducible refine (takeIrq_any g.pending _).mono ?_)); rintro e w' ⟨rfl, rfl⟩)
    | (go_at_call 188; ((with_reducible refine (saw_u g.prog g.a g.pc g.written g.live g.ctl (tookI g.pending) g.exit g.halted g.seen (100 + topI g.pending) m1 H1.out _ ⟨R1.at_ H, R2.at_ H, R3.at_ H, R4.at_ H⟩ (gbig_mk Z1 Z2 Z3 Z4)).mono ?_)); rintro e w ⟨p1, r1, l1, n1, rfl, x1, x2, x3, x4, ho, hb⟩; have hp1 := Lib.hid x1; have hr1 := Lib.hid x2; have hl1 := Lib.hid x3; have hn1 := Lib.hid x4; clear x1 x2 x3 x4; replace H := (H.add_gst ho hb).slices; clear ho hb))
  all_goals refine bodyPost_ret (results_H rfl H rfl (by repeat constructor)) rfl ?_
  all_goals first
    | (rw [show m = m1 from HM.out.trans (by unfold interruptedM; rw [if_pos tk]; exact H1.out.symm)]; exact ⟨p1, r1, l1, n1, rfl, hp1.out, hr1.out, hl1.out, hn1.out, (H.gret (by repeat constructor) (by repeat constructor) (by repeat constructor) (by repeat constructor)), H.below⟩)
set_option maxRecDepth 100000 in
set_option maxHeartbeats 2000000 in
theorem interrupted_false (g : GV) (tk : takesM g.m = false) (m : MG) (hm : m = interruptedM g.m) (w : World) (hg : GRd w g) (hz : GBig g) :
    Calls Tryz.prog 116 #[g.val] w (MkG w m) := by
  obtain ⟨R1, R2, R3, R4⟩ := id hg
  obtain ⟨Z1, Z2, Z3, Z4⟩ := id hz
  simp only [big] at Z1 Z2 Z3 Z4
  have HM := Lib.hid hm; clear hm
  obtain ⟨m1, h1⟩ : ∃ m1, m1 = sawM ({ g with pending := tookI g.pending } : GV).m (100 + topI g.pending) := ⟨_, rfl⟩
  have H1 := Lib.hid h1; clear h1
  have T1 := (topI_bd g.pending).1
  have T2 := (topI_bd g.pending).2
  have H := Hp.start w
  go_enter Tryz.func116, Tryz.ntmps116
  go_wp2_with (first
    | (refine wpList_box_H rfl rfl H rfl (by constructor) ?_; clear H; intro b w H)
    | (refine wpList_alloc_H rfl rfl H ?_; clear H; intro b w H)
    | (refine wpList_load_H rfl rfl H rfl (by repeat constructor) ?_)
    | (refine wpList_loads_H rfl rfl H rfl (by repeat constructor) ?_)
    | (refine wpList_store_H rfl rfl H rfl rfl (by repeat constructor) ?_; clear H; intro w H)
    | (go_at_call 183; ((with_reducible refine (takesIrq_any g _).mono ?_)); rintro e w ⟨rfl, hb⟩; replace H := H.still hb; clear hb)
    | (go_at_call 148; ((with_reducible refine (copyGuest_c g _ (hg.at_ H) hz).mono ?_)); rintro e w ⟨p1, r1, l1, n1, rfl, x1, x2, x3, x4, ho, hb⟩; have hp1 := Lib.hid x1; have hr1 := Lib.hid x2; have hl1 := Lib.hid x3; have hn1 := Lib.hid x4; clear x1 x2 x3 x4; replace H := (H.add_gst ho hb).slices; clear ho hb)
    | (go_at_call 187; ((with_reducible refine (takeIrq_any g.pending _).mono ?_)); rintro e w' ⟨rfl, rfl⟩)
    | (go_at_call 188; ((with_reducible refine (saw_u g.prog g.a g.pc g.written g.live g.ctl (tookI g.pending) g.exit g.halted g.seen (100 + topI g.pending) m1 H1.out _ ⟨R1.at_ H, R2.at_ H, R3.at_ H, R4.at_ H⟩ (gbig_mk Z1 Z2 Z3 Z4)).mono ?_)); rintro e w ⟨p1, r1, l1, n1, rfl, x1, x2, x3, x4, ho, hb⟩; have hp1 := Lib.hid x1; have hr1 := Lib.hid x2; have hl1 := Lib.hid x3; have hn1 := Lib.hid x4; clear x1 x2 x3 x4; replace H := (H.add_gst ho hb).slices; clear ho hb))
  all_goals refine bodyPost_ret (results_H rfl H rfl (by repeat constructor)) rfl ?_
  all_goals first
    | (rw [show m = g.m from HM.out.trans (by unfold interruptedM; rw [if_neg (by simp [tk]; done)])]; exact ⟨p1, r1, l1, n1, rfl, hp1.out, hr1.out, hl1.out, hn1.out, (H.gret (by repeat constructor) (by repeat constructor) (by repeat constructor) (by repeat constructor)), H.below⟩)
theorem interrupted_c (g : GV) (m : MG) (hm : m = interruptedM g.m) (w : World) (hg : GRd w g) (hz : GBig g) : Calls Tryz.prog 116 #[g.val] w (MkG w m) := by
  cases tk : takesM g.m
  · exact interrupted_false g tk m hm w hg hz
  · exact interrupted_true g tk m hm w hg hz
set_option maxRecDepth 100000 in
set_option maxHeartbeats 2000000 in
theorem plainly_yy (g : GV) (ha : inB g.a 0 99 = true) (hx : inB (insAtM g.prog.xs g.pc).x 0 99 = true) (m : MG) (hm : m = plainlyM g.m) (w : World) (hg : GRd w g) (hz : GBig g) :
    Calls Tryz.prog 117 #[g.val] w (MkG w m) := by
  obtain ⟨R1, R2, R3, R4⟩ := id hg
  obtain ⟨Z1, Z2, Z3, Z4⟩ := id hz
  simp only [big] at Z1 Z2 Z3 Z4
  have HM := Lib.hid hm; clear hm
  obtain ⟨i, hi⟩ : ∃ i, i = insAtM g.prog.xs g.pc := ⟨_, rfl⟩
  have HI := Lib.hid hi; clear hi
  have HJ : Hid (insAtM g.m.prog g.m.pc = i) := HI.out.symm
  obtain ⟨m1, h1⟩ : ∃ m1, m1 = movedM g.m := ⟨_, rfl⟩
  have H1 := Lib.hid h1; clear h1
  obtain ⟨m2, h2⟩ : ∃ m2, m2 = movedM ({ g with a := i.x } : GV).m := ⟨_, rfl⟩
  have H2 := Lib.hid h2; clear h2
  obtain ⟨m3, h3⟩ : ∃ m3, m3 = movedM ({ g with a := (g.a + i.x) % 100 } : GV).m := ⟨_, rfl⟩
  have H3 := Lib.hid h3; clear h3
  have HY : Hid ((inB g.m.a 0 99 && inB i.x 0 99) = true) := (by rw [HI.out]; show (inB g.a 0 99 && inB (insAtM g.prog.xs g.pc).x 0 99) = true; rw [ha, hx]; rfl)
  have hx : inB i.x 0 99 = true := by rw [HI.out]; exact hx
  have A1 : 0 ≤ g.a := by unfold inB at ha; simp at ha; exact ha.1
  have A2 : g.a ≤ 99 := by unfold inB at ha; simp at ha; exact ha.2
  have X1 : 0 ≤ i.x := by unfold inB at hx; simp at hx; exact hx.1
  have X2 : i.x ≤ 99 := by unfold inB at hx; simp at hx; exact hx.2
  have H := Hp.start w
  go_enter Tryz.func117, Tryz.ntmps117
  go_wp2_with (first
    | (refine wpList_box_H rfl rfl H rfl (by constructor) ?_; clear H; intro b w H)
    | (refine wpList_alloc_H rfl rfl H ?_; clear H; intro b w H)
    | (refine wpList_load_H rfl rfl H rfl (by repeat constructor) ?_)
    | (refine wpList_loads_H rfl rfl H rfl (by repeat constructor) ?_)
    | (refine wpList_store_H rfl rfl H rfl rfl (by repeat constructor) ?_; clear H; intro w H)
    | (go_at_call 112; ((with_reducible refine (wantOf_any g _ (R1.at_ H) Z1).mono ?_)); rintro e w ⟨rfl, hb⟩; replace H := H.still hb; clear hb)
    | (go_at_call 148; ((with_reducible refine (copyGuest_c g _ (hg.at_ H) hz).mono ?_)); rintro e w ⟨p1, r1, l1, n1, rfl, x1, x2, x3, x4, ho, hb⟩; have hp1 := Lib.hid x1; have hr1 := Lib.hid x2; have hl1 := Lib.hid x3; have hn1 := Lib.hid x4; clear x1 x2 x3 x4; replace H := (H.add_gst ho hb).slices; clear ho hb)
    | (go_at_call 115; ((with_reducible refine (insAt_c g.prog g.pc _ (R1.at_ H) Z1 i HI.out).mono ?_)); rintro e w ⟨rfl, hb⟩; replace H := H.still hb; clear hb)
    | (go_at_call 74; ((with_reducible refine (moved_u g.prog g.a g.pc g.written g.live g.ctl g.pending g.exit g.halted g.seen m1 H1.out _ ⟨R1.at_ H, R2.at_ H, R3.at_ H, R4.at_ H⟩ (gbig_mk Z1 Z2 Z3 Z4)).mono ?_)); rintro e w ⟨p2, r2, l2, n2, rfl, x1, x2, x3, x4, ho, hb⟩; have hp2 := Lib.hid x1; have hr2 := Lib.hid x2; have hl2 := Lib.hid x3; have hn2 := Lib.hid x4; clear x1 x2 x3 x4; replace H := (H.add_gst ho hb).slices; clear ho hb)
    | (go_at_call 72; ((with_reducible refine (within_any g.a 0 99 _).mono ?_)); rintro e w' ⟨rfl, rfl⟩)
    | (go_at_call 72; ((with_reducible refine (within_any i.x 0 99 _).mono ?_)); rintro e w' ⟨rfl, rfl⟩))
  all_goals refine bodyPost_ret (results_H rfl H rfl (by repeat constructor)) rfl ?_
  all_goals first
    | (rw [show m = g.m from HM.out.trans (by unfold plainlyM; rw [if_neg (by first | assumption | (exact beq_iff_eq.1 (by assumption)) | (exact bne_eq_false_iff_eq.1 (by assumption)) | (exact beq_eq_false_iff_ne.1 (by assumption)) | (exact bne_iff_ne.1 (by assumption)))])]; exact ⟨p1, r1, l1, n1, rfl, hp1.out, hr1.out, hl1.out, hn1.out, (H.gret (by repeat constructor) (by repeat constructor) (by repeat constructor) (by repeat constructor)), H.below⟩)
    | (rw [show m = { m1 with a := i.x } from HM.out.trans (by unfold plainlyM; rw [HJ.out, if_pos (by first | assumption | (exact beq_iff_eq.1 (by assumption)) | (exact bne_eq_false_iff_eq.1 (by assumption)) | (exact beq_eq_false_iff_ne.1 (by assumption)) | (exact bne_iff_ne.1 (by assumption)))]; rw [if_pos HY.out]; rw [if_pos (by first | assumption | (exact beq_iff_eq.1 (by assumption)) | (exact bne_eq_false_iff_eq.1 (by assumption)) | (exact beq_eq_false_iff_ne.1 (by assumption)) | (exact bne_iff_ne.1 (by assumption))), H1.out])]; exact ⟨p2, r2, l2, n2, rfl, hp2.out, hr2.out, hl2.out, hn2.out, (H.gret (by repeat constructor) (by repeat constructor) (by repeat constructor) (by repeat constructor)), H.below⟩)
    | (rw [show m = { m1 with a := (g.a + i.x) % 100 } from HM.out.trans (by unfold plainlyM; rw [HJ.out, if_pos (by first | assumption | (exact beq_iff_eq.1 (by assumption)) | (exact bne_eq_false_iff_eq.1 (by assumption)) | (exact beq_eq_false_iff_ne.1 (by assumption)) | (exact bne_iff_ne.1 (by assumption)))]; rw [if_pos HY.out]; rw [if_neg (by first | assumption | (exact beq_iff_eq.1 (by assumption)) | (exact bne_eq_false_iff_eq.1 (by assumption)) | (exact beq_eq_false_iff_ne.1 (by assumption)) | (exact bne_iff_ne.1 (by assumption))), if_pos (by first | assumption | (exact beq_iff_eq.1 (by assumption)) | (exact bne_eq_false_iff_eq.1 (by assumption)) | (exact beq_eq_false_iff_ne.1 (by assumption)) | (exact bne_iff_ne.1 (by assumption))), H1.out]; rfl)]; exact ⟨p2, r2, l2, n2, rfl, hp2.out, hr2.out, hl2.out, hn2.out, (H.gret (by repeat constructor) (by repeat constructor) (by repeat constructor) (by repeat constructor)), H.below⟩)
    | (rw [show m = { m1 with pc := i.x } from HM.out.trans (by unfold plainlyM; rw [HJ.out, if_pos (by first | assumption | (exact beq_iff_eq.1 (by assumption)) | (exact bne_eq_false_iff_eq.1 (by assumption)) | (exact beq_eq_false_iff_ne.1 (by assumption)) | (exact bne_iff_ne.1 (by assumption)))]; rw [if_pos HY.out]; rw [if_neg (by first | assumption | (exact beq_iff_eq.1 (by assumption)) | (exact bne_eq_false_iff_eq.1 (by assumption)) | (exact beq_eq_false_iff_ne.1 (by assumption)) | (exact bne_iff_ne.1 (by assumption))), if_neg (by first | assumption | (exact beq_iff_eq.1 (by assumption)) | (exact bne_eq_false_iff_eq.1 (by assumption)) | (exact beq_eq_false_iff_ne.1 (by assumption)) | (exact bne_iff_ne.1 (by assumption))), if_pos ⟨by first | assumption | (exact beq_iff_eq.1 (by assumption)) | (exact bne_eq_false_iff_eq.1 (by assumption)) | (exact beq_eq_false_iff_ne.1 (by assumption)) | (exact bne_iff_ne.1 (by assumption)), by first | assumption | (exact beq_iff_eq.1 (by assumption)) | (exact bne_eq_false_iff_eq.1 (by assumption)) | (exact beq_eq_false_iff_ne.1 (by assumption)) | (exact bne_iff_ne.1 (by assumption))⟩, H1.out]; rfl)]; exact ⟨p2, r2, l2, n2, rfl, hp2.out, hr2.out, hl2.out, hn2.out, (H.gret (by repeat constructor) (by repeat constructor) (by repeat constructor) (by repeat constructor)), H.below⟩)
    | (rw [show m = m1 from HM.out.trans (by unfold plainlyM; rw [HJ.out, if_pos (by first | assumption | (exact beq_iff_eq.1 (by assumption)) | (exact bne_eq_false_iff_eq.1 (by assumption)) | (exact beq_eq_false_iff_ne.1 (by assumption)) | (exact bne_iff_ne.1 (by assumption)))]; rw [if_pos HY.out]; rw [if_neg (by first | assumption | (exact beq_iff_eq.1 (by assumption)) | (exact bne_eq_false_iff_eq.1 (by assumption)) | (exact beq_eq_false_iff_ne.1 (by assumption)) | (exact bne_iff_ne.1 (by assumption))), if_neg (by first | assumption | (exact beq_iff_eq.1 (by assumption)) | (exact bne_eq_false_iff_eq.1 (by assumption)) | (exact beq_eq_false_iff_ne.1 (by assumption)) | (exact bne_iff_ne.1 (by assumption))), if_neg (by rintro ⟨h1, h2⟩; have h2 : g.a = 0 := h2; simp_all; done)]; exact H1.out.symm)]; exact ⟨p2, r2, l2, n2, rfl, hp2.out, hr2.out, hl2.out, hn2.out, (H.gret (by repeat constructor) (by repeat constructor) (by repeat constructor) (by repeat constructor)), H.below⟩)
set_option maxRecDepth 100000 in
set_option maxHeartbeats 2000000 in
theorem plainly_na (g : GV) (ha : inB g.a 0 99 = false) (m : MG) (hm : m = plainlyM g.m) (w : World) (hg : GRd w g) (hz : GBig g) :
    Calls Tryz.prog 117 #[g.val] w (MkG w m) := by
  obtain ⟨R1, R2, R3, R4⟩ := id hg
  obtain ⟨Z1, Z2, Z3, Z4⟩ := id hz
  simp only [big] at Z1 Z2 Z3 Z4
  have HM := Lib.hid hm; clear hm
  obtain ⟨i, hi⟩ : ∃ i, i = insAtM g.prog.xs g.pc := ⟨_, rfl⟩
  have HI := Lib.hid hi; clear hi
  have HJ : Hid (insAtM g.m.prog g.m.pc = i) := HI.out.symm
  obtain ⟨m1, h1⟩ : ∃ m1, m1 = movedM g.m := ⟨_, rfl⟩
  have H1 := Lib.hid h1; clear h1
  obtain ⟨m2, h2⟩ : ∃ m2, m2 = movedM ({ g with a := i.x } : GV).m := ⟨_, rfl⟩
  have H2 := Lib.hid h2; clear h2
  obtain ⟨m3, h3⟩ : ∃ m3, m3 = movedM ({ g with a := (g.a + i.x) % 100 } : GV).m := ⟨_, rfl⟩
  have H3 := Lib.hid h3; clear h3
  have HN : Hid (¬ (inB g.m.a 0 99 && inB i.x 0 99) = true) := (by show ¬ (inB g.a 0 99 && inB i.x 0 99) = true; rw [ha]; simp)
  have H := Hp.start w
  go_enter Tryz.func117, Tryz.ntmps117
  go_wp2_with (first
    | (refine wpList_box_H rfl rfl H rfl (by constructor) ?_; clear H; intro b w H)
    | (refine wpList_alloc_H rfl rfl H ?_; clear H; intro b w H)
    | (refine wpList_load_H rfl rfl H rfl (by repeat constructor) ?_)
    | (refine wpList_loads_H rfl rfl H rfl (by repeat constructor) ?_)
    | (refine wpList_store_H rfl rfl H rfl rfl (by repeat constructor) ?_; clear H; intro w H)
    | (go_at_call 112; ((with_reducible refine (wantOf_any g _ (R1.at_ H) Z1).mono ?_)); rintro e w ⟨rfl, hb⟩; replace H := H.still hb; clear hb)
    | (go_at_call 148; ((with_reducible refine (copyGuest_c g _ (hg.at_ H) hz).mono ?_)); rintro e w ⟨p1, r1, l1, n1, rfl, x1, x2, x3, x4, ho, hb⟩; have hp1 := Lib.hid x1; have hr1 := Lib.hid x2; have hl1 := Lib.hid x3; have hn1 := Lib.hid x4; clear x1 x2 x3 x4; replace H := (H.add_gst ho hb).slices; clear ho hb)
    | (go_at_call 115; ((with_reducible refine (insAt_c g.prog g.pc _ (R1.at_ H) Z1 i HI.out).mono ?_)); rintro e w ⟨rfl, hb⟩; replace H := H.still hb; clear hb)
    | (go_at_call 74; ((with_reducible refine (moved_u g.prog g.a g.pc g.written g.live g.ctl g.pending g.exit g.halted g.seen m1 H1.out _ ⟨R1.at_ H, R2.at_ H, R3.at_ H, R4.at_ H⟩ (gbig_mk Z1 Z2 Z3 Z4)).mono ?_)); rintro e w ⟨p2, r2, l2, n2, rfl, x1, x2, x3, x4, ho, hb⟩; have hp2 := Lib.hid x1; have hr2 := Lib.hid x2; have hl2 := Lib.hid x3; have hn2 := Lib.hid x4; clear x1 x2 x3 x4; replace H := (H.add_gst ho hb).slices; clear ho hb)
    | (go_at_call 72; ((with_reducible refine (within_any g.a 0 99 _).mono ?_)); rintro e w' ⟨rfl, rfl⟩)
    | (go_at_call 72; ((with_reducible refine (within_any i.x 0 99 _).mono ?_)); rintro e w' ⟨rfl, rfl⟩))
  all_goals refine bodyPost_ret (results_H rfl H rfl (by repeat constructor)) rfl ?_
  all_goals first
    | (rw [show m = g.m from HM.out.trans (by unfold plainlyM; rw [if_neg (by first | assumption | (exact beq_iff_eq.1 (by assumption)) | (exact bne_eq_false_iff_eq.1 (by assumption)) | (exact beq_eq_false_iff_ne.1 (by assumption)) | (exact bne_iff_ne.1 (by assumption)))])]; exact ⟨p1, r1, l1, n1, rfl, hp1.out, hr1.out, hl1.out, hn1.out, (H.gret (by repeat constructor) (by repeat constructor) (by repeat constructor) (by repeat constructor)), H.below⟩)
    | (rw [show m = m1 from HM.out.trans (by unfold plainlyM; rw [HJ.out, if_pos (by first | assumption | (exact beq_iff_eq.1 (by assumption)) | (exact bne_eq_false_iff_eq.1 (by assumption)) | (exact beq_eq_false_iff_ne.1 (by assumption)) | (exact bne_iff_ne.1 (by assumption)))]; rw [if_neg HN.out]; exact H1.out.symm)]; exact ⟨p2, r2, l2, n2, rfl, hp2.out, hr2.out, hl2.out, hn2.out, (H.gret (by repeat constructor) (by repeat constructor) (by repeat constructor) (by repeat constructor)), H.below⟩)
set_option maxRecDepth 100000 in
set_option maxHeartbeats 2000000 in
theorem plainly_nx (g : GV) (ha : inB g.a 0 99 = true) (hx : inB (insAtM g.prog.xs g.pc).x 0 99 = false) (m : MG) (hm : m = plainlyM g.m) (w : World) (hg : GRd w g) (hz : GBig g) :
    Calls Tryz.prog 117 #[g.val] w (MkG w m) := by
  obtain ⟨R1, R2, R3, R4⟩ := id hg
  obtain ⟨Z1, Z2, Z3, Z4⟩ := id hz
  simp only [big] at Z1 Z2 Z3 Z4
  have HM := Lib.hid hm; clear hm
  obtain ⟨i, hi⟩ : ∃ i, i = insAtM g.prog.xs g.pc := ⟨_, rfl⟩
  have HI := Lib.hid hi; clear hi
  have HJ : Hid (insAtM g.m.prog g.m.pc = i) := HI.out.symm
  obtain ⟨m1, h1⟩ : ∃ m1, m1 = movedM g.m := ⟨_, rfl⟩
  have H1 := Lib.hid h1; clear h1
  obtain ⟨m2, h2⟩ : ∃ m2, m2 = movedM ({ g with a := i.x } : GV).m := ⟨_, rfl⟩
  have H2 := Lib.hid h2; clear h2
  obtain ⟨m3, h3⟩ : ∃ m3, m3 = movedM ({ g with a := (g.a + i.x) % 100 } : GV).m := ⟨_, rfl⟩
  have H3 := Lib.hid h3; clear h3
  have HN : Hid (¬ (inB g.m.a 0 99 && inB i.x 0 99) = true) := (by rw [HI.out]; show ¬ (inB g.a 0 99 && inB (insAtM g.prog.xs g.pc).x 0 99) = true; rw [hx]; simp)
  have hx : inB i.x 0 99 = false := by rw [HI.out]; exact hx
  have H := Hp.start w
  go_enter Tryz.func117, Tryz.ntmps117
  go_wp2_with (first
    | (refine wpList_box_H rfl rfl H rfl (by constructor) ?_; clear H; intro b w H)
    | (refine wpList_alloc_H rfl rfl H ?_; clear H; intro b w H)
    | (refine wpList_load_H rfl rfl H rfl (by repeat constructor) ?_)
    | (refine wpList_loads_H rfl rfl H rfl (by repeat constructor) ?_)
    | (refine wpList_store_H rfl rfl H rfl rfl (by repeat constructor) ?_; clear H; intro w H)
    | (go_at_call 112; ((with_reducible refine (wantOf_any g _ (R1.at_ H) Z1).mono ?_)); rintro e w ⟨rfl, hb⟩; replace H := H.still hb; clear hb)
    | (go_at_call 148; ((with_reducible refine (copyGuest_c g _ (hg.at_ H) hz).mono ?_)); rintro e w ⟨p1, r1, l1, n1, rfl, x1, x2, x3, x4, ho, hb⟩; have hp1 := Lib.hid x1; have hr1 := Lib.hid x2; have hl1 := Lib.hid x3; have hn1 := Lib.hid x4; clear x1 x2 x3 x4; replace H := (H.add_gst ho hb).slices; clear ho hb)
    | (go_at_call 115; ((with_reducible refine (insAt_c g.prog g.pc _ (R1.at_ H) Z1 i HI.out).mono ?_)); rintro e w ⟨rfl, hb⟩; replace H := H.still hb; clear hb)
    | (go_at_call 74; ((with_reducible refine (moved_u g.prog g.a g.pc g.written g.live g.ctl g.pending g.exit g.halted g.seen m1 H1.out _ ⟨R1.at_ H, R2.at_ H, R3.at_ H, R4.at_ H⟩ (gbig_mk Z1 Z2 Z3 Z4)).mono ?_)); rintro e w ⟨p2, r2, l2, n2, rfl, x1, x2, x3, x4, ho, hb⟩; have hp2 := Lib.hid x1; have hr2 := Lib.hid x2; have hl2 := Lib.hid x3; have hn2 := Lib.hid x4; clear x1 x2 x3 x4; replace H := (H.add_gst ho hb).slices; clear ho hb)
    | (go_at_call 72; ((with_reducible refine (within_any g.a 0 99 _).mono ?_)); rintro e w' ⟨rfl, rfl⟩)
    | (go_at_call 72; ((with_reducible refine (within_any i.x 0 99 _).mono ?_)); rintro e w' ⟨rfl, rfl⟩))
  all_goals refine bodyPost_ret (results_H rfl H rfl (by repeat constructor)) rfl ?_
  all_goals first
    | (rw [show m = g.m from HM.out.trans (by unfold plainlyM; rw [if_neg (by first | assumption | (exact beq_iff_eq.1 (by assumption)) | (exact bne_eq_false_iff_eq.1 (by assumption)) | (exact beq_eq_false_iff_ne.1 (by assumption)) | (exact bne_iff_ne.1 (by assumption)))])]; exact ⟨p1, r1, l1, n1, rfl, hp1.out, hr1.out, hl1.out, hn1.out, (H.gret (by repeat constructor) (by repeat constructor) (by repeat constructor) (by repeat constructor)), H.below⟩)
    | (rw [show m = m1 from HM.out.trans (by unfold plainlyM; rw [HJ.out, if_pos (by first | assumption | (exact beq_iff_eq.1 (by assumption)) | (exact bne_eq_false_iff_eq.1 (by assumption)) | (exact beq_eq_false_iff_ne.1 (by assumption)) | (exact bne_iff_ne.1 (by assumption)))]; rw [if_neg HN.out]; exact H1.out.symm)]; exact ⟨p2, r2, l2, n2, rfl, hp2.out, hr2.out, hl2.out, hn2.out, (H.gret (by repeat constructor) (by repeat constructor) (by repeat constructor) (by repeat constructor)), H.below⟩)
theorem plainly_c (g : GV) (m : MG) (hm : m = plainlyM g.m) (w : World) (hg : GRd w g) (hz : GBig g) : Calls Tryz.prog 117 #[g.val] w (MkG w m) := by
  by_cases ha : inB g.a 0 99 = true
  · by_cases hx : inB (insAtM g.prog.xs g.pc).x 0 99 = true
    · exact plainly_yy g ha hx m hm w hg hz
    · exact plainly_nx g ha (by simpa using hx) m hm w hg hz
  · exact plainly_na g (by simpa using ha) m hm w hg hz
set_option maxRecDepth 100000 in
set_option maxHeartbeats 2000000 in
theorem specInterrupted_true (g : GV) (tk : takesM g.m = true) (m : MG) (hm : m = interruptedM g.m) (w : World) (hg : GRd w g) (hz : GBig g) :
    Calls Tryz.prog 96 #[g.val] w (MkG w m) := by
  obtain ⟨R1, R2, R3, R4⟩ := id hg
  obtain ⟨Z1, Z2, Z3, Z4⟩ := id hz
  simp only [big] at Z1 Z2 Z3 Z4
  have HM := Lib.hid hm; clear hm
  obtain ⟨m1, h1⟩ : ∃ m1, m1 = sawM ({ g with pending := tookI g.pending } : GV).m (100 + topI g.pending) := ⟨_, rfl⟩
  have H1 := Lib.hid h1; clear h1
  have T1 := (topI_bd g.pending).1
  have T2 := (topI_bd g.pending).2
  have H := Hp.start w
  go_enter Tryz.func96, Tryz.ntmps96
  go_wp2_with (first
    | (refine wpList_box_H rfl rfl H rfl (by constructor) ?_; clear H; intro b w H)
    | (refine wpList_alloc_H rfl rfl H ?_; clear H; intro b w H)
    | (refine wpList_load_H rfl rfl H rfl (by repeat constructor) ?_)
    | (refine wpList_loads_H rfl rfl H rfl (by repeat constructor) ?_)
    | (refine wpList_store_H rfl rfl H rfl rfl (by repeat constructor) ?_; clear H; intro w H)
    | (go_at_call 175; ((with_reducible refine (specTakesIrq_any g _).mono ?_)); rintro e w ⟨rfl, hb⟩; replace H := H.still hb; clear hb)
    | (go_at_call 149; ((with_reducible refine (l15Copy_c g _ (hg.at_ H) hz).mono ?_)); rintro e w ⟨p1, r1, l1, n1, rfl, x1, x2, x3, x4, ho, hb⟩; have hp1 := Lib.hid x1; have hr1 := Lib.hid x2; have hl1 := Lib.hid x3; have hn1 := Lib.hid x4; clear x1 x2 x3 x4; replace H := (H.add_gst ho hb).slices; clear ho hb)
    | (go_at_call 176; ((with_reducible refine (specTake_any g.pending _).mono ?_)); rintro e w' ⟨rfl, rfl⟩)
    | (go_at_call 177; ((with_reducible refine (specSaw_u g.prog g.a g.pc g.written g.live g.ctl (tookI g.pending) g.exit g.halted g.seen (100 + topI g.pending) m1 H1.out _ ⟨R1.at_ H, R2.at_ H, R3.at_ H, R4.at_ H⟩ (gbig_mk Z1 Z2 Z3 Z4)).mono ?_)); rintro e w ⟨p1, r1, l1, n1, rfl, x1, x2, x3, x4, ho, hb⟩; have hp1 := Lib.hid x1; have hr1 := Lib.hid x2; have hl1 := Lib.hid x3; have hn1 := Lib.hid x4; clear x1 x2 x3 x4; replace H := (H.add_gst ho hb).slices; clear ho hb))
  all_goals refine bodyPost_ret (results_H rfl H rfl (by repeat constructor)) rfl ?_
  all_goals first
    | (rw [show m = m1 from HM.out.trans (by unfold interruptedM; rw [if_pos tk]; exact H1.out.symm)]; exact ⟨p1, r1, l1, n1, rfl, hp1.out, hr1.out, hl1.out, hn1.out, (H.gret (by repeat constructor) (by repeat constructor) (by repeat constructor) (by repeat constructor)), H.below⟩)
set_option maxRecDepth 100000 in
set_option maxHeartbeats 2000000 in
theorem specInterrupted_false (g : GV) (tk : takesM g.m = false) (m : MG) (hm : m = interruptedM g.m) (w : World) (hg : GRd w g) (hz : GBig g) :
    Calls Tryz.prog 96 #[g.val] w (MkG w m) := by
  obtain ⟨R1, R2, R3, R4⟩ := id hg
  obtain ⟨Z1, Z2, Z3, Z4⟩ := id hz
  simp only [big] at Z1 Z2 Z3 Z4
  have HM := Lib.hid hm; clear hm
  obtain ⟨m1, h1⟩ : ∃ m1, m1 = sawM ({ g with pending := tookI g.pending } : GV).m (100 + topI g.pending) := ⟨_, rfl⟩
  have H1 := Lib.hid h1; clear h1
  have T1 := (topI_bd g.pending).1
  have T2 := (topI_bd g.pending).2
  have H := Hp.start w
  go_enter Tryz.func96, Tryz.ntmps96
  go_wp2_with (first
    | (refine wpList_box_H rfl rfl H rfl (by constructor) ?_; clear H; intro b w H)
    | (refine wpList_alloc_H rfl rfl H ?_; clear H; intro b w H)
    | (refine wpList_load_H rfl rfl H rfl (by repeat constructor) ?_)
    | (refine wpList_loads_H rfl rfl H rfl (by repeat constructor) ?_)
    | (refine wpList_store_H rfl rfl H rfl rfl (by repeat constructor) ?_; clear H; intro w H)
    | (go_at_call 175; ((with_reducible refine (specTakesIrq_any g _).mono ?_)); rintro e w ⟨rfl, hb⟩; replace H := H.still hb; clear hb)
    | (go_at_call 149; ((with_reducible refine (l15Copy_c g _ (hg.at_ H) hz).mono ?_)); rintro e w ⟨p1, r1, l1, n1, rfl, x1, x2, x3, x4, ho, hb⟩; have hp1 := Lib.hid x1; have hr1 := Lib.hid x2; have hl1 := Lib.hid x3; have hn1 := Lib.hid x4; clear x1 x2 x3 x4; replace H := (H.add_gst ho hb).slices; clear ho hb)
    | (go_at_call 176; ((with_reducible refine (specTake_any g.pending _).mono ?_)); rintro e w' ⟨rfl, rfl⟩)
    | (go_at_call 177; ((with_reducible refine (specSaw_u g.prog g.a g.pc g.written g.live g.ctl (tookI g.pending) g.exit g.halted g.seen (100 + topI g.pending) m1 H1.out _ ⟨R1.at_ H, R2.at_ H, R3.at_ H, R4.at_ H⟩ (gbig_mk Z1 Z2 Z3 Z4)).mono ?_)); rintro e w ⟨p1, r1, l1, n1, rfl, x1, x2, x3, x4, ho, hb⟩; have hp1 := Lib.hid x1; have hr1 := Lib.hid x2; have hl1 := Lib.hid x3; have hn1 := Lib.hid x4; clear x1 x2 x3 x4; replace H := (H.add_gst ho hb).slices; clear ho hb))
  all_goals refine bodyPost_ret (results_H rfl H rfl (by repeat constructor)) rfl ?_
  all_goals first
    | (rw [show m = g.m from HM.out.trans (by unfold interruptedM; rw [if_neg (by simp [tk]; done)])]; exact ⟨p1, r1, l1, n1, rfl, hp1.out, hr1.out, hl1.out, hn1.out, (H.gret (by repeat constructor) (by repeat constructor) (by repeat constructor) (by repeat constructor)), H.below⟩)
theorem specInterrupted_c (g : GV) (m : MG) (hm : m = interruptedM g.m) (w : World) (hg : GRd w g) (hz : GBig g) : Calls Tryz.prog 96 #[g.val] w (MkG w m) := by
  cases tk : takesM g.m
  · exact specInterrupted_false g tk m hm w hg hz
  · exact specInterrupted_true g tk m hm w hg hz
set_option maxRecDepth 100000 in
set_option maxHeartbeats 2000000 in
theorem specPlainly_yy (g : GV) (ha : inB g.a 0 99 = true) (hx : inB (insAtM g.prog.xs g.pc).x 0 99 = true) (m : MG) (hm : m = plainlyM g.m) (w : World) (hg : GRd w g) (hz : GBig g) :
    Calls Tryz.prog 97 #[g.val] w (MkG w m) := by
  obtain ⟨R1, R2, R3, R4⟩ := id hg
  obtain ⟨Z1, Z2, Z3, Z4⟩ := id hz
  simp only [big] at Z1 Z2 Z3 Z4
  have HM := Lib.hid hm; clear hm
  obtain ⟨i, hi⟩ : ∃ i, i = insAtM g.prog.xs g.pc := ⟨_, rfl⟩
  have HI := Lib.hid hi; clear hi
  have HJ : Hid (insAtM g.m.prog g.m.pc = i) := HI.out.symm
  obtain ⟨m1, h1⟩ : ∃ m1, m1 = movedM g.m := ⟨_, rfl⟩
  have H1 := Lib.hid h1; clear h1
  obtain ⟨m2, h2⟩ : ∃ m2, m2 = movedM ({ g with a := i.x } : GV).m := ⟨_, rfl⟩
  have H2 := Lib.hid h2; clear h2
  obtain ⟨m3, h3⟩ : ∃ m3, m3 = movedM ({ g with a := (g.a + i.x) % 100 } : GV).m := ⟨_, rfl⟩
  have H3 := Lib.hid h3; clear h3
  have HY : Hid ((inB g.m.a 0 99 && inB i.x 0 99) = true) := (by rw [HI.out]; show (inB g.a 0 99 && inB (insAtM g.prog.xs g.pc).x 0 99) = true; rw [ha, hx]; rfl)
  have hx : inB i.x 0 99 = true := by rw [HI.out]; exact hx
  have A1 : 0 ≤ g.a := by unfold inB at ha; simp at ha; exact ha.1
  have A2 : g.a ≤ 99 := by unfold inB at ha; simp at ha; exact ha.2
  have X1 : 0 ≤ i.x := by unfold inB at hx; simp at hx; exact hx.1
  have X2 : i.x ≤ 99 := by unfold inB at hx; simp at hx; exact hx.2
  have H := Hp.start w
  go_enter Tryz.func97, Tryz.ntmps97
  go_wp2_with (first
    | (refine wpList_box_H rfl rfl H rfl (by constructor) ?_; clear H; intro b w H)
    | (refine wpList_alloc_H rfl rfl H ?_; clear H; intro b w H)
    | (refine wpList_load_H rfl rfl H rfl (by repeat constructor) ?_)
    | (refine wpList_loads_H rfl rfl H rfl (by repeat constructor) ?_)
    | (refine wpList_store_H rfl rfl H rfl rfl (by repeat constructor) ?_; clear H; intro w H)
    | (go_at_call 95; ((with_reducible refine (specWantOf_any g _ (R1.at_ H) Z1).mono ?_)); rintro e w ⟨rfl, hb⟩; replace H := H.still hb; clear hb)
    | (go_at_call 149; ((with_reducible refine (l15Copy_c g _ (hg.at_ H) hz).mono ?_)); rintro e w ⟨p1, r1, l1, n1, rfl, x1, x2, x3, x4, ho, hb⟩; have hp1 := Lib.hid x1; have hr1 := Lib.hid x2; have hl1 := Lib.hid x3; have hn1 := Lib.hid x4; clear x1 x2 x3 x4; replace H := (H.add_gst ho hb).slices; clear ho hb)
    | (go_at_call 109; ((with_reducible refine (specInsAt_c g.prog g.pc _ (R1.at_ H) Z1 i HI.out).mono ?_)); rintro e w ⟨rfl, hb⟩; replace H := H.still hb; clear hb)
    | (go_at_call 78; ((with_reducible refine (in_any g.a 0 99 _).mono ?_)); rintro e w' ⟨rfl, rfl⟩)
    | (go_at_call 78; ((with_reducible refine (in_any i.x 0 99 _).mono ?_)); rintro e w' ⟨rfl, rfl⟩)
    | (go_at_call 79; ((with_reducible refine (specMoved_u g.prog g.a g.pc g.written g.live g.ctl g.pending g.exit g.halted g.seen m1 H1.out _ ⟨R1.at_ H, R2.at_ H, R3.at_ H, R4.at_ H⟩ (gbig_mk Z1 Z2 Z3 Z4)).mono ?_)); rintro e w ⟨p2, r2, l2, n2, rfl, x1, x2, x3, x4, ho, hb⟩; have hp2 := Lib.hid x1; have hr2 := Lib.hid x2; have hl2 := Lib.hid x3; have hn2 := Lib.hid x4; clear x1 x2 x3 x4; replace H := (H.add_gst ho hb).slices; clear ho hb)
    | (go_at_call 79; ((with_reducible refine (specMoved_u g.prog i.x g.pc g.written g.live g.ctl g.pending g.exit g.halted g.seen m2 H2.out _ ⟨R1.at_ H, R2.at_ H, R3.at_ H, R4.at_ H⟩ (gbig_mk Z1 Z2 Z3 Z4)).mono ?_)); rintro e w ⟨p2, r2, l2, n2, rfl, x1, x2, x3, x4, ho, hb⟩; have hp2 := Lib.hid x1; have hr2 := Lib.hid x2; have hl2 := Lib.hid x3; have hn2 := Lib.hid x4; clear x1 x2 x3 x4; replace H := (H.add_gst ho hb).slices; clear ho hb)
    | (go_at_call 79; ((with_reducible refine (specMoved_u g.prog ((g.a + i.x) % 100) g.pc g.written g.live g.ctl g.pending g.exit g.halted g.seen m3 H3.out _ ⟨R1.at_ H, R2.at_ H, R3.at_ H, R4.at_ H⟩ (gbig_mk Z1 Z2 Z3 Z4)).mono ?_)); rintro e w ⟨p2, r2, l2, n2, rfl, x1, x2, x3, x4, ho, hb⟩; have hp2 := Lib.hid x1; have hr2 := Lib.hid x2; have hl2 := Lib.hid x3; have hn2 := Lib.hid x4; clear x1 x2 x3 x4; replace H := (H.add_gst ho hb).slices; clear ho hb))
  all_goals refine bodyPost_ret (results_H rfl H rfl (by repeat constructor)) rfl ?_
  all_goals first
    | (rw [show m = g.m from HM.out.trans (by unfold plainlyM; rw [if_neg (by first | assumption | (exact beq_iff_eq.1 (by assumption)) | (exact bne_eq_false_iff_eq.1 (by assumption)) | (exact beq_eq_false_iff_ne.1 (by assumption)) | (exact bne_iff_ne.1 (by assumption)))])]; exact ⟨p1, r1, l1, n1, rfl, hp1.out, hr1.out, hl1.out, hn1.out, (H.gret (by repeat constructor) (by repeat constructor) (by repeat constructor) (by repeat constructor)), H.below⟩)
    | (rw [show m = m2 from HM.out.trans (by unfold plainlyM; rw [HJ.out, if_pos (by first | assumption | (exact beq_iff_eq.1 (by assumption)) | (exact bne_eq_false_iff_eq.1 (by assumption)) | (exact beq_eq_false_iff_ne.1 (by assumption)) | (exact bne_iff_ne.1 (by assumption)))]; rw [if_pos HY.out]; rw [if_pos (by first | assumption | (exact beq_iff_eq.1 (by assumption)) | (exact bne_eq_false_iff_eq.1 (by assumption)) | (exact beq_eq_false_iff_ne.1 (by assumption)) | (exact bne_iff_ne.1 (by assumption))), H2.out]; rfl)]; exact ⟨p2, r2, l2, n2, rfl, hp2.out, hr2.out, hl2.out, hn2.out, (H.gret (by repeat constructor) (by repeat constructor) (by repeat constructor) (by repeat constructor)), H.below⟩)
    | (rw [show m = m3 from HM.out.trans (by unfold plainlyM; rw [HJ.out, if_pos (by first | assumption | (exact beq_iff_eq.1 (by assumption)) | (exact bne_eq_false_iff_eq.1 (by assumption)) | (exact beq_eq_false_iff_ne.1 (by assumption)) | (exact bne_iff_ne.1 (by assumption)))]; rw [if_pos HY.out]; rw [if_neg (by first | assumption | (exact beq_iff_eq.1 (by assumption)) | (exact bne_eq_false_iff_eq.1 (by assumption)) | (exact beq_eq_false_iff_ne.1 (by assumption)) | (exact bne_iff_ne.1 (by assumption))), if_pos (by first | assumption | (exact beq_iff_eq.1 (by assumption)) | (exact bne_eq_false_iff_eq.1 (by assumption)) | (exact beq_eq_false_iff_ne.1 (by assumption)) | (exact bne_iff_ne.1 (by assumption))), H3.out]; rfl)]; exact ⟨p2, r2, l2, n2, rfl, hp2.out, hr2.out, hl2.out, hn2.out, (H.gret (by repeat constructor) (by repeat constructor) (by repeat constructor) (by repeat constructor)), H.below⟩)
    | (rw [show m = { g.m with pc := i.x } from HM.out.trans (by unfold plainlyM; rw [HJ.out, if_pos (by first | assumption | (exact beq_iff_eq.1 (by assumption)) | (exact bne_eq_false_iff_eq.1 (by assumption)) | (exact beq_eq_false_iff_ne.1 (by assumption)) | (exact bne_iff_ne.1 (by assumption)))]; rw [if_pos HY.out]; rw [if_neg (by first | assumption | (exact beq_iff_eq.1 (by assumption)) | (exact bne_eq_false_iff_eq.1 (by assumption)) | (exact beq_eq_false_iff_ne.1 (by assumption)) | (exact bne_iff_ne.1 (by assumption))), if_neg (by first | assumption | (exact beq_iff_eq.1 (by assumption)) | (exact bne_eq_false_iff_eq.1 (by assumption)) | (exact beq_eq_false_iff_ne.1 (by assumption)) | (exact bne_iff_ne.1 (by assumption))), if_pos ⟨by first | assumption | (exact beq_iff_eq.1 (by assumption)) | (exact bne_eq_false_iff_eq.1 (by assumption)) | (exact beq_eq_false_iff_ne.1 (by assumption)) | (exact bne_iff_ne.1 (by assumption)), by first | assumption | (exact beq_iff_eq.1 (by assumption)) | (exact bne_eq_false_iff_eq.1 (by assumption)) | (exact beq_eq_false_iff_ne.1 (by assumption)) | (exact bne_iff_ne.1 (by assumption))⟩])]; exact ⟨p1, r1, l1, n1, rfl, hp1.out, hr1.out, hl1.out, hn1.out, (H.gret (by repeat constructor) (by repeat constructor) (by repeat constructor) (by repeat constructor)), H.below⟩)
    | (rw [show m = m1 from HM.out.trans (by unfold plainlyM; rw [HJ.out, if_pos (by first | assumption | (exact beq_iff_eq.1 (by assumption)) | (exact bne_eq_false_iff_eq.1 (by assumption)) | (exact beq_eq_false_iff_ne.1 (by assumption)) | (exact bne_iff_ne.1 (by assumption)))]; rw [if_pos HY.out]; rw [if_neg (by first | assumption | (exact beq_iff_eq.1 (by assumption)) | (exact bne_eq_false_iff_eq.1 (by assumption)) | (exact beq_eq_false_iff_ne.1 (by assumption)) | (exact bne_iff_ne.1 (by assumption))), if_neg (by first | assumption | (exact beq_iff_eq.1 (by assumption)) | (exact bne_eq_false_iff_eq.1 (by assumption)) | (exact beq_eq_false_iff_ne.1 (by assumption)) | (exact bne_iff_ne.1 (by assumption))), if_neg (by rintro ⟨h1, h2⟩; have h2 : g.a = 0 := h2; simp_all; done)]; exact H1.out.symm)]; exact ⟨p2, r2, l2, n2, rfl, hp2.out, hr2.out, hl2.out, hn2.out, (H.gret (by repeat constructor) (by repeat constructor) (by repeat constructor) (by repeat constructor)), H.below⟩)
set_option maxRecDepth 100000 in
set_option maxHeartbeats 2000000 in
theorem specPlainly_na (g : GV) (ha : inB g.a 0 99 = false) (m : MG) (hm : m = plainlyM g.m) (w : World) (hg : GRd w g) (hz : GBig g) :
    Calls Tryz.prog 97 #[g.val] w (MkG w m) := by
  obtain ⟨R1, R2, R3, R4⟩ := id hg
  obtain ⟨Z1, Z2, Z3, Z4⟩ := id hz
  simp only [big] at Z1 Z2 Z3 Z4
  have HM := Lib.hid hm; clear hm
  obtain ⟨i, hi⟩ : ∃ i, i = insAtM g.prog.xs g.pc := ⟨_, rfl⟩
  have HI := Lib.hid hi; clear hi
  have HJ : Hid (insAtM g.m.prog g.m.pc = i) := HI.out.symm
  obtain ⟨m1, h1⟩ : ∃ m1, m1 = movedM g.m := ⟨_, rfl⟩
  have H1 := Lib.hid h1; clear h1
  obtain ⟨m2, h2⟩ : ∃ m2, m2 = movedM ({ g with a := i.x } : GV).m := ⟨_, rfl⟩
  have H2 := Lib.hid h2; clear h2
  obtain ⟨m3, h3⟩ : ∃ m3, m3 = movedM ({ g with a := (g.a + i.x) % 100 } : GV).m := ⟨_, rfl⟩
  have H3 := Lib.hid h3; clear h3
  have HN : Hid (¬ (inB g.m.a 0 99 && inB i.x 0 99) = true) := (by show ¬ (inB g.a 0 99 && inB i.x 0 99) = true; rw [ha]; simp)
  have H := Hp.start w
  go_enter Tryz.func97, Tryz.ntmps97
  go_wp2_with (first
    | (refine wpList_box_H rfl rfl H rfl (by constructor) ?_; clear H; intro b w H)
    | (refine wpList_alloc_H rfl rfl H ?_; clear H; intro b w H)
    | (refine wpList_load_H rfl rfl H rfl (by repeat constructor) ?_)
    | (refine wpList_loads_H rfl rfl H rfl (by repeat constructor) ?_)
    | (refine wpList_store_H rfl rfl H rfl rfl (by repeat constructor) ?_; clear H; intro w H)
    | (go_at_call 95; ((with_reducible refine (specWantOf_any g _ (R1.at_ H) Z1).mono ?_)); rintro e w ⟨rfl, hb⟩; replace H := H.still hb; clear hb)
    | (go_at_call 149; ((with_reducible refine (l15Copy_c g _ (hg.at_ H) hz).mono ?_)); rintro e w ⟨p1, r1, l1, n1, rfl, x1, x2, x3, x4, ho, hb⟩; have hp1 := Lib.hid x1; have hr1 := Lib.hid x2; have hl1 := Lib.hid x3; have hn1 := Lib.hid x4; clear x1 x2 x3 x4; replace H := (H.add_gst ho hb).slices; clear ho hb)
    | (go_at_call 109; ((with_reducible refine (specInsAt_c g.prog g.pc _ (R1.at_ H) Z1 i HI.out).mono ?_)); rintro e w ⟨rfl, hb⟩; replace H := H.still hb; clear hb)
    | (go_at_call 78; ((with_reducible refine (in_any g.a 0 99 _).mono ?_)); rintro e w' ⟨rfl, rfl⟩)
    | (go_at_call 78; ((with_reducible refine (in_any i.x 0 99 _).mono ?_)); rintro e w' ⟨rfl, rfl⟩)
    | (go_at_call 79; ((with_reducible refine (specMoved_u g.prog g.a g.pc g.written g.live g.ctl g.pending g.exit g.halted g.seen m1 H1.out _ ⟨R1.at_ H, R2.at_ H, R3.at_ H, R4.at_ H⟩ (gbig_mk Z1 Z2 Z3 Z4)).mono ?_)); rintro e w ⟨p2, r2, l2, n2, rfl, x1, x2, x3, x4, ho, hb⟩; have hp2 := Lib.hid x1; have hr2 := Lib.hid x2; have hl2 := Lib.hid x3; have hn2 := Lib.hid x4; clear x1 x2 x3 x4; replace H := (H.add_gst ho hb).slices; clear ho hb)
    | (go_at_call 79; ((with_reducible refine (specMoved_u g.prog i.x g.pc g.written g.live g.ctl g.pending g.exit g.halted g.seen m2 H2.out _ ⟨R1.at_ H, R2.at_ H, R3.at_ H, R4.at_ H⟩ (gbig_mk Z1 Z2 Z3 Z4)).mono ?_)); rintro e w ⟨p2, r2, l2, n2, rfl, x1, x2, x3, x4, ho, hb⟩; have hp2 := Lib.hid x1; have hr2 := Lib.hid x2; have hl2 := Lib.hid x3; have hn2 := Lib.hid x4; clear x1 x2 x3 x4; replace H := (H.add_gst ho hb).slices; clear ho hb)
    | (go_at_call 79; ((with_reducible refine (specMoved_u g.prog ((g.a + i.x) % 100) g.pc g.written g.live g.ctl g.pending g.exit g.halted g.seen m3 H3.out _ ⟨R1.at_ H, R2.at_ H, R3.at_ H, R4.at_ H⟩ (gbig_mk Z1 Z2 Z3 Z4)).mono ?_)); rintro e w ⟨p2, r2, l2, n2, rfl, x1, x2, x3, x4, ho, hb⟩; have hp2 := Lib.hid x1; have hr2 := Lib.hid x2; have hl2 := Lib.hid x3; have hn2 := Lib.hid x4; clear x1 x2 x3 x4; replace H := (H.add_gst ho hb).slices; clear ho hb))
  all_goals refine bodyPost_ret (results_H rfl H rfl (by repeat constructor)) rfl ?_
  all_goals first
    | (rw [show m = g.m from HM.out.trans (by unfold plainlyM; rw [if_neg (by first | assumption | (exact beq_iff_eq.1 (by assumption)) | (exact bne_eq_false_iff_eq.1 (by assumption)) | (exact beq_eq_false_iff_ne.1 (by assumption)) | (exact bne_iff_ne.1 (by assumption)))])]; exact ⟨p1, r1, l1, n1, rfl, hp1.out, hr1.out, hl1.out, hn1.out, (H.gret (by repeat constructor) (by repeat constructor) (by repeat constructor) (by repeat constructor)), H.below⟩)
    | (rw [show m = m1 from HM.out.trans (by unfold plainlyM; rw [HJ.out, if_pos (by first | assumption | (exact beq_iff_eq.1 (by assumption)) | (exact bne_eq_false_iff_eq.1 (by assumption)) | (exact beq_eq_false_iff_ne.1 (by assumption)) | (exact bne_iff_ne.1 (by assumption)))]; rw [if_neg HN.out]; exact H1.out.symm)]; exact ⟨p2, r2, l2, n2, rfl, hp2.out, hr2.out, hl2.out, hn2.out, (H.gret (by repeat constructor) (by repeat constructor) (by repeat constructor) (by repeat constructor)), H.below⟩)
set_option maxRecDepth 100000 in
set_option maxHeartbeats 2000000 in
theorem specPlainly_nx (g : GV) (ha : inB g.a 0 99 = true) (hx : inB (insAtM g.prog.xs g.pc).x 0 99 = false) (m : MG) (hm : m = plainlyM g.m) (w : World) (hg : GRd w g) (hz : GBig g) :
    Calls Tryz.prog 97 #[g.val] w (MkG w m) := by
  obtain ⟨R1, R2, R3, R4⟩ := id hg
  obtain ⟨Z1, Z2, Z3, Z4⟩ := id hz
  simp only [big] at Z1 Z2 Z3 Z4
  have HM := Lib.hid hm; clear hm
  obtain ⟨i, hi⟩ : ∃ i, i = insAtM g.prog.xs g.pc := ⟨_, rfl⟩
  have HI := Lib.hid hi; clear hi
  have HJ : Hid (insAtM g.m.prog g.m.pc = i) := HI.out.symm
  obtain ⟨m1, h1⟩ : ∃ m1, m1 = movedM g.m := ⟨_, rfl⟩
  have H1 := Lib.hid h1; clear h1
  obtain ⟨m2, h2⟩ : ∃ m2, m2 = movedM ({ g with a := i.x } : GV).m := ⟨_, rfl⟩
  have H2 := Lib.hid h2; clear h2
  obtain ⟨m3, h3⟩ : ∃ m3, m3 = movedM ({ g with a := (g.a + i.x) % 100 } : GV).m := ⟨_, rfl⟩
  have H3 := Lib.hid h3; clear h3
  have HN : Hid (¬ (inB g.m.a 0 99 && inB i.x 0 99) = true) := (by rw [HI.out]; show ¬ (inB g.a 0 99 && inB (insAtM g.prog.xs g.pc).x 0 99) = true; rw [hx]; simp)
  have hx : inB i.x 0 99 = false := by rw [HI.out]; exact hx
  have H := Hp.start w
  go_enter Tryz.func97, Tryz.ntmps97
  go_wp2_with (first
    | (refine wpList_box_H rfl rfl H rfl (by constructor) ?_; clear H; intro b w H)
    | (refine wpList_alloc_H rfl rfl H ?_; clear H; intro b w H)
    | (refine wpList_load_H rfl rfl H rfl (by repeat constructor) ?_)
    | (refine wpList_loads_H rfl rfl H rfl (by repeat constructor) ?_)
    | (refine wpList_store_H rfl rfl H rfl rfl (by repeat constructor) ?_; clear H; intro w H)
    | (go_at_call 95; ((with_reducible refine (specWantOf_any g _ (R1.at_ H) Z1).mono ?_)); rintro e w ⟨rfl, hb⟩; replace H := H.still hb; clear hb)
    | (go_at_call 149; ((with_reducible refine (l15Copy_c g _ (hg.at_ H) hz).mono ?_)); rintro e w ⟨p1, r1, l1, n1, rfl, x1, x2, x3, x4, ho, hb⟩; have hp1 := Lib.hid x1; have hr1 := Lib.hid x2; have hl1 := Lib.hid x3; have hn1 := Lib.hid x4; clear x1 x2 x3 x4; replace H := (H.add_gst ho hb).slices; clear ho hb)
    | (go_at_call 109; ((with_reducible refine (specInsAt_c g.prog g.pc _ (R1.at_ H) Z1 i HI.out).mono ?_)); rintro e w ⟨rfl, hb⟩; replace H := H.still hb; clear hb)
    | (go_at_call 78; ((with_reducible refine (in_any g.a 0 99 _).mono ?_)); rintro e w' ⟨rfl, rfl⟩)
    | (go_at_call 78; ((with_reducible refine (in_any i.x 0 99 _).mono ?_)); rintro e w' ⟨rfl, rfl⟩)
    | (go_at_call 79; ((with_reducible refine (specMoved_u g.prog g.a g.pc g.written g.live g.ctl g.pending g.exit g.halted g.seen m1 H1.out _ ⟨R1.at_ H, R2.at_ H, R3.at_ H, R4.at_ H⟩ (gbig_mk Z1 Z2 Z3 Z4)).mono ?_)); rintro e w ⟨p2, r2, l2, n2, rfl, x1, x2, x3, x4, ho, hb⟩; have hp2 := Lib.hid x1; have hr2 := Lib.hid x2; have hl2 := Lib.hid x3; have hn2 := Lib.hid x4; clear x1 x2 x3 x4; replace H := (H.add_gst ho hb).slices; clear ho hb)
    | (go_at_call 79; ((with_reducible refine (specMoved_u g.prog i.x g.pc g.written g.live g.ctl g.pending g.exit g.halted g.seen m2 H2.out _ ⟨R1.at_ H, R2.at_ H, R3.at_ H, R4.at_ H⟩ (gbig_mk Z1 Z2 Z3 Z4)).mono ?_)); rintro e w ⟨p2, r2, l2, n2, rfl, x1, x2, x3, x4, ho, hb⟩; have hp2 := Lib.hid x1; have hr2 := Lib.hid x2; have hl2 := Lib.hid x3; have hn2 := Lib.hid x4; clear x1 x2 x3 x4; replace H := (H.add_gst ho hb).slices; clear ho hb)
    | (go_at_call 79; ((with_reducible refine (specMoved_u g.prog ((g.a + i.x) % 100) g.pc g.written g.live g.ctl g.pending g.exit g.halted g.seen m3 H3.out _ ⟨R1.at_ H, R2.at_ H, R3.at_ H, R4.at_ H⟩ (gbig_mk Z1 Z2 Z3 Z4)).mono ?_)); rintro e w ⟨p2, r2, l2, n2, rfl, x1, x2, x3, x4, ho, hb⟩; have hp2 := Lib.hid x1; have hr2 := Lib.hid x2; have hl2 := Lib.hid x3; have hn2 := Lib.hid x4; clear x1 x2 x3 x4; replace H := (H.add_gst ho hb).slices; clear ho hb))
  all_goals refine bodyPost_ret (results_H rfl H rfl (by repeat constructor)) rfl ?_
  all_goals first
    | (rw [show m = g.m from HM.out.trans (by unfold plainlyM; rw [if_neg (by first | assumption | (exact beq_iff_eq.1 (by assumption)) | (exact bne_eq_false_iff_eq.1 (by assumption)) | (exact beq_eq_false_iff_ne.1 (by assumption)) | (exact bne_iff_ne.1 (by assumption)))])]; exact ⟨p1, r1, l1, n1, rfl, hp1.out, hr1.out, hl1.out, hn1.out, (H.gret (by repeat constructor) (by repeat constructor) (by repeat constructor) (by repeat constructor)), H.below⟩)
    | (rw [show m = m1 from HM.out.trans (by unfold plainlyM; rw [HJ.out, if_pos (by first | assumption | (exact beq_iff_eq.1 (by assumption)) | (exact bne_eq_false_iff_eq.1 (by assumption)) | (exact beq_eq_false_iff_ne.1 (by assumption)) | (exact bne_iff_ne.1 (by assumption)))]; rw [if_neg HN.out]; exact H1.out.symm)]; exact ⟨p2, r2, l2, n2, rfl, hp2.out, hr2.out, hl2.out, hn2.out, (H.gret (by repeat constructor) (by repeat constructor) (by repeat constructor) (by repeat constructor)), H.below⟩)
theorem specPlainly_c (g : GV) (m : MG) (hm : m = plainlyM g.m) (w : World) (hg : GRd w g) (hz : GBig g) : Calls Tryz.prog 97 #[g.val] w (MkG w m) := by
  by_cases ha : inB g.a 0 99 = true
  · by_cases hx : inB (insAtM g.prog.xs g.pc).x 0 99 = true
    · exact specPlainly_yy g ha hx m hm w hg hz
    · exact specPlainly_nx g ha (by simpa using hx) m hm w hg hz
  · exact specPlainly_na g (by simpa using ha) m hm w hg hz
end Go.Proofs.YtaafnenmdombiaaGreat
