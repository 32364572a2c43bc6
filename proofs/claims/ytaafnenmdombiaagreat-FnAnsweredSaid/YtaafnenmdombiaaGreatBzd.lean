/- Contracts of BareSet, BareAnswer and BareResume, of the program and of the reference. No condition but that the arguments lie in memory. -/
import Derived.Test.YtaafnenmdombiaaGreatBza
import Derived.Maps.RangeWalk
namespace Go.Proofs.YtaafnenmdombiaaGreat
set_option linter.unusedSimpArgs false
set_option linter.unusedVariables false
open Go.RowKit
theorem val_eq {P : Program} {f : FuncId} {args : Array Value} {w0 w : World} {L : List En} {v v' : Value} (h : Calls P f args w (fun e w' => ∃ u, e = .returned u ∧ (u = v ∧ Hp w0 w' L))) (e : v = v') : Calls P f args w (fun e w' => ∃ u, e = .returned u ∧ (u = v' ∧ Hp w0 w' L)) := e ▸ h
end Go.Proofs.YtaafnenmdombiaaGreat

/- Contracts of BareAnswer and BareResume, of the program and of the reference. No condition but that the arguments lie in memory. -/
namespace Go.Proofs.YtaafnenmdombiaaGreat
set_option linter.unusedSimpArgs false
set_option linter.unusedVariables false
set_option linter.unusedSimpArgs false
set_option linter.unusedVariables false
open Go.RowKit
@[go_sem] theorem run_field_exit0 (a b c e : Value) (w : World) : (Instr.field 51 (.agg #[a, b, c, e]) 0).run Tryz.prog w = .ok a w := by kernel_rfl
abbrev noExit : Exit := ⟨0, 0, false, 0⟩
def ansC (m : MB) (g v : Int) : Bool := ((gAtM m g).exit.kind == 2 || (gAtM m g).exit.kind == 3) && inB v 0 99
def ansF (m : MB) (g v : Int) : MG → MG := answerG (gAtM m g).exit.kind v
def resC (m : MB) (g : Int) : Bool := (gAtM m g).exit.kind == 1 || (gAtM m g).exit.kind == 4
def resF (m : MB) (g : Int) : MG → MG := resumeG (gAtM m g).exit.kind
theorem answer_sz (kd v : Int) (m : MG) : (answerG kd v m).size = m.size := by unfold answerG stoppedM; split <;> rfl
theorem resume_sz (kd : Int) (m : MG) : (resumeG kd m).size = m.size := by unfold resumeG heldM; split <;> rfl
theorem mkg {w : World} {e : Ending} {w' : World} {m : MG} (h : MkG w m e w') : ∃ d : GV, e = .returned d.val ∧ d.m = m ∧ Hp w w' [.gst d] := by
  obtain ⟨d, he, hm, ho, hb⟩ := MkGc.val h
  exact ⟨d, he, hm, Hp.of_gst ho hb⟩
set_option maxRecDepth 100000 in
set_option maxHeartbeats 4000000 in
theorem bareAnswer1_t (x : GV) (kd v : Int) (hk : (kd == 2) = true) (b c : Nat) (W0 : World) (R : GRd W0 x) (Z : GBig x) (h5 : Rw W0 b 3 ([.int .i64 kd] : List Value).toArray) (h6 : Rw W0 c 3 ([.int .i64 v] : List Value).toArray) : Calls Tryz.prog 73 #[x.val, .pointer (some ⟨b, 0, none⟩), .pointer (some ⟨c, 0, none⟩)] W0 fun e w' => ∃ y : GV, e = .returned y.val ∧ (y.m = answerG kd v x.m ∧ GRd w' y) ∧ Below W0.heap.size W0 w' := by
  have H := Hp.start W0
  go_enter Tryz.func73, Tryz.ntmps73
  go_wp2_with (first
    | go_skip
    | ((with_reducible refine at_box ?_); first | (refine wpList_box_H rfl rfl H rfl (by constructor) ?_; clear H; intro bX w H))
    | ((with_reducible refine at_alloc ?_); first | (refine wpList_alloc_H rfl rfl H ?_; clear H; intro bR w H))
    | ((with_reducible refine at_load ?_); first | (refine wpList_loadc rfl rfl H rfl h5 rfl ?_) | (refine wpList_loadc rfl rfl H rfl h6 rfl ?_) | (refine wpList_load_H rfl rfl H rfl (by repeat constructor) ?_) | (refine wpList_loads_H rfl rfl H rfl (by repeat constructor) ?_))
    | ((with_reducible refine at_store ?_); first | (refine wpList_store_H rfl rfl H rfl rfl (by repeat constructor) ?_; clear H; intro w H))
    | (go_at_call 75; refine (stopped_c (⟨x.prog, v, x.pc, x.written, x.live, x.ctl, x.pending, x.exit, x.halted, x.seen⟩ : GV) noExit _ rfl _ ⟨(R.at_ H).prog, (R.at_ H).written, (R.at_ H).live, (R.at_ H).seen⟩ Z).mono ?_; rintro e w hmk; obtain ⟨q, he, x1, K⟩ := mkg hmk; subst he; have Hq : Hid (q.m = stoppedM (⟨x.prog, v, x.pc, x.written, x.live, x.ctl, x.pending, x.exit, x.halted, x.seen⟩ : GV).m noExit) := x1; clear x1 hmk; have zq : GBig q := gbig_mm (m := stoppedM (⟨x.prog, v, x.pc, x.written, x.live, x.ctl, x.pending, x.exit, x.halted, x.seen⟩ : GV).m noExit) (Z.m : MBig x.m) Hq; replace H := H.add_all K; clear K)
    | (go_at_call 74; refine (moved_c q _ rfl _ (H.grd1 (by repeat constructor)) zq).mono ?_; rintro e w hmk; obtain ⟨y, he, x1, K⟩ := mkg hmk; subst he; have Hy : Hid (y.m = movedM q.m) := x1; clear x1 hmk; replace H := H.add_all K; clear K))
  refine bodyPost_ret (results_H rfl H rfl (by repeat constructor)) rfl ⟨y, rfl, ⟨?_, H.grd1 (by repeat constructor)⟩, H.below⟩
  rw [Hy.out, Hq.out]; unfold answerG
  have hk' : kd = 2 := by simpa using hk
  rw [if_pos hk']
  all_goals rfl
set_option maxRecDepth 100000 in
set_option maxHeartbeats 4000000 in
theorem bareAnswer1_f (x : GV) (kd v : Int) (hk : (kd == 2) = false) (b c : Nat) (W0 : World) (R : GRd W0 x) (Z : GBig x) (h5 : Rw W0 b 3 ([.int .i64 kd] : List Value).toArray) (h6 : Rw W0 c 3 ([.int .i64 v] : List Value).toArray) : Calls Tryz.prog 73 #[x.val, .pointer (some ⟨b, 0, none⟩), .pointer (some ⟨c, 0, none⟩)] W0 fun e w' => ∃ y : GV, e = .returned y.val ∧ (y.m = answerG kd v x.m ∧ GRd w' y) ∧ Below W0.heap.size W0 w' := by
  have H := Hp.start W0
  go_enter Tryz.func73, Tryz.ntmps73
  go_wp2_with (first
    | go_skip
    | ((with_reducible refine at_box ?_); first | (refine wpList_box_H rfl rfl H rfl (by constructor) ?_; clear H; intro bX w H))
    | ((with_reducible refine at_alloc ?_); first | (refine wpList_alloc_H rfl rfl H ?_; clear H; intro bR w H))
    | ((with_reducible refine at_load ?_); first | (refine wpList_loadc rfl rfl H rfl h5 rfl ?_) | (refine wpList_loadc rfl rfl H rfl h6 rfl ?_) | (refine wpList_load_H rfl rfl H rfl (by repeat constructor) ?_) | (refine wpList_loads_H rfl rfl H rfl (by repeat constructor) ?_))
    | ((with_reducible refine at_store ?_); first | (refine wpList_store_H rfl rfl H rfl rfl (by repeat constructor) ?_; clear H; intro w H))
    | (go_at_call 75; refine (stopped_c x noExit _ rfl _ ⟨(R.at_ H).prog, (R.at_ H).written, (R.at_ H).live, (R.at_ H).seen⟩ Z).mono ?_; rintro e w hmk; obtain ⟨q, he, x1, K⟩ := mkg hmk; subst he; have Hq : Hid (q.m = stoppedM x.m noExit) := x1; clear x1 hmk; have zq : GBig q := gbig_mm (m := stoppedM x.m noExit) (Z.m : MBig x.m) Hq; replace H := H.add_all K; clear K)
    | (go_at_call 74; refine (moved_c q _ rfl _ (H.grd1 (by repeat constructor)) zq).mono ?_; rintro e w hmk; obtain ⟨y, he, x1, K⟩ := mkg hmk; subst he; have Hy : Hid (y.m = movedM q.m) := x1; clear x1 hmk; replace H := H.add_all K; clear K))
  refine bodyPost_ret (results_H rfl H rfl (by repeat constructor)) rfl ⟨y, rfl, ⟨?_, H.grd1 (by repeat constructor)⟩, H.below⟩
  rw [Hy.out, Hq.out]; unfold answerG
  have hk' : ¬ kd = 2 := by simpa using hk
  rw [if_neg hk']
  all_goals rfl
set_option maxRecDepth 100000 in
set_option maxHeartbeats 4000000 in
theorem bareResume1_t (x : GV) (kd : Int) (hk : (kd == 4) = true) (b : Nat) (W0 : World) (R : GRd W0 x) (Z : GBig x) (h5 : Rw W0 b 3 ([.int .i64 kd] : List Value).toArray) : Calls Tryz.prog 81 #[x.val, .pointer (some ⟨b, 0, none⟩)] W0 fun e w' => ∃ y : GV, e = .returned y.val ∧ (y.m = resumeG kd x.m ∧ GRd w' y) ∧ Below W0.heap.size W0 w' := by
  have H := Hp.start W0
  go_enter Tryz.func81, Tryz.ntmps81
  go_wp2_with (first
    | go_skip
    | ((with_reducible refine at_box ?_); first | (refine wpList_box_H rfl rfl H rfl (by constructor) ?_; clear H; intro bX w H))
    | ((with_reducible refine at_alloc ?_); first | (refine wpList_alloc_H rfl rfl H ?_; clear H; intro bR w H))
    | ((with_reducible refine at_load ?_); first | (refine wpList_loadc rfl rfl H rfl h5 rfl ?_) | (refine wpList_load_H rfl rfl H rfl (by repeat constructor) ?_) | (refine wpList_loads_H rfl rfl H rfl (by repeat constructor) ?_))
    | ((with_reducible refine at_store ?_); first | (refine wpList_store_H rfl rfl H rfl rfl (by repeat constructor) ?_; clear H; intro w H))
    | (go_at_call 82; refine (held_c (⟨x.prog, x.a, x.pc, x.written, x.live, x.ctl, x.pending, noExit, x.halted, x.seen⟩ : GV) _ rfl _ ⟨(R.at_ H).prog, (R.at_ H).written, (R.at_ H).live, (R.at_ H).seen⟩ Z).mono ?_; rintro e w hmk; obtain ⟨y, he, x1, K⟩ := mkg hmk; subst he; have Hy : Hid (y.m = heldM (⟨x.prog, x.a, x.pc, x.written, x.live, x.ctl, x.pending, noExit, x.halted, x.seen⟩ : GV).m) := x1; clear x1 hmk; replace H := H.add_all K; clear K))
  refine bodyPost_ret (results_H rfl H rfl (by repeat constructor)) rfl ⟨y, rfl, ⟨?_, H.grd1 (by repeat constructor)⟩, H.below⟩
  rw [Hy.out]; unfold resumeG
  rw [if_pos (by simpa using hk)]
  all_goals rfl
set_option maxRecDepth 100000 in
set_option maxHeartbeats 4000000 in
theorem bareResume1_f (x : GV) (kd : Int) (hk : (kd == 4) = false) (b : Nat) (W0 : World) (R : GRd W0 x) (Z : GBig x) (h5 : Rw W0 b 3 ([.int .i64 kd] : List Value).toArray) : Calls Tryz.prog 81 #[x.val, .pointer (some ⟨b, 0, none⟩)] W0 fun e w' => ∃ y : GV, e = .returned y.val ∧ (y.m = resumeG kd x.m ∧ GRd w' y) ∧ Below W0.heap.size W0 w' := by
  have H := Hp.start W0
  go_enter Tryz.func81, Tryz.ntmps81
  go_wp2_with (first
    | go_skip
    | ((with_reducible refine at_box ?_); first | (refine wpList_box_H rfl rfl H rfl (by constructor) ?_; clear H; intro bX w H))
    | ((with_reducible refine at_alloc ?_); first | (refine wpList_alloc_H rfl rfl H ?_; clear H; intro bR w H))
    | ((with_reducible refine at_load ?_); first | (refine wpList_loadc rfl rfl H rfl h5 rfl ?_) | (refine wpList_load_H rfl rfl H rfl (by repeat constructor) ?_) | (refine wpList_loads_H rfl rfl H rfl (by repeat constructor) ?_))
    | ((with_reducible refine at_store ?_); first | (refine wpList_store_H rfl rfl H rfl rfl (by repeat constructor) ?_; clear H; intro w H)))
  refine bodyPost_ret (results_H rfl H rfl (by repeat constructor)) rfl ⟨⟨x.prog, x.a, x.pc, x.written, x.live, x.ctl, x.pending, noExit, x.halted, x.seen⟩, rfl, ⟨?_, ⟨R.prog.at_ H, R.written.at_ H, R.live.at_ H, R.seen.at_ H⟩⟩, H.below⟩
  unfold resumeG
  rw [if_neg (by simpa using hk)]
  all_goals rfl
set_option maxRecDepth 100000 in
set_option maxHeartbeats 4000000 in
theorem bareAnswer_c (B : BV) (g v : Int) (W0 : World) (R : BRd W0 B) (Z : BBig B) : Calls Tryz.prog 9 #[B.val, .int .i64 g, .int .i64 v] W0 fun e w' => ∃ d : BV, e = .returned (.tuple #[d.val, .bool (chOkM B.m g (ansC B.m g v))]) ∧ d.m = changedM B.m g (ansC B.m g v) (ansF B.m g v) ∧ Hp W0 w' [.bare d] := by
  obtain ⟨X, hX⟩ : ∃ X, X = (gAtM B.m g).exit := ⟨_, rfl⟩
  have HX : Hid ((gAtM B.m g).exit = X) := hX.symm
  obtain ⟨kd, pg, wr, n⟩ := X
  have hc : ansC B.m g v = ((kd == 2 || kd == 3) && inB v 0 99) := by unfold ansC; rw [← hX]
  have hf : ansF B.m g v = answerG kd v := by unfold ansF; rw [← hX]
  rw [hc, hf]
  clear hc hf hX
  cases e2 : (kd == 2)
  · cases e3 : (kd == 3)
    · rw [show ((false || false) && inB v 0 99) = false from rfl]
      have H := Hp.start W0
      go_enter Tryz.func9, Tryz.ntmps9
      go_wp2_with (first
        | go_skip
        | ((with_reducible refine at_box ?_); first | (refine wpList_box_H (cs := (barr B).toList) rfl rfl H rfl CellsOf.agg ?_; clear H; intro bB w H) | (refine wpList_box_H (cs := [.int .i64 v]) rfl rfl H rfl CellsOf.int ?_; clear H; intro bV w H))
        | ((with_reducible refine at_dst 6 ?_); refine wpList_alloc_H rfl rfl H ?_; clear H; intro bR w H)
        | ((with_reducible refine at_dst 8 ?_); refine wpList_alloc_H rfl rfl H ?_; clear H; intro bK w H)
        | ((with_reducible refine at_load ?_); first | (refine wpList_load_H rfl rfl H rfl (by repeat constructor) ?_) | (refine wpList_loads_H rfl rfl H rfl (by repeat constructor) ?_))
        | ((with_reducible refine at_store ?_); first | (refine wpList_store_H rfl rfl H rfl rfl (by repeat constructor) ?_; clear H; intro w H))
        | (go_at_call 62; refine (exitOf_c B g _ (R.at_ H) Z).mono ?_; rintro e w ⟨he, K⟩; rw [HX.out] at he; subst he; replace H := H.add_all K; clear K))
      refine wp_cut (fun u a' w' => ∃ (d : BV), Hid (d.m = changedM B.m g false (answerG kd v)) ∧ Hp W0 w' [.bare d, .box bR 28 (barr d).toList] ∧ a' = puts u [(13, B.val), (14, (.int .i64 g)), (15, (.int .i64 kd)), (16, (.bool false)), (17, (.bool false)), (18, (.int .i64 kd)), (19, (.bool false)), (20, (.bool false)), (21, (.bool false)), (22, undef), (23, undef), (24, (.bool false)), (25, (.func (.func 73) #[] #[.pointer (some ⟨bK, 0, none⟩), .pointer (some ⟨bV, 0, none⟩)])), (26, (.tuple #[d.val, .bool (chOkM B.m g false)])), (27, d.val), (28, (.bool (chOkM B.m g false))), (7, (.bool (chOkM B.m g false)))]) ?_ ?_
      · refine wp_region_held (S := (fun w' => Rw w' bB 28 (barr B) ∧ (Rw w' bK 3 ([.int .i64 kd] : List Value).toArray ∧ Rw w' bV 3 ([.int .i64 v] : List Value).toArray))) (by kernel_rfl) ?_
        replace H := H.drew
        refine tkH (i := 0) rfl .here (yields_loads_R rfl rfl rfl (fun _ hS => hS.1) (by repeat constructor)) ⟨H.rw_ (by repeat constructor), H.rw_ (by repeat constructor), H.rw_ (by repeat constructor)⟩ ?_
        (try go_frame)
        refine tkH (i := 1) rfl (.of rfl) (yields_val (v := (.int .i64 g)) rfl (fun _ => by go_simp)) ⟨H.rw_ (by repeat constructor), H.rw_ (by repeat constructor), H.rw_ (by repeat constructor)⟩ ?_
        (try go_frame)
        refine tkH (i := 2) rfl (.of rfl) (yields_load1_R rfl rfl rfl (fun _ hS => hS.2.1) rfl) ⟨H.rw_ (by repeat constructor), H.rw_ (by repeat constructor), H.rw_ (by repeat constructor)⟩ ?_
        (try go_frame)
        refine tkH (i := 3) rfl (.of rfl) (yields_val (v := (.bool false)) rfl (fun _ => by (first | (go_simp; done) | (go_simp; rw [e2]) | (rw [← e2]; go_simp)))) ⟨H.rw_ (by repeat constructor), H.rw_ (by repeat constructor), H.rw_ (by repeat constructor)⟩ ?_
        (try go_frame)
        refine tkH (i := 4) rfl (.of rfl) (yields_val (v := (.bool false)) rfl (fun _ => by go_simp)) ⟨H.rw_ (by repeat constructor), H.rw_ (by repeat constructor), H.rw_ (by repeat constructor)⟩ ?_
        (try go_frame)
        refine tkH (i := 5) rfl (.of rfl) (yields_load1_R rfl rfl rfl (fun _ hS => hS.2.1) rfl) ⟨H.rw_ (by repeat constructor), H.rw_ (by repeat constructor), H.rw_ (by repeat constructor)⟩ ?_
        (try go_frame)
        refine tkH (i := 6) rfl (.of rfl) (yields_val (v := (.bool false)) rfl (fun _ => by (first | (go_simp; done) | (go_simp; rw [e3]) | (rw [← e3]; go_simp)))) ⟨H.rw_ (by repeat constructor), H.rw_ (by repeat constructor), H.rw_ (by repeat constructor)⟩ ?_
        (try go_frame)
        refine tkH (i := 7) rfl (.of rfl) (yields_val (v := (.bool false)) rfl (fun _ => by go_simp)) ⟨H.rw_ (by repeat constructor), H.rw_ (by repeat constructor), H.rw_ (by repeat constructor)⟩ ?_
        (try go_frame)
        refine tkH (i := 8) rfl (.of rfl) (yields_val (v := (.bool false)) rfl (fun _ => by go_simp)) ⟨H.rw_ (by repeat constructor), H.rw_ (by repeat constructor), H.rw_ (by repeat constructor)⟩ ?_
        (try go_frame)
        refine tkH (i := 9) rfl (.of rfl) (.inr ⟨rfl, rfl⟩) ⟨H.rw_ (by repeat constructor), H.rw_ (by repeat constructor), H.rw_ (by repeat constructor)⟩ ?_
        (try go_frame)
        refine tkH (i := 10) rfl (.of rfl) (.inr ⟨rfl, rfl⟩) ⟨H.rw_ (by repeat constructor), H.rw_ (by repeat constructor), H.rw_ (by repeat constructor)⟩ ?_
        (try go_frame)
        refine tkH (i := 11) rfl (.of rfl) (yields_val (v := (.bool false)) rfl (fun _ => by go_simp)) ⟨H.rw_ (by repeat constructor), H.rw_ (by repeat constructor), H.rw_ (by repeat constructor)⟩ ?_
        (try go_frame)
        refine tkH (i := 12) rfl (.of rfl) (yields_val (v := (.func (.func 73) #[] #[.pointer (some ⟨bK, 0, none⟩), .pointer (some ⟨bV, 0, none⟩)])) rfl (fun _ => by go_simp)) ⟨H.rw_ (by repeat constructor), H.rw_ (by repeat constructor), H.rw_ (by repeat constructor)⟩ ?_
        (try go_frame)
        refine anyH_1 (i := 13) (by kernel_rfl) ?_
        refine wpOp_at rfl (.of rfl) rfl ?_
        refine wp_call_H Tryz.f71 rfl rfl Tryz.func71 (by kernel_rfl) rfl rfl (made_H (val := fun d : BV => .tuple #[d.val, .bool (chOkM B.m g false)]) H (changed_c B g false 73 Tryz.f73 Tryz.func73 (by kernel_rfl) #[.pointer (some ⟨bK, 0, none⟩), .pointer (some ⟨bV, 0, none⟩)] (answerG kd v) _ (R.at_ H) Z (by rw [answer_sz]; exact Nat.le_trans (gAtM_size B.m g) Z) (fun x _ hb Rx Zx => bareAnswer1_f x kd v e2 bK bV _ Rx Zx ((H.rw_ (cs := [.int .i64 kd]) (by repeat constructor)).below_ hb) ((H.rw_ (cs := [.int .i64 v]) (by repeat constructor)).below_ hb)))) ?_
        clear H
        rintro _ w ⟨d, rfl, HD, H⟩
        refine ⟨⟨H.rw_ (by repeat constructor), H.rw_ (by repeat constructor), H.rw_ (by repeat constructor)⟩, ?_⟩
        (try go_frame)
        refine tkH (i := 14) rfl (.of rfl) (yields_val (v := d.val) rfl (fun _ => by go_simp)) ⟨H.rw_ (by repeat constructor), H.rw_ (by repeat constructor), H.rw_ (by repeat constructor)⟩ ?_
        (try go_frame)
        refine tkH (i := 15) rfl (.of rfl) (yields_val (v := (.bool (chOkM B.m g false))) rfl (fun _ => by go_simp)) ⟨H.rw_ (by repeat constructor), H.rw_ (by repeat constructor), H.rw_ (by repeat constructor)⟩ ?_
        (try go_frame)
        refine anyH_1 (i := 16) (by kernel_rfl) ?_
        refine wpOp_at rfl (.of rfl) rfl ?_
        refine wp_store_H rfl H rfl rfl (by repeat constructor) ?_
        clear H
        intro w H
        refine ⟨⟨H.rw_ (by repeat constructor), H.rw_ (by repeat constructor), H.rw_ (by repeat constructor)⟩, ?_⟩
        (try go_frame)
        refine tkH (i := 17) rfl (.of rfl) (yields_val (v := (.bool (chOkM B.m g false))) rfl (fun _ => by go_simp)) ⟨H.rw_ (by repeat constructor), H.rw_ (by repeat constructor), H.rw_ (by repeat constructor)⟩ ?_
        (try go_frame)
        refine wpAnyH_done (by kernel_rfl) ?_ _
        exact ⟨rfl, d, HD, H.pick (.cons (by repeat constructor) (.cons (by repeat constructor) .nil)), by first | (simp only [puts_cons, puts_nil, Act.put, List.setIfInBounds_toArray, List.set_cons_succ, List.set_cons_zero]; done) | (simp only [puts_cons, puts_nil, Act.put, List.setIfInBounds_toArray, List.set_cons_succ, List.set_cons_zero]; rfl)⟩
      clear H
      rintro u w ⟨d, HD, H, rfl⟩
      simp only [puts_cons, puts_nil, Act.put, List.setIfInBounds_toArray, List.set_cons_succ, List.set_cons_zero]
      go_wp2_with (first
        | go_skip
        | ((with_reducible refine at_box ?_); first | (refine wpList_box_H rfl rfl H rfl (by constructor) ?_; clear H; intro b w H))
        | ((with_reducible refine at_alloc ?_); first | (refine wpList_alloc_H rfl rfl H ?_; clear H; intro b w H))
        | ((with_reducible refine at_load ?_); first | (refine wpList_load_H rfl rfl H rfl (by repeat constructor) ?_) | (refine wpList_loads_H rfl rfl H rfl (by repeat constructor) ?_))
        | ((with_reducible refine at_store ?_); first | (refine wpList_store_H rfl rfl H rfl rfl (by repeat constructor) ?_; clear H; intro w H)))
      refine bodyPost_ret (results_H2 rfl H rfl (by repeat constructor)) rfl ⟨d, rfl, HD.out, H.pick (.cons (by repeat constructor) .nil)⟩
    · cases e4 : inB v 0 99
      · rw [show ((false || true) && false) = false from rfl]
        have H := Hp.start W0
        go_enter Tryz.func9, Tryz.ntmps9
        go_wp2_with (first
          | go_skip
          | ((with_reducible refine at_box ?_); first | (refine wpList_box_H (cs := (barr B).toList) rfl rfl H rfl CellsOf.agg ?_; clear H; intro bB w H) | (refine wpList_box_H (cs := [.int .i64 v]) rfl rfl H rfl CellsOf.int ?_; clear H; intro bV w H))
          | ((with_reducible refine at_dst 6 ?_); refine wpList_alloc_H rfl rfl H ?_; clear H; intro bR w H)
          | ((with_reducible refine at_dst 8 ?_); refine wpList_alloc_H rfl rfl H ?_; clear H; intro bK w H)
          | ((with_reducible refine at_load ?_); first | (refine wpList_load_H rfl rfl H rfl (by repeat constructor) ?_) | (refine wpList_loads_H rfl rfl H rfl (by repeat constructor) ?_))
          | ((with_reducible refine at_store ?_); first | (refine wpList_store_H rfl rfl H rfl rfl (by repeat constructor) ?_; clear H; intro w H))
          | (go_at_call 62; refine (exitOf_c B g _ (R.at_ H) Z).mono ?_; rintro e w ⟨he, K⟩; rw [HX.out] at he; subst he; replace H := H.add_all K; clear K))
        refine wp_cut (fun u a' w' => ∃ (d : BV), Hid (d.m = changedM B.m g false (answerG kd v)) ∧ Hp W0 w' [.bare d, .box bR 28 (barr d).toList] ∧ a' = puts u [(13, B.val), (14, (.int .i64 g)), (15, (.int .i64 kd)), (16, (.bool false)), (17, (.bool false)), (18, (.int .i64 kd)), (19, (.bool true)), (20, (.bool true)), (21, (.bool true)), (22, (.int .i64 v)), (23, (.bool false)), (24, (.bool false)), (25, (.func (.func 73) #[] #[.pointer (some ⟨bK, 0, none⟩), .pointer (some ⟨bV, 0, none⟩)])), (26, (.tuple #[d.val, .bool (chOkM B.m g false)])), (27, d.val), (28, (.bool (chOkM B.m g false))), (7, (.bool (chOkM B.m g false)))]) ?_ ?_
        · refine wp_region_held (S := (fun w' => Rw w' bB 28 (barr B) ∧ (Rw w' bK 3 ([.int .i64 kd] : List Value).toArray ∧ Rw w' bV 3 ([.int .i64 v] : List Value).toArray))) (by kernel_rfl) ?_
          replace H := H.drew
          refine tkH (i := 0) rfl .here (yields_loads_R rfl rfl rfl (fun _ hS => hS.1) (by repeat constructor)) ⟨H.rw_ (by repeat constructor), H.rw_ (by repeat constructor), H.rw_ (by repeat constructor)⟩ ?_
          (try go_frame)
          refine tkH (i := 1) rfl (.of rfl) (yields_val (v := (.int .i64 g)) rfl (fun _ => by go_simp)) ⟨H.rw_ (by repeat constructor), H.rw_ (by repeat constructor), H.rw_ (by repeat constructor)⟩ ?_
          (try go_frame)
          refine tkH (i := 2) rfl (.of rfl) (yields_load1_R rfl rfl rfl (fun _ hS => hS.2.1) rfl) ⟨H.rw_ (by repeat constructor), H.rw_ (by repeat constructor), H.rw_ (by repeat constructor)⟩ ?_
          (try go_frame)
          refine tkH (i := 3) rfl (.of rfl) (yields_val (v := (.bool false)) rfl (fun _ => by (first | (go_simp; done) | (go_simp; rw [e2]) | (rw [← e2]; go_simp)))) ⟨H.rw_ (by repeat constructor), H.rw_ (by repeat constructor), H.rw_ (by repeat constructor)⟩ ?_
          (try go_frame)
          refine tkH (i := 4) rfl (.of rfl) (yields_val (v := (.bool false)) rfl (fun _ => by go_simp)) ⟨H.rw_ (by repeat constructor), H.rw_ (by repeat constructor), H.rw_ (by repeat constructor)⟩ ?_
          (try go_frame)
          refine tkH (i := 5) rfl (.of rfl) (yields_load1_R rfl rfl rfl (fun _ hS => hS.2.1) rfl) ⟨H.rw_ (by repeat constructor), H.rw_ (by repeat constructor), H.rw_ (by repeat constructor)⟩ ?_
          (try go_frame)
          refine tkH (i := 6) rfl (.of rfl) (yields_val (v := (.bool true)) rfl (fun _ => by (first | (go_simp; done) | (go_simp; rw [e3]) | (rw [← e3]; go_simp)))) ⟨H.rw_ (by repeat constructor), H.rw_ (by repeat constructor), H.rw_ (by repeat constructor)⟩ ?_
          (try go_frame)
          refine tkH (i := 7) rfl (.of rfl) (yields_val (v := (.bool true)) rfl (fun _ => by go_simp)) ⟨H.rw_ (by repeat constructor), H.rw_ (by repeat constructor), H.rw_ (by repeat constructor)⟩ ?_
          (try go_frame)
          refine tkH (i := 8) rfl (.of rfl) (yields_val (v := (.bool true)) rfl (fun _ => by go_simp)) ⟨H.rw_ (by repeat constructor), H.rw_ (by repeat constructor), H.rw_ (by repeat constructor)⟩ ?_
          (try go_frame)
          refine tkH (i := 9) rfl (.of rfl) (yields_load1_R rfl rfl rfl (fun _ hS => hS.2.2) rfl) ⟨H.rw_ (by repeat constructor), H.rw_ (by repeat constructor), H.rw_ (by repeat constructor)⟩ ?_
          (try go_frame)
          refine tkH (i := 12) rfl (.of rfl) (yields_val (v := (.func (.func 73) #[] #[.pointer (some ⟨bK, 0, none⟩), .pointer (some ⟨bV, 0, none⟩)])) rfl (fun _ => by go_simp)) ⟨H.rw_ (by repeat constructor), H.rw_ (by repeat constructor), H.rw_ (by repeat constructor)⟩ ?_
          (try go_frame)
          refine anyH_1 (i := 10) (by kernel_rfl) ?_
          refine wpOp_at rfl (.of rfl) rfl ?_
          refine wp_call_H Tryz.f72 rfl rfl Tryz.func72 (by kernel_rfl) rfl rfl (val_eq (same_v H (within_any v 0 99 _)) (by rw [e4])) ?_
          clear H
          rintro _ w ⟨rfl, H⟩
          refine ⟨⟨H.rw_ (by repeat constructor), H.rw_ (by repeat constructor), H.rw_ (by repeat constructor)⟩, ?_⟩
          (try go_frame)
          refine tkH (i := 11) rfl (.of rfl) (yields_val (v := (.bool false)) rfl (fun _ => by go_simp)) ⟨H.rw_ (by repeat constructor), H.rw_ (by repeat constructor), H.rw_ (by repeat constructor)⟩ ?_
          (try go_frame)
          refine anyH_1 (i := 13) (by kernel_rfl) ?_
          refine wpOp_at rfl (.of rfl) rfl ?_
          refine wp_call_H Tryz.f71 rfl rfl Tryz.func71 (by kernel_rfl) rfl rfl (made_H (val := fun d : BV => .tuple #[d.val, .bool (chOkM B.m g false)]) H (changed_c B g false 73 Tryz.f73 Tryz.func73 (by kernel_rfl) #[.pointer (some ⟨bK, 0, none⟩), .pointer (some ⟨bV, 0, none⟩)] (answerG kd v) _ (R.at_ H) Z (by rw [answer_sz]; exact Nat.le_trans (gAtM_size B.m g) Z) (fun x _ hb Rx Zx => bareAnswer1_f x kd v e2 bK bV _ Rx Zx ((H.rw_ (cs := [.int .i64 kd]) (by repeat constructor)).below_ hb) ((H.rw_ (cs := [.int .i64 v]) (by repeat constructor)).below_ hb)))) ?_
          clear H
          rintro _ w ⟨d, rfl, HD, H⟩
          refine ⟨⟨H.rw_ (by repeat constructor), H.rw_ (by repeat constructor), H.rw_ (by repeat constructor)⟩, ?_⟩
          (try go_frame)
          refine tkH (i := 14) rfl (.of rfl) (yields_val (v := d.val) rfl (fun _ => by go_simp)) ⟨H.rw_ (by repeat constructor), H.rw_ (by repeat constructor), H.rw_ (by repeat constructor)⟩ ?_
          (try go_frame)
          refine tkH (i := 15) rfl (.of rfl) (yields_val (v := (.bool (chOkM B.m g false))) rfl (fun _ => by go_simp)) ⟨H.rw_ (by repeat constructor), H.rw_ (by repeat constructor), H.rw_ (by repeat constructor)⟩ ?_
          (try go_frame)
          refine anyH_1 (i := 16) (by kernel_rfl) ?_
          refine wpOp_at rfl (.of rfl) rfl ?_
          refine wp_store_H rfl H rfl rfl (by repeat constructor) ?_
          clear H
          intro w H
          refine ⟨⟨H.rw_ (by repeat constructor), H.rw_ (by repeat constructor), H.rw_ (by repeat constructor)⟩, ?_⟩
          (try go_frame)
          refine tkH (i := 17) rfl (.of rfl) (yields_val (v := (.bool (chOkM B.m g false))) rfl (fun _ => by go_simp)) ⟨H.rw_ (by repeat constructor), H.rw_ (by repeat constructor), H.rw_ (by repeat constructor)⟩ ?_
          (try go_frame)
          refine wpAnyH_done (by kernel_rfl) ?_ _
          exact ⟨rfl, d, HD, H.pick (.cons (by repeat constructor) (.cons (by repeat constructor) .nil)), by first | (simp only [puts_cons, puts_nil, Act.put, List.setIfInBounds_toArray, List.set_cons_succ, List.set_cons_zero]; done) | (simp only [puts_cons, puts_nil, Act.put, List.setIfInBounds_toArray, List.set_cons_succ, List.set_cons_zero]; rfl)⟩
        clear H
        rintro u w ⟨d, HD, H, rfl⟩
        simp only [puts_cons, puts_nil, Act.put, List.setIfInBounds_toArray, List.set_cons_succ, List.set_cons_zero]
        go_wp2_with (first
          | go_skip
          | ((with_reducible refine at_box ?_); first | (refine wpList_box_H rfl rfl H rfl (by constructor) ?_; clear H; intro b w H))
          | ((with_reducible refine at_alloc ?_); first | (refine wpList_alloc_H rfl rfl H ?_; clear H; intro b w H))
          | ((with_reducible refine at_load ?_); first | (refine wpList_load_H rfl rfl H rfl (by repeat constructor) ?_) | (refine wpList_loads_H rfl rfl H rfl (by repeat constructor) ?_))
          | ((with_reducible refine at_store ?_); first | (refine wpList_store_H rfl rfl H rfl rfl (by repeat constructor) ?_; clear H; intro w H)))
        refine bodyPost_ret (results_H2 rfl H rfl (by repeat constructor)) rfl ⟨d, rfl, HD.out, H.pick (.cons (by repeat constructor) .nil)⟩
      · rw [show ((false || true) && true) = true from rfl]
        have H := Hp.start W0
        go_enter Tryz.func9, Tryz.ntmps9
        go_wp2_with (first
          | go_skip
          | ((with_reducible refine at_box ?_); first | (refine wpList_box_H (cs := (barr B).toList) rfl rfl H rfl CellsOf.agg ?_; clear H; intro bB w H) | (refine wpList_box_H (cs := [.int .i64 v]) rfl rfl H rfl CellsOf.int ?_; clear H; intro bV w H))
          | ((with_reducible refine at_dst 6 ?_); refine wpList_alloc_H rfl rfl H ?_; clear H; intro bR w H)
          | ((with_reducible refine at_dst 8 ?_); refine wpList_alloc_H rfl rfl H ?_; clear H; intro bK w H)
          | ((with_reducible refine at_load ?_); first | (refine wpList_load_H rfl rfl H rfl (by repeat constructor) ?_) | (refine wpList_loads_H rfl rfl H rfl (by repeat constructor) ?_))
          | ((with_reducible refine at_store ?_); first | (refine wpList_store_H rfl rfl H rfl rfl (by repeat constructor) ?_; clear H; intro w H))
          | (go_at_call 62; refine (exitOf_c B g _ (R.at_ H) Z).mono ?_; rintro e w ⟨he, K⟩; rw [HX.out] at he; subst he; replace H := H.add_all K; clear K))
        refine wp_cut (fun u a' w' => ∃ (d : BV), Hid (d.m = changedM B.m g true (answerG kd v)) ∧ Hp W0 w' [.bare d, .box bR 28 (barr d).toList] ∧ a' = puts u [(13, B.val), (14, (.int .i64 g)), (15, (.int .i64 kd)), (16, (.bool false)), (17, (.bool false)), (18, (.int .i64 kd)), (19, (.bool true)), (20, (.bool true)), (21, (.bool true)), (22, (.int .i64 v)), (23, (.bool true)), (24, (.bool true)), (25, (.func (.func 73) #[] #[.pointer (some ⟨bK, 0, none⟩), .pointer (some ⟨bV, 0, none⟩)])), (26, (.tuple #[d.val, .bool (chOkM B.m g true)])), (27, d.val), (28, (.bool (chOkM B.m g true))), (7, (.bool (chOkM B.m g true)))]) ?_ ?_
        · refine wp_region_held (S := (fun w' => Rw w' bB 28 (barr B) ∧ (Rw w' bK 3 ([.int .i64 kd] : List Value).toArray ∧ Rw w' bV 3 ([.int .i64 v] : List Value).toArray))) (by kernel_rfl) ?_
          replace H := H.drew
          refine tkH (i := 0) rfl .here (yields_loads_R rfl rfl rfl (fun _ hS => hS.1) (by repeat constructor)) ⟨H.rw_ (by repeat constructor), H.rw_ (by repeat constructor), H.rw_ (by repeat constructor)⟩ ?_
          (try go_frame)
          refine tkH (i := 1) rfl (.of rfl) (yields_val (v := (.int .i64 g)) rfl (fun _ => by go_simp)) ⟨H.rw_ (by repeat constructor), H.rw_ (by repeat constructor), H.rw_ (by repeat constructor)⟩ ?_
          (try go_frame)
          refine tkH (i := 2) rfl (.of rfl) (yields_load1_R rfl rfl rfl (fun _ hS => hS.2.1) rfl) ⟨H.rw_ (by repeat constructor), H.rw_ (by repeat constructor), H.rw_ (by repeat constructor)⟩ ?_
          (try go_frame)
          refine tkH (i := 3) rfl (.of rfl) (yields_val (v := (.bool false)) rfl (fun _ => by (first | (go_simp; done) | (go_simp; rw [e2]) | (rw [← e2]; go_simp)))) ⟨H.rw_ (by repeat constructor), H.rw_ (by repeat constructor), H.rw_ (by repeat constructor)⟩ ?_
          (try go_frame)
          refine tkH (i := 4) rfl (.of rfl) (yields_val (v := (.bool false)) rfl (fun _ => by go_simp)) ⟨H.rw_ (by repeat constructor), H.rw_ (by repeat constructor), H.rw_ (by repeat constructor)⟩ ?_
          (try go_frame)
          refine tkH (i := 5) rfl (.of rfl) (yields_load1_R rfl rfl rfl (fun _ hS => hS.2.1) rfl) ⟨H.rw_ (by repeat constructor), H.rw_ (by repeat constructor), H.rw_ (by repeat constructor)⟩ ?_
          (try go_frame)
          refine tkH (i := 6) rfl (.of rfl) (yields_val (v := (.bool true)) rfl (fun _ => by (first | (go_simp; done) | (go_simp; rw [e3]) | (rw [← e3]; go_simp)))) ⟨H.rw_ (by repeat constructor), H.rw_ (by repeat constructor), H.rw_ (by repeat constructor)⟩ ?_
          (try go_frame)
          refine tkH (i := 7) rfl (.of rfl) (yields_val (v := (.bool true)) rfl (fun _ => by go_simp)) ⟨H.rw_ (by repeat constructor), H.rw_ (by repeat constructor), H.rw_ (by repeat constructor)⟩ ?_
          (try go_frame)
          refine tkH (i := 8) rfl (.of rfl) (yields_val (v := (.bool true)) rfl (fun _ => by go_simp)) ⟨H.rw_ (by repeat constructor), H.rw_ (by repeat constructor), H.rw_ (by repeat constructor)⟩ ?_
          (try go_frame)
          refine tkH (i := 9) rfl (.of rfl) (yields_load1_R rfl rfl rfl (fun _ hS => hS.2.2) rfl) ⟨H.rw_ (by repeat constructor), H.rw_ (by repeat constructor), H.rw_ (by repeat constructor)⟩ ?_
          (try go_frame)
          refine tkH (i := 12) rfl (.of rfl) (yields_val (v := (.func (.func 73) #[] #[.pointer (some ⟨bK, 0, none⟩), .pointer (some ⟨bV, 0, none⟩)])) rfl (fun _ => by go_simp)) ⟨H.rw_ (by repeat constructor), H.rw_ (by repeat constructor), H.rw_ (by repeat constructor)⟩ ?_
          (try go_frame)
          refine anyH_1 (i := 10) (by kernel_rfl) ?_
          refine wpOp_at rfl (.of rfl) rfl ?_
          refine wp_call_H Tryz.f72 rfl rfl Tryz.func72 (by kernel_rfl) rfl rfl (val_eq (same_v H (within_any v 0 99 _)) (by rw [e4])) ?_
          clear H
          rintro _ w ⟨rfl, H⟩
          refine ⟨⟨H.rw_ (by repeat constructor), H.rw_ (by repeat constructor), H.rw_ (by repeat constructor)⟩, ?_⟩
          (try go_frame)
          refine tkH (i := 11) rfl (.of rfl) (yields_val (v := (.bool true)) rfl (fun _ => by go_simp)) ⟨H.rw_ (by repeat constructor), H.rw_ (by repeat constructor), H.rw_ (by repeat constructor)⟩ ?_
          (try go_frame)
          refine anyH_1 (i := 13) (by kernel_rfl) ?_
          refine wpOp_at rfl (.of rfl) rfl ?_
          refine wp_call_H Tryz.f71 rfl rfl Tryz.func71 (by kernel_rfl) rfl rfl (made_H (val := fun d : BV => .tuple #[d.val, .bool (chOkM B.m g true)]) H (changed_c B g true 73 Tryz.f73 Tryz.func73 (by kernel_rfl) #[.pointer (some ⟨bK, 0, none⟩), .pointer (some ⟨bV, 0, none⟩)] (answerG kd v) _ (R.at_ H) Z (by rw [answer_sz]; exact Nat.le_trans (gAtM_size B.m g) Z) (fun x _ hb Rx Zx => bareAnswer1_f x kd v e2 bK bV _ Rx Zx ((H.rw_ (cs := [.int .i64 kd]) (by repeat constructor)).below_ hb) ((H.rw_ (cs := [.int .i64 v]) (by repeat constructor)).below_ hb)))) ?_
          clear H
          rintro _ w ⟨d, rfl, HD, H⟩
          refine ⟨⟨H.rw_ (by repeat constructor), H.rw_ (by repeat constructor), H.rw_ (by repeat constructor)⟩, ?_⟩
          (try go_frame)
          refine tkH (i := 14) rfl (.of rfl) (yields_val (v := d.val) rfl (fun _ => by go_simp)) ⟨H.rw_ (by repeat constructor), H.rw_ (by repeat constructor), H.rw_ (by repeat constructor)⟩ ?_
          (try go_frame)
          refine tkH (i := 15) rfl (.of rfl) (yields_val (v := (.bool (chOkM B.m g true))) rfl (fun _ => by go_simp)) ⟨H.rw_ (by repeat constructor), H.rw_ (by repeat constructor), H.rw_ (by repeat constructor)⟩ ?_
          (try go_frame)
          refine anyH_1 (i := 16) (by kernel_rfl) ?_
          refine wpOp_at rfl (.of rfl) rfl ?_
          refine wp_store_H rfl H rfl rfl (by repeat constructor) ?_
          clear H
          intro w H
          refine ⟨⟨H.rw_ (by repeat constructor), H.rw_ (by repeat constructor), H.rw_ (by repeat constructor)⟩, ?_⟩
          (try go_frame)
          refine tkH (i := 17) rfl (.of rfl) (yields_val (v := (.bool (chOkM B.m g true))) rfl (fun _ => by go_simp)) ⟨H.rw_ (by repeat constructor), H.rw_ (by repeat constructor), H.rw_ (by repeat constructor)⟩ ?_
          (try go_frame)
          refine wpAnyH_done (by kernel_rfl) ?_ _
          exact ⟨rfl, d, HD, H.pick (.cons (by repeat constructor) (.cons (by repeat constructor) .nil)), by first | (simp only [puts_cons, puts_nil, Act.put, List.setIfInBounds_toArray, List.set_cons_succ, List.set_cons_zero]; done) | (simp only [puts_cons, puts_nil, Act.put, List.setIfInBounds_toArray, List.set_cons_succ, List.set_cons_zero]; rfl)⟩
        clear H
        rintro u w ⟨d, HD, H, rfl⟩
        simp only [puts_cons, puts_nil, Act.put, List.setIfInBounds_toArray, List.set_cons_succ, List.set_cons_zero]
        go_wp2_with (first
          | go_skip
          | ((with_reducible refine at_box ?_); first | (refine wpList_box_H rfl rfl H rfl (by constructor) ?_; clear H; intro b w H))
          | ((with_reducible refine at_alloc ?_); first | (refine wpList_alloc_H rfl rfl H ?_; clear H; intro b w H))
          | ((with_reducible refine at_load ?_); first | (refine wpList_load_H rfl rfl H rfl (by repeat constructor) ?_) | (refine wpList_loads_H rfl rfl H rfl (by repeat constructor) ?_))
          | ((with_reducible refine at_store ?_); first | (refine wpList_store_H rfl rfl H rfl rfl (by repeat constructor) ?_; clear H; intro w H)))
        refine bodyPost_ret (results_H2 rfl H rfl (by repeat constructor)) rfl ⟨d, rfl, HD.out, H.pick (.cons (by repeat constructor) .nil)⟩
  · rw [Bool.true_or]
    cases e4 : inB v 0 99
    · rw [show (true && false) = false from rfl]
      have H := Hp.start W0
      go_enter Tryz.func9, Tryz.ntmps9
      go_wp2_with (first
        | go_skip
        | ((with_reducible refine at_box ?_); first | (refine wpList_box_H (cs := (barr B).toList) rfl rfl H rfl CellsOf.agg ?_; clear H; intro bB w H) | (refine wpList_box_H (cs := [.int .i64 v]) rfl rfl H rfl CellsOf.int ?_; clear H; intro bV w H))
        | ((with_reducible refine at_dst 6 ?_); refine wpList_alloc_H rfl rfl H ?_; clear H; intro bR w H)
        | ((with_reducible refine at_dst 8 ?_); refine wpList_alloc_H rfl rfl H ?_; clear H; intro bK w H)
        | ((with_reducible refine at_load ?_); first | (refine wpList_load_H rfl rfl H rfl (by repeat constructor) ?_) | (refine wpList_loads_H rfl rfl H rfl (by repeat constructor) ?_))
        | ((with_reducible refine at_store ?_); first | (refine wpList_store_H rfl rfl H rfl rfl (by repeat constructor) ?_; clear H; intro w H))
        | (go_at_call 62; refine (exitOf_c B g _ (R.at_ H) Z).mono ?_; rintro e w ⟨he, K⟩; rw [HX.out] at he; subst he; replace H := H.add_all K; clear K))
      refine wp_cut (fun u a' w' => ∃ (d : BV), Hid (d.m = changedM B.m g false (answerG kd v)) ∧ Hp W0 w' [.bare d, .box bR 28 (barr d).toList] ∧ a' = puts u [(13, B.val), (14, (.int .i64 g)), (15, (.int .i64 kd)), (16, (.bool true)), (17, (.bool true)), (18, undef), (19, undef), (20, (.bool true)), (21, (.bool true)), (22, (.int .i64 v)), (23, (.bool false)), (24, (.bool false)), (25, (.func (.func 73) #[] #[.pointer (some ⟨bK, 0, none⟩), .pointer (some ⟨bV, 0, none⟩)])), (26, (.tuple #[d.val, .bool (chOkM B.m g false)])), (27, d.val), (28, (.bool (chOkM B.m g false))), (7, (.bool (chOkM B.m g false)))]) ?_ ?_
      · refine wp_region_held (S := (fun w' => Rw w' bB 28 (barr B) ∧ (Rw w' bK 3 ([.int .i64 kd] : List Value).toArray ∧ Rw w' bV 3 ([.int .i64 v] : List Value).toArray))) (by kernel_rfl) ?_
        replace H := H.drew
        refine tkH (i := 0) rfl .here (yields_loads_R rfl rfl rfl (fun _ hS => hS.1) (by repeat constructor)) ⟨H.rw_ (by repeat constructor), H.rw_ (by repeat constructor), H.rw_ (by repeat constructor)⟩ ?_
        (try go_frame)
        refine tkH (i := 1) rfl (.of rfl) (yields_val (v := (.int .i64 g)) rfl (fun _ => by go_simp)) ⟨H.rw_ (by repeat constructor), H.rw_ (by repeat constructor), H.rw_ (by repeat constructor)⟩ ?_
        (try go_frame)
        refine tkH (i := 2) rfl (.of rfl) (yields_load1_R rfl rfl rfl (fun _ hS => hS.2.1) rfl) ⟨H.rw_ (by repeat constructor), H.rw_ (by repeat constructor), H.rw_ (by repeat constructor)⟩ ?_
        (try go_frame)
        refine tkH (i := 3) rfl (.of rfl) (yields_val (v := (.bool true)) rfl (fun _ => by (first | (go_simp; done) | (go_simp; rw [e2]) | (rw [← e2]; go_simp)))) ⟨H.rw_ (by repeat constructor), H.rw_ (by repeat constructor), H.rw_ (by repeat constructor)⟩ ?_
        (try go_frame)
        refine tkH (i := 4) rfl (.of rfl) (yields_val (v := (.bool true)) rfl (fun _ => by go_simp)) ⟨H.rw_ (by repeat constructor), H.rw_ (by repeat constructor), H.rw_ (by repeat constructor)⟩ ?_
        (try go_frame)
        refine tkH (i := 5) rfl (.of rfl) (.inr ⟨rfl, rfl⟩) ⟨H.rw_ (by repeat constructor), H.rw_ (by repeat constructor), H.rw_ (by repeat constructor)⟩ ?_
        (try go_frame)
        refine tkH (i := 6) rfl (.of rfl) (.inr ⟨rfl, rfl⟩) ⟨H.rw_ (by repeat constructor), H.rw_ (by repeat constructor), H.rw_ (by repeat constructor)⟩ ?_
        (try go_frame)
        refine tkH (i := 7) rfl (.of rfl) (yields_val (v := (.bool true)) rfl (fun _ => by go_simp)) ⟨H.rw_ (by repeat constructor), H.rw_ (by repeat constructor), H.rw_ (by repeat constructor)⟩ ?_
        (try go_frame)
        refine tkH (i := 8) rfl (.of rfl) (yields_val (v := (.bool true)) rfl (fun _ => by go_simp)) ⟨H.rw_ (by repeat constructor), H.rw_ (by repeat constructor), H.rw_ (by repeat constructor)⟩ ?_
        (try go_frame)
        refine tkH (i := 9) rfl (.of rfl) (yields_load1_R rfl rfl rfl (fun _ hS => hS.2.2) rfl) ⟨H.rw_ (by repeat constructor), H.rw_ (by repeat constructor), H.rw_ (by repeat constructor)⟩ ?_
        (try go_frame)
        refine tkH (i := 12) rfl (.of rfl) (yields_val (v := (.func (.func 73) #[] #[.pointer (some ⟨bK, 0, none⟩), .pointer (some ⟨bV, 0, none⟩)])) rfl (fun _ => by go_simp)) ⟨H.rw_ (by repeat constructor), H.rw_ (by repeat constructor), H.rw_ (by repeat constructor)⟩ ?_
        (try go_frame)
        refine anyH_1 (i := 10) (by kernel_rfl) ?_
        refine wpOp_at rfl (.of rfl) rfl ?_
        refine wp_call_H Tryz.f72 rfl rfl Tryz.func72 (by kernel_rfl) rfl rfl (val_eq (same_v H (within_any v 0 99 _)) (by rw [e4])) ?_
        clear H
        rintro _ w ⟨rfl, H⟩
        refine ⟨⟨H.rw_ (by repeat constructor), H.rw_ (by repeat constructor), H.rw_ (by repeat constructor)⟩, ?_⟩
        (try go_frame)
        refine tkH (i := 11) rfl (.of rfl) (yields_val (v := (.bool false)) rfl (fun _ => by go_simp)) ⟨H.rw_ (by repeat constructor), H.rw_ (by repeat constructor), H.rw_ (by repeat constructor)⟩ ?_
        (try go_frame)
        refine anyH_1 (i := 13) (by kernel_rfl) ?_
        refine wpOp_at rfl (.of rfl) rfl ?_
        refine wp_call_H Tryz.f71 rfl rfl Tryz.func71 (by kernel_rfl) rfl rfl (made_H (val := fun d : BV => .tuple #[d.val, .bool (chOkM B.m g false)]) H (changed_c B g false 73 Tryz.f73 Tryz.func73 (by kernel_rfl) #[.pointer (some ⟨bK, 0, none⟩), .pointer (some ⟨bV, 0, none⟩)] (answerG kd v) _ (R.at_ H) Z (by rw [answer_sz]; exact Nat.le_trans (gAtM_size B.m g) Z) (fun x _ hb Rx Zx => bareAnswer1_t x kd v e2 bK bV _ Rx Zx ((H.rw_ (cs := [.int .i64 kd]) (by repeat constructor)).below_ hb) ((H.rw_ (cs := [.int .i64 v]) (by repeat constructor)).below_ hb)))) ?_
        clear H
        rintro _ w ⟨d, rfl, HD, H⟩
        refine ⟨⟨H.rw_ (by repeat constructor), H.rw_ (by repeat constructor), H.rw_ (by repeat constructor)⟩, ?_⟩
        (try go_frame)
        refine tkH (i := 14) rfl (.of rfl) (yields_val (v := d.val) rfl (fun _ => by go_simp)) ⟨H.rw_ (by repeat constructor), H.rw_ (by repeat constructor), H.rw_ (by repeat constructor)⟩ ?_
        (try go_frame)
        refine tkH (i := 15) rfl (.of rfl) (yields_val (v := (.bool (chOkM B.m g false))) rfl (fun _ => by go_simp)) ⟨H.rw_ (by repeat constructor), H.rw_ (by repeat constructor), H.rw_ (by repeat constructor)⟩ ?_
        (try go_frame)
        refine anyH_1 (i := 16) (by kernel_rfl) ?_
        refine wpOp_at rfl (.of rfl) rfl ?_
        refine wp_store_H rfl H rfl rfl (by repeat constructor) ?_
        clear H
        intro w H
        refine ⟨⟨H.rw_ (by repeat constructor), H.rw_ (by repeat constructor), H.rw_ (by repeat constructor)⟩, ?_⟩
        (try go_frame)
        refine tkH (i := 17) rfl (.of rfl) (yields_val (v := (.bool (chOkM B.m g false))) rfl (fun _ => by go_simp)) ⟨H.rw_ (by repeat constructor), H.rw_ (by repeat constructor), H.rw_ (by repeat constructor)⟩ ?_
        (try go_frame)
        refine wpAnyH_done (by kernel_rfl) ?_ _
        exact ⟨rfl, d, HD, H.pick (.cons (by repeat constructor) (.cons (by repeat constructor) .nil)), by first | (simp only [puts_cons, puts_nil, Act.put, List.setIfInBounds_toArray, List.set_cons_succ, List.set_cons_zero]; done) | (simp only [puts_cons, puts_nil, Act.put, List.setIfInBounds_toArray, List.set_cons_succ, List.set_cons_zero]; rfl)⟩
      clear H
      rintro u w ⟨d, HD, H, rfl⟩
      simp only [puts_cons, puts_nil, Act.put, List.setIfInBounds_toArray, List.set_cons_succ, List.set_cons_zero]
      go_wp2_with (first
        | go_skip
        | ((with_reducible refine at_box ?_); first | (refine wpList_box_H rfl rfl H rfl (by constructor) ?_; clear H; intro b w H))
        | ((with_reducible refine at_alloc ?_); first | (refine wpList_alloc_H rfl rfl H ?_; clear H; intro b w H))
        | ((with_reducible refine at_load ?_); first | (refine wpList_load_H rfl rfl H rfl (by repeat constructor) ?_) | (refine wpList_loads_H rfl rfl H rfl (by repeat constructor) ?_))
        | ((with_reducible refine at_store ?_); first | (refine wpList_store_H rfl rfl H rfl rfl (by repeat constructor) ?_; clear H; intro w H)))
      refine bodyPost_ret (results_H2 rfl H rfl (by repeat constructor)) rfl ⟨d, rfl, HD.out, H.pick (.cons (by repeat constructor) .nil)⟩
    · rw [show (true && true) = true from rfl]
      have H := Hp.start W0
      go_enter Tryz.func9, Tryz.ntmps9
      go_wp2_with (first
        | go_skip
        | ((with_reducible refine at_box ?_); first | (refine wpList_box_H (cs := (barr B).toList) rfl rfl H rfl CellsOf.agg ?_; clear H; intro bB w H) | (refine wpList_box_H (cs := [.int .i64 v]) rfl rfl H rfl CellsOf.int ?_; clear H; intro bV w H))
        | ((with_reducible refine at_dst 6 ?_); refine wpList_alloc_H rfl rfl H ?_; clear H; intro bR w H)
        | ((with_reducible refine at_dst 8 ?_); refine wpList_alloc_H rfl rfl H ?_; clear H; intro bK w H)
        | ((with_reducible refine at_load ?_); first | (refine wpList_load_H rfl rfl H rfl (by repeat constructor) ?_) | (refine wpList_loads_H rfl rfl H rfl (by repeat constructor) ?_))
        | ((with_reducible refine at_store ?_); first | (refine wpList_store_H rfl rfl H rfl rfl (by repeat constructor) ?_; clear H; intro w H))
        | (go_at_call 62; refine (exitOf_c B g _ (R.at_ H) Z).mono ?_; rintro e w ⟨he, K⟩; rw [HX.out] at he; subst he; replace H := H.add_all K; clear K))
      refine wp_cut (fun u a' w' => ∃ (d : BV), Hid (d.m = changedM B.m g true (answerG kd v)) ∧ Hp W0 w' [.bare d, .box bR 28 (barr d).toList] ∧ a' = puts u [(13, B.val), (14, (.int .i64 g)), (15, (.int .i64 kd)), (16, (.bool true)), (17, (.bool true)), (18, undef), (19, undef), (20, (.bool true)), (21, (.bool true)), (22, (.int .i64 v)), (23, (.bool true)), (24, (.bool true)), (25, (.func (.func 73) #[] #[.pointer (some ⟨bK, 0, none⟩), .pointer (some ⟨bV, 0, none⟩)])), (26, (.tuple #[d.val, .bool (chOkM B.m g true)])), (27, d.val), (28, (.bool (chOkM B.m g true))), (7, (.bool (chOkM B.m g true)))]) ?_ ?_
      · refine wp_region_held (S := (fun w' => Rw w' bB 28 (barr B) ∧ (Rw w' bK 3 ([.int .i64 kd] : List Value).toArray ∧ Rw w' bV 3 ([.int .i64 v] : List Value).toArray))) (by kernel_rfl) ?_
        replace H := H.drew
        refine tkH (i := 0) rfl .here (yields_loads_R rfl rfl rfl (fun _ hS => hS.1) (by repeat constructor)) ⟨H.rw_ (by repeat constructor), H.rw_ (by repeat constructor), H.rw_ (by repeat constructor)⟩ ?_
        (try go_frame)
        refine tkH (i := 1) rfl (.of rfl) (yields_val (v := (.int .i64 g)) rfl (fun _ => by go_simp)) ⟨H.rw_ (by repeat constructor), H.rw_ (by repeat constructor), H.rw_ (by repeat constructor)⟩ ?_
        (try go_frame)
        refine tkH (i := 2) rfl (.of rfl) (yields_load1_R rfl rfl rfl (fun _ hS => hS.2.1) rfl) ⟨H.rw_ (by repeat constructor), H.rw_ (by repeat constructor), H.rw_ (by repeat constructor)⟩ ?_
        (try go_frame)
        refine tkH (i := 3) rfl (.of rfl) (yields_val (v := (.bool true)) rfl (fun _ => by (first | (go_simp; done) | (go_simp; rw [e2]) | (rw [← e2]; go_simp)))) ⟨H.rw_ (by repeat constructor), H.rw_ (by repeat constructor), H.rw_ (by repeat constructor)⟩ ?_
        (try go_frame)
        refine tkH (i := 4) rfl (.of rfl) (yields_val (v := (.bool true)) rfl (fun _ => by go_simp)) ⟨H.rw_ (by repeat constructor), H.rw_ (by repeat constructor), H.rw_ (by repeat constructor)⟩ ?_
        (try go_frame)
        refine tkH (i := 5) rfl (.of rfl) (.inr ⟨rfl, rfl⟩) ⟨H.rw_ (by repeat constructor), H.rw_ (by repeat constructor), H.rw_ (by repeat constructor)⟩ ?_
        (try go_frame)
        refine tkH (i := 6) rfl (.of rfl) (.inr ⟨rfl, rfl⟩) ⟨H.rw_ (by repeat constructor), H.rw_ (by repeat constructor), H.rw_ (by repeat constructor)⟩ ?_
        (try go_frame)
        refine tkH (i := 7) rfl (.of rfl) (yields_val (v := (.bool true)) rfl (fun _ => by go_simp)) ⟨H.rw_ (by repeat constructor), H.rw_ (by repeat constructor), H.rw_ (by repeat constructor)⟩ ?_
        (try go_frame)
        refine tkH (i := 8) rfl (.of rfl) (yields_val (v := (.bool true)) rfl (fun _ => by go_simp)) ⟨H.rw_ (by repeat constructor), H.rw_ (by repeat constructor), H.rw_ (by repeat constructor)⟩ ?_
        (try go_frame)
        refine tkH (i := 9) rfl (.of rfl) (yields_load1_R rfl rfl rfl (fun _ hS => hS.2.2) rfl) ⟨H.rw_ (by repeat constructor), H.rw_ (by repeat constructor), H.rw_ (by repeat constructor)⟩ ?_
        (try go_frame)
        refine tkH (i := 12) rfl (.of rfl) (yields_val (v := (.func (.func 73) #[] #[.pointer (some ⟨bK, 0, none⟩), .pointer (some ⟨bV, 0, none⟩)])) rfl (fun _ => by go_simp)) ⟨H.rw_ (by repeat constructor), H.rw_ (by repeat constructor), H.rw_ (by repeat constructor)⟩ ?_
        (try go_frame)
        refine anyH_1 (i := 10) (by kernel_rfl) ?_
        refine wpOp_at rfl (.of rfl) rfl ?_
        refine wp_call_H Tryz.f72 rfl rfl Tryz.func72 (by kernel_rfl) rfl rfl (val_eq (same_v H (within_any v 0 99 _)) (by rw [e4])) ?_
        clear H
        rintro _ w ⟨rfl, H⟩
        refine ⟨⟨H.rw_ (by repeat constructor), H.rw_ (by repeat constructor), H.rw_ (by repeat constructor)⟩, ?_⟩
        (try go_frame)
        refine tkH (i := 11) rfl (.of rfl) (yields_val (v := (.bool true)) rfl (fun _ => by go_simp)) ⟨H.rw_ (by repeat constructor), H.rw_ (by repeat constructor), H.rw_ (by repeat constructor)⟩ ?_
        (try go_frame)
        refine anyH_1 (i := 13) (by kernel_rfl) ?_
        refine wpOp_at rfl (.of rfl) rfl ?_
        refine wp_call_H Tryz.f71 rfl rfl Tryz.func71 (by kernel_rfl) rfl rfl (made_H (val := fun d : BV => .tuple #[d.val, .bool (chOkM B.m g true)]) H (changed_c B g true 73 Tryz.f73 Tryz.func73 (by kernel_rfl) #[.pointer (some ⟨bK, 0, none⟩), .pointer (some ⟨bV, 0, none⟩)] (answerG kd v) _ (R.at_ H) Z (by rw [answer_sz]; exact Nat.le_trans (gAtM_size B.m g) Z) (fun x _ hb Rx Zx => bareAnswer1_t x kd v e2 bK bV _ Rx Zx ((H.rw_ (cs := [.int .i64 kd]) (by repeat constructor)).below_ hb) ((H.rw_ (cs := [.int .i64 v]) (by repeat constructor)).below_ hb)))) ?_
        clear H
        rintro _ w ⟨d, rfl, HD, H⟩
        refine ⟨⟨H.rw_ (by repeat constructor), H.rw_ (by repeat constructor), H.rw_ (by repeat constructor)⟩, ?_⟩
        (try go_frame)
        refine tkH (i := 14) rfl (.of rfl) (yields_val (v := d.val) rfl (fun _ => by go_simp)) ⟨H.rw_ (by repeat constructor), H.rw_ (by repeat constructor), H.rw_ (by repeat constructor)⟩ ?_
        (try go_frame)
        refine tkH (i := 15) rfl (.of rfl) (yields_val (v := (.bool (chOkM B.m g true))) rfl (fun _ => by go_simp)) ⟨H.rw_ (by repeat constructor), H.rw_ (by repeat constructor), H.rw_ (by repeat constructor)⟩ ?_
        (try go_frame)
        refine anyH_1 (i := 16) (by kernel_rfl) ?_
        refine wpOp_at rfl (.of rfl) rfl ?_
        refine wp_store_H rfl H rfl rfl (by repeat constructor) ?_
        clear H
        intro w H
        refine ⟨⟨H.rw_ (by repeat constructor), H.rw_ (by repeat constructor), H.rw_ (by repeat constructor)⟩, ?_⟩
        (try go_frame)
        refine tkH (i := 17) rfl (.of rfl) (yields_val (v := (.bool (chOkM B.m g true))) rfl (fun _ => by go_simp)) ⟨H.rw_ (by repeat constructor), H.rw_ (by repeat constructor), H.rw_ (by repeat constructor)⟩ ?_
        (try go_frame)
        refine wpAnyH_done (by kernel_rfl) ?_ _
        exact ⟨rfl, d, HD, H.pick (.cons (by repeat constructor) (.cons (by repeat constructor) .nil)), by first | (simp only [puts_cons, puts_nil, Act.put, List.setIfInBounds_toArray, List.set_cons_succ, List.set_cons_zero]; done) | (simp only [puts_cons, puts_nil, Act.put, List.setIfInBounds_toArray, List.set_cons_succ, List.set_cons_zero]; rfl)⟩
      clear H
      rintro u w ⟨d, HD, H, rfl⟩
      simp only [puts_cons, puts_nil, Act.put, List.setIfInBounds_toArray, List.set_cons_succ, List.set_cons_zero]
      go_wp2_with (first
        | go_skip
        | ((with_reducible refine at_box ?_); first | (refine wpList_box_H rfl rfl H rfl (by constructor) ?_; clear H; intro b w H))
        | ((with_reducible refine at_alloc ?_); first | (refine wpList_alloc_H rfl rfl H ?_; clear H; intro b w H))
        | ((with_reducible refine at_load ?_); first | (refine wpList_load_H rfl rfl H rfl (by repeat constructor) ?_) | (refine wpList_loads_H rfl rfl H rfl (by repeat constructor) ?_))
        | ((with_reducible refine at_store ?_); first | (refine wpList_store_H rfl rfl H rfl rfl (by repeat constructor) ?_; clear H; intro w H)))
      refine bodyPost_ret (results_H2 rfl H rfl (by repeat constructor)) rfl ⟨d, rfl, HD.out, H.pick (.cons (by repeat constructor) .nil)⟩
end Go.Proofs.YtaafnenmdombiaaGreat

/- Contracts of BareAnswer of the reference and of BareResume of both sides. No condition but that the arguments lie in memory. -/
namespace Go.Proofs.YtaafnenmdombiaaGreat
set_option linter.unusedSimpArgs false
set_option linter.unusedVariables false
set_option linter.unusedSimpArgs false
set_option linter.unusedVariables false
open Go.RowKit
theorem wg_put {d : BV} {m : MB} {k : Nat} {y q : GV} {F : MG → MG} (hd : Hid (d.m = m)) (hy : Hid (d.gs.xs[k]? = some y)) (hq : q.m = F y.m) : (⟨d.mem, ⟨d.gs.A, d.gs.c, d.gs.xs.set k q⟩, d.outs, d.pend⟩ : BV).m = withGuestM m k (F (gAtM m k)) := by
  rw [← hd.out, wg_hit hy.out]
  simp only [BV.m, gsOf, List.map_set]; rw [hq]
set_option maxRecDepth 100000 in
set_option maxHeartbeats 4000000 in
theorem bareResume_c (B : BV) (g : Int) (W0 : World) (R : BRd W0 B) (Z : BBig B) : Calls Tryz.prog 12 #[B.val, .int .i64 g] W0 fun e w' => ∃ d : BV, e = .returned (.tuple #[d.val, .bool (chOkM B.m g (resC B.m g))]) ∧ d.m = changedM B.m g (resC B.m g) (resF B.m g) ∧ Hp W0 w' [.bare d] := by
  obtain ⟨X, hX⟩ : ∃ X, X = (gAtM B.m g).exit := ⟨_, rfl⟩
  have HX : Hid ((gAtM B.m g).exit = X) := hX.symm
  obtain ⟨kd, pg, wr, n⟩ := X
  have hc : resC B.m g = (kd == 1 || kd == 4) := by unfold resC; rw [← hX]
  have hf : resF B.m g = resumeG kd := by unfold resF; rw [← hX]
  rw [hc, hf]
  clear hc hf hX
  cases e1 : (kd == 1)
  · rw [Bool.false_or]
    cases e4 : (kd == 4)
    · have H := Hp.start W0
      go_enter Tryz.func12, Tryz.ntmps12
      go_wp2_with (first
        | go_skip
        | ((with_reducible refine at_box ?_); first | (refine wpList_box_H (cs := (barr B).toList) rfl rfl H rfl CellsOf.agg ?_; clear H; intro bB w H) | (refine wpList_box_H rfl rfl H rfl (by constructor) ?_; clear H; intro b w H))
        | ((with_reducible refine at_alloc ?_); first | ((with_reducible refine at_dst 4 ?_); refine wpList_alloc_H rfl rfl H ?_; clear H; intro bR w H) | ((with_reducible refine at_dst 6 ?_); refine wpList_alloc_H rfl rfl H ?_; clear H; intro bK w H) | (refine wpList_alloc_H rfl rfl H ?_; clear H; intro b w H))
        | ((with_reducible refine at_load ?_); first | (refine wpList_load_H rfl rfl H rfl (by repeat constructor) ?_) | (refine wpList_loads_H rfl rfl H rfl (by repeat constructor) ?_))
        | ((with_reducible refine at_store ?_); first | (refine wpList_store_H rfl rfl H rfl rfl (by repeat constructor) ?_; clear H; intro w H))
        | (go_at_call 62; refine (exitOf_c B g _ (R.at_ H) Z).mono ?_; rintro e w ⟨he, K⟩; rw [HX.out] at he; subst he; replace H := H.add_all K; clear K)
        | (go_at_call 71; refine (changed_c B g false 81 Tryz.f81 Tryz.func81 (by kernel_rfl) #[.pointer (some ⟨bK, 0, none⟩)] (resumeG kd) _ (R.at_ H) Z (by rw [resume_sz]; exact Nat.le_trans (gAtM_size B.m g) Z) (fun x _ hb Rx Zx => bareResume1_f x kd e4 bK _ Rx Zx ((H.rw_ (cs := [.int .i64 kd]) (by repeat constructor)).below_ hb))).mono ?_; rintro e w ⟨d, rfl, x1, K⟩; have HD := Lib.hid x1; clear x1; replace H := H.add_all K; clear K))
      refine bodyPost_ret (results_H2 rfl H rfl (by repeat constructor)) rfl ⟨d, rfl, HD.out, H.pick (.cons (by repeat constructor) .nil)⟩
    · have H := Hp.start W0
      go_enter Tryz.func12, Tryz.ntmps12
      go_wp2_with (first
        | go_skip
        | ((with_reducible refine at_box ?_); first | (refine wpList_box_H (cs := (barr B).toList) rfl rfl H rfl CellsOf.agg ?_; clear H; intro bB w H) | (refine wpList_box_H rfl rfl H rfl (by constructor) ?_; clear H; intro b w H))
        | ((with_reducible refine at_alloc ?_); first | ((with_reducible refine at_dst 4 ?_); refine wpList_alloc_H rfl rfl H ?_; clear H; intro bR w H) | ((with_reducible refine at_dst 6 ?_); refine wpList_alloc_H rfl rfl H ?_; clear H; intro bK w H) | (refine wpList_alloc_H rfl rfl H ?_; clear H; intro b w H))
        | ((with_reducible refine at_load ?_); first | (refine wpList_load_H rfl rfl H rfl (by repeat constructor) ?_) | (refine wpList_loads_H rfl rfl H rfl (by repeat constructor) ?_))
        | ((with_reducible refine at_store ?_); first | (refine wpList_store_H rfl rfl H rfl rfl (by repeat constructor) ?_; clear H; intro w H))
        | (go_at_call 62; refine (exitOf_c B g _ (R.at_ H) Z).mono ?_; rintro e w ⟨he, K⟩; rw [HX.out] at he; subst he; replace H := H.add_all K; clear K)
        | (go_at_call 71; refine (changed_c B g true 81 Tryz.f81 Tryz.func81 (by kernel_rfl) #[.pointer (some ⟨bK, 0, none⟩)] (resumeG kd) _ (R.at_ H) Z (by rw [resume_sz]; exact Nat.le_trans (gAtM_size B.m g) Z) (fun x _ hb Rx Zx => bareResume1_t x kd e4 bK _ Rx Zx ((H.rw_ (cs := [.int .i64 kd]) (by repeat constructor)).below_ hb))).mono ?_; rintro e w ⟨d, rfl, x1, K⟩; have HD := Lib.hid x1; clear x1; replace H := H.add_all K; clear K))
      refine bodyPost_ret (results_H2 rfl H rfl (by repeat constructor)) rfl ⟨d, rfl, HD.out, H.pick (.cons (by repeat constructor) .nil)⟩
  · rw [Bool.true_or]
    have e4 : (kd == 4) = false := by simp at e1 ⊢; omega
    have H := Hp.start W0
    go_enter Tryz.func12, Tryz.ntmps12
    go_wp2_with (first
      | go_skip
      | ((with_reducible refine at_box ?_); first | (refine wpList_box_H (cs := (barr B).toList) rfl rfl H rfl CellsOf.agg ?_; clear H; intro bB w H) | (refine wpList_box_H rfl rfl H rfl (by constructor) ?_; clear H; intro b w H))
      | ((with_reducible refine at_alloc ?_); first | ((with_reducible refine at_dst 4 ?_); refine wpList_alloc_H rfl rfl H ?_; clear H; intro bR w H) | ((with_reducible refine at_dst 6 ?_); refine wpList_alloc_H rfl rfl H ?_; clear H; intro bK w H) | (refine wpList_alloc_H rfl rfl H ?_; clear H; intro b w H))
      | ((with_reducible refine at_load ?_); first | (refine wpList_load_H rfl rfl H rfl (by repeat constructor) ?_) | (refine wpList_loads_H rfl rfl H rfl (by repeat constructor) ?_))
      | ((with_reducible refine at_store ?_); first | (refine wpList_store_H rfl rfl H rfl rfl (by repeat constructor) ?_; clear H; intro w H))
      | (go_at_call 62; refine (exitOf_c B g _ (R.at_ H) Z).mono ?_; rintro e w ⟨he, K⟩; rw [HX.out] at he; subst he; replace H := H.add_all K; clear K)
      | (go_at_call 71; refine (changed_c B g true 81 Tryz.f81 Tryz.func81 (by kernel_rfl) #[.pointer (some ⟨bK, 0, none⟩)] (resumeG kd) _ (R.at_ H) Z (by rw [resume_sz]; exact Nat.le_trans (gAtM_size B.m g) Z) (fun x _ hb Rx Zx => bareResume1_f x kd e4 bK _ Rx Zx ((H.rw_ (cs := [.int .i64 kd]) (by repeat constructor)).below_ hb))).mono ?_; rintro e w ⟨d, rfl, x1, K⟩; have HD := Lib.hid x1; clear x1; replace H := H.add_all K; clear K))
    refine bodyPost_ret (results_H2 rfl H rfl (by repeat constructor)) rfl ⟨d, rfl, HD.out, H.pick (.cons (by repeat constructor) .nil)⟩
theorem gz_rd {w : World} {y z : GV} (R : GRd w y) (h1 : z.prog = y.prog) (h2 : z.written = y.written) (h3 : z.live = y.live) (h4 : z.seen = y.seen) : GRd w z := ⟨h1 ▸ R.prog, h2 ▸ R.written, h3 ▸ R.live, h4 ▸ R.seen⟩
set_option maxRecDepth 100000 in
set_option maxHeartbeats 4000000 in
theorem specBareAnswer_c (B : BV) (g : Int) (v : Int) (W0 : World) (R : BRd W0 B) (Z : BBig B) : Calls Tryz.prog 10 #[B.val, .int .i64 g, .int .i64 v] W0 fun e w' => ∃ d : BV, e = .returned (.tuple #[d.val, .bool (chOkM B.m g (ansC B.m g v))]) ∧ d.m = changedM B.m g (ansC B.m g v) (ansF B.m g v) ∧ Hp W0 w' [.bare d] := by
  have ho : chOkM B.m g (ansC B.m g v) = ((bareOkM B.m && hasM B.m g) && (ansC B.m g v)) := rfl
  cases e1 : (bareOkM B.m && hasM B.m g)
  case false =>
    rw [e1, Bool.false_and] at ho
    have HO := Lib.hid ho
    clear ho
    have H := Hp.start W0
    go_enter Tryz.func10, Tryz.ntmps10
    go_wp2_with (first
      | go_skip
      | ((with_reducible refine at_box ?_); first | (refine wpList_box_H (cs := (barr B).toList) rfl rfl H rfl CellsOf.agg ?_; clear H; intro bB w H) | (refine wpList_box_H rfl rfl H rfl (by constructor) ?_; clear H; intro b w H))
      | ((with_reducible refine at_alloc ?_); first | ((with_reducible refine at_dst 6 ?_); refine wpList_alloc_H rfl rfl H ?_; clear H; intro bR w H) | (refine wpList_alloc_H rfl rfl H ?_; clear H; intro b w H))
      | ((with_reducible refine at_load ?_); first | (refine wpList_load_H rfl rfl H rfl (by repeat constructor) ?_) | (refine wpList_loads_H rfl rfl H rfl (by repeat constructor) ?_))
      | ((with_reducible refine at_store ?_); first | (refine wpList_store_H rfl rfl H rfl rfl (by repeat constructor) ?_; clear H; intro w H))
      | (go_at_call 76; refine (l17Copy_c B _ (R.at_ H) Z).mono ?_; rintro e w ⟨d, rfl, x1, K⟩; have HD := Lib.hid x1; clear x1; have Zd := m_big HD Z; replace H := (H.add_all K); clear K)
      | (go_at_call 77; refine (l19Is_c d g _ (H.brd (by repeat constructor)) Zd).mono ?_; rintro e w ⟨he, K⟩; rw [HD.out, e1] at he; subst he; replace H := H.add_all K; clear K))
    refine bodyPost_ret (results_H2 rfl H rfl (by repeat constructor)) rfl ⟨d, by rw [HO.out]; rfl, by unfold changedM; rw [HO.out]; exact HD.out, H.pick (.cons (by repeat constructor) .nil)⟩
  case true =>
    rw [e1, Bool.true_and] at ho
    have hg : 0 ≤ g ∧ g < B.gs.xs.length := by simp only [Bool.and_eq_true] at e1; simpa [hasM, hasB, BV.m, gsOf] using e1.2
    obtain ⟨k, rfl⟩ := Int.eq_ofNat_of_zero_le hg.1
    have hk : k < B.gs.xs.length := by omega
    clear hg
    cases ev : inB v 0 99
    case false =>
      have ho' : chOkM B.m k (ansC B.m k v) = false := by rw [ho]; unfold ansC; rw [ev, Bool.and_false]
      have HO := Lib.hid ho'
      clear ho ho'
      have H := Hp.start W0
      go_enter Tryz.func10, Tryz.ntmps10
      go_wp2_with (first
        | go_skip
        | ((with_reducible refine at_box ?_); first | (refine wpList_box_H (cs := (barr B).toList) rfl rfl H rfl CellsOf.agg ?_; clear H; intro bB w H) | (refine wpList_box_H rfl rfl H rfl (by constructor) ?_; clear H; intro b w H))
        | ((with_reducible refine at_alloc ?_); first | ((with_reducible refine at_dst 6 ?_); refine wpList_alloc_H rfl rfl H ?_; clear H; intro bR w H) | (refine wpList_alloc_H rfl rfl H ?_; clear H; intro b w H))
        | ((with_reducible refine at_load ?_); first | (refine wpList_load_H rfl rfl H rfl (by repeat constructor) ?_) | (refine wpList_loads_H rfl rfl H rfl (by repeat constructor) ?_))
        | ((with_reducible refine at_store ?_); first | (refine wpList_store_H rfl rfl H rfl rfl (by repeat constructor) ?_; clear H; intro w H))
        | (go_at_call 76; refine (l17Copy_c B _ (R.at_ H) Z).mono ?_; rintro e w ⟨d, rfl, x1, K⟩; have HD := Lib.hid x1; clear x1; have Zd := m_big HD Z; replace H := (H.add_all K); clear K)
        | (go_at_call 77; refine (l19Is_c d k _ (H.brd (by repeat constructor)) Zd).mono ?_; rintro e w ⟨he, K⟩; rw [HD.out, e1] at he; subst he; replace H := H.add_all K; clear K)
        | (go_at_call 78; refine (in_any _ _ _ _).mono ?_; rintro e w' ⟨he, hw⟩; subst hw; rw [ev] at he; subst he))
      refine bodyPost_ret (results_H2 rfl H rfl (by repeat constructor)) rfl ⟨d, by rw [HO.out]; rfl, by unfold changedM; rw [HO.out]; exact HD.out, H.pick (.cons (by repeat constructor) .nil)⟩
    case true =>
      obtain ⟨kd, hkd⟩ : ∃ kd, kd = (gAtM B.m k).exit.kind := ⟨_, rfl⟩
      have HC : (ansC B.m k v) = (kd == 2 || kd == 3) := by unfold ansC; rw [← hkd, ev]; rw [Bool.and_true]
      have HF : (ansF B.m k v) = (answerG kd v) := by unfold ansF; rw [← hkd]
      rw [HC] at ho ⊢
      rw [HF]
      clear HC HF
      obtain ⟨cb, hcb⟩ : ∃ cb, cb = (kd == 2 || kd == 3) := ⟨_, rfl⟩
      rw [← hcb] at ho ⊢
      have HCB := Lib.hid hcb
      clear hcb
      have HKD := Lib.hid hkd.symm
      clear hkd
      cases e2 : (kd == 2)
      · cases e3 : (kd == 3)
        · skip
          have HO : Hid (chOkM B.m k cb = false) := by show _ = _; rw [ho, HCB.out]; rw [e2, e3]; rfl
          clear ho
          have H := Hp.start W0
          go_enter Tryz.func10, Tryz.ntmps10
          go_wp2_with (first
            | go_skip
            | ((with_reducible refine at_box ?_); first | (refine wpList_box_H (cs := (barr B).toList) rfl rfl H rfl CellsOf.agg ?_; clear H; intro bB w H) | (refine wpList_box_H rfl rfl H rfl (by constructor) ?_; clear H; intro b w H))
            | ((with_reducible refine at_alloc ?_); first | ((with_reducible refine at_dst 6 ?_); refine wpList_alloc_H rfl rfl H ?_; clear H; intro bR w H) | ((with_reducible refine at_dst 8 ?_); refine wpList_alloc_H rfl rfl H ?_; clear H; intro bX w H) | (refine wpList_alloc_H rfl rfl H ?_; clear H; intro b w H))
            | ((with_reducible refine at_load ?_); first | (refine wpList_loads_rd rfl rfl d.gs (H.rdgsl (by repeat constructor)) rfl y HK.out (by repeat constructor) ?_) | (refine wpList_load_H rfl rfl H rfl (by repeat constructor) ?_) | (refine wpList_loads_H rfl rfl H rfl (by repeat constructor) ?_))
            | ((with_reducible refine at_store ?_); first | (refine wpList_store_H rfl rfl H rfl rfl (by repeat constructor) ?_; clear H; intro w H))
            | ((with_reducible refine at_index ?_); first | (refine wpList_index_n rfl rfl d.gs (H.rdgsl (by repeat constructor)) rfl rfl rfl (by rw [m_glen HD]; exact hk) ?_))
            | (go_at_call 76; refine (l17Copy_c B _ (R.at_ H) Z).mono ?_; rintro e w ⟨d, rfl, x1, K⟩; have HD := Lib.hid x1; clear x1; have Zd := m_big HD Z; replace H := (H.add_all K); clear K; obtain ⟨y, hy⟩ : ∃ y, d.gs.xs[k]? = some y := ⟨_, List.getElem?_eq_getElem (by rw [m_glen HD]; exact hk)⟩; have HK := Lib.hid hy; clear hy; have HY : Hid (y.exit.kind = kd) := (by show _ = _; have h := (gAtM_hit HK.out).1; rw [HD.out] at h; have h2 := HKD.out; rw [h] at h2; exact h2); have e2y : (y.exit.kind == 2) = false := (by rw [HY.out]; exact e2); have e3y : (y.exit.kind == 3) = false := (by rw [HY.out]; exact e3); skip)
            | (go_at_call 77; refine (l19Is_c d k _ (H.brd (by repeat constructor)) Zd).mono ?_; rintro e w ⟨he, K⟩; rw [HD.out, e1] at he; subst he; replace H := H.add_all K; clear K; replace H := (H.take (e := .bare d) (by repeat constructor)).bparts)
            | (go_at_call 78; refine (in_any _ _ _ _).mono ?_; rintro e w' ⟨he, hw⟩; subst hw; rw [ev] at he; subst he))
          refine bodyPost_ret (results_H2 rfl H rfl (by repeat constructor)) rfl ⟨d, by rw [HO.out]; rfl, by unfold changedM; rw [HO.out]; exact HD.out, H.bare5 (.cons (by repeat constructor) (.cons (by repeat constructor) (.cons (by repeat constructor) (.cons (by repeat constructor) (.cons (by repeat constructor) .nil))))) rfl rfl⟩
        · skip
          have HO : Hid (chOkM B.m k cb = true) := by show _ = _; rw [ho, HCB.out]; rw [e2, e3]; rfl
          clear ho
          have H := Hp.start W0
          go_enter Tryz.func10, Tryz.ntmps10
          go_wp2_with (first
            | go_skip
            | ((with_reducible refine at_box ?_); first | (refine wpList_box_H (cs := (barr B).toList) rfl rfl H rfl CellsOf.agg ?_; clear H; intro bB w H) | (refine wpList_box_H rfl rfl H rfl (by constructor) ?_; clear H; intro b w H))
            | ((with_reducible refine at_alloc ?_); first | ((with_reducible refine at_dst 6 ?_); refine wpList_alloc_H rfl rfl H ?_; clear H; intro bR w H) | ((with_reducible refine at_dst 8 ?_); refine wpList_alloc_H rfl rfl H ?_; clear H; intro bX w H) | (refine wpList_alloc_H rfl rfl H ?_; clear H; intro b w H))
            | ((with_reducible refine at_load ?_); first | (refine wpList_loads_rd rfl rfl d.gs (H.rdgsl (by repeat constructor)) rfl y HK.out (by repeat constructor) ?_) | (refine wpList_load_H rfl rfl H rfl (by repeat constructor) ?_) | (refine wpList_loads_H rfl rfl H rfl (by repeat constructor) ?_))
            | ((with_reducible refine at_store ?_); first | (refine wpList_store_H rfl rfl H rfl rfl (by repeat constructor) ?_; clear H; intro w H))
            | ((with_reducible refine at_index ?_); first | (refine wpList_index_n rfl rfl d.gs (H.rdgsl (by repeat constructor)) rfl rfl rfl (by rw [m_glen HD]; exact hk) ?_))
            | (go_at_call 76; refine (l17Copy_c B _ (R.at_ H) Z).mono ?_; rintro e w ⟨d, rfl, x1, K⟩; have HD := Lib.hid x1; clear x1; have Zd := m_big HD Z; replace H := (H.add_all K); clear K; obtain ⟨y, hy⟩ : ∃ y, d.gs.xs[k]? = some y := ⟨_, List.getElem?_eq_getElem (by rw [m_glen HD]; exact hk)⟩; have HK := Lib.hid hy; clear hy; have HY : Hid (y.exit.kind = kd) := (by show _ = _; have h := (gAtM_hit HK.out).1; rw [HD.out] at h; have h2 := HKD.out; rw [h] at h2; exact h2); have e2y : (y.exit.kind == 2) = false := (by rw [HY.out]; exact e2); have e3y : (y.exit.kind == 3) = true := (by rw [HY.out]; exact e3); skip)
            | (go_at_call 77; refine (l19Is_c d k _ (H.brd (by repeat constructor)) Zd).mono ?_; rintro e w ⟨he, K⟩; rw [HD.out, e1] at he; subst he; replace H := H.add_all K; clear K; replace H := (H.take (e := .bare d) (by repeat constructor)).bparts)
            | (go_at_call 78; refine (in_any _ _ _ _).mono ?_; rintro e w' ⟨he, hw⟩; subst hw; rw [ev] at he; subst he))
          refine wp_cut (fun u a' w' => ∃ (q0 : GV) (q1 : GV), Hid (q1.m = movedM (stoppedM (y : GV).m noExit)) ∧ Hp W0 w' [.gst q1, .many En.gst d.gs.xs, .gsl ⟨d.gs.A, d.gs.c, d.gs.xs.set k q1⟩, .rows d.mem, .many En.int d.mem.xs, .int d.outs, .box bB 28 (barr d).toList, .box bR 28 [.slice none 0 0, .slice none 0 0, .slice none 0 0, .int .i64 0]] ∧ a' = puts u [(36, .pointer (some ⟨bB, 1, none⟩)), (37, .slice d.gs.A d.gs.xs.length d.gs.c), (38, (.int .i64 k)), (39, (y : GV).val), (40, noExit.val), (41, q0.val), (42, q1.val), (43, (.pointer (some ⟨ablk d.gs.A, aoff d.gs.A + k * 15, none⟩)))]) ?_ ?_
          · refine wp_region_held (S := (fun w' => Rw w' bB 28 (barr d) ∧ Rw w' bX 53 (garr (y : GV)))) (by kernel_rfl) ?_
            replace H := H.drew
            refine tkH (i := 0) rfl .here (yields_val (v := .pointer (some ⟨bB, 1, none⟩)) rfl (fun _ => by go_simp)) ⟨H.rw_ (by repeat constructor), H.rw_ (by repeat constructor)⟩ ?_
            (try go_frame)
            refine tkH (i := 1) rfl (.of rfl) (yields_load1_R rfl rfl rfl (fun _ hS => hS.1) rfl) ⟨H.rw_ (by repeat constructor), H.rw_ (by repeat constructor)⟩ ?_
            (try go_frame)
            refine tkH (i := 2) rfl (.of rfl) (yields_val (v := (.int .i64 k)) rfl (fun _ => by go_simp)) ⟨H.rw_ (by repeat constructor), H.rw_ (by repeat constructor)⟩ ?_
            (try go_frame)
            refine tkH (i := 3) rfl (.of rfl) (yields_loads_R rfl rfl rfl (fun _ hS => hS.2) (by repeat constructor)) ⟨H.rw_ (by repeat constructor), H.rw_ (by repeat constructor)⟩ ?_
            (try go_frame)
            refine tkH (i := 4) rfl (.of rfl) (yields_val (v := noExit.val) rfl (fun _ => by go_simp)) ⟨H.rw_ (by repeat constructor), H.rw_ (by repeat constructor)⟩ ?_
            (try go_frame)
            refine anyH_1 (i := 5) (by kernel_rfl) ?_
            refine wpOp_at rfl (.of rfl) rfl ?_
            refine wp_call_H Tryz.f80 rfl rfl Tryz.func80 (by kernel_rfl) rfl rfl (made_H H ((specStopped_c (y : GV) noExit _ rfl _ (gz_rd (H.grdmany (by repeat constructor) y (List.mem_of_getElem? HK.out)) rfl rfl rfl rfl) (Zd.gsi y (List.mem_of_getElem? HK.out))).mono fun _ _ h => mkg h)) ?_
            clear H
            rintro _ w ⟨q0, rfl, Hq0, H⟩
            have zq0 : GBig q0 := gbig_mm (m := stoppedM (y : GV).m noExit) (show MBig y.m from (Zd.gsi y (List.mem_of_getElem? HK.out)).m) (by show _ = _; rw [Hq0.out])
            refine ⟨⟨H.rw_ (by repeat constructor), H.rw_ (by repeat constructor)⟩, ?_⟩
            (try go_frame)
            refine anyH_1 (i := 6) (by kernel_rfl) ?_
            refine wpOp_at rfl (.of rfl) rfl ?_
            refine wp_call_H Tryz.f79 rfl rfl Tryz.func79 (by kernel_rfl) rfl rfl (made_H H ((specMoved_c q0 _ rfl _ (H.grd1 (by repeat constructor)) zq0).mono fun _ _ h => mkg h)) ?_
            clear H
            rintro _ w ⟨q1, rfl, Hq1, H⟩
            have zq1 : GBig q1 := gbig_mm (m := movedM (stoppedM (y : GV).m noExit)) (show MBig y.m from (Zd.gsi y (List.mem_of_getElem? HK.out)).m) (by show _ = _; rw [Hq1.out, Hq0.out])
            refine ⟨⟨H.rw_ (by repeat constructor), H.rw_ (by repeat constructor)⟩, ?_⟩
            (try go_frame)
            refine anyH_1 (i := 7) (by kernel_rfl) ?_
            refine wpOp_at rfl (.of rfl) rfl ?_
            refine wp_index_n rfl d.gs (H.rdgsl (by repeat constructor)) rfl rfl rfl (by rw [m_glen HD]; exact hk) ?_
            refine ⟨⟨H.rw_ (by repeat constructor), H.rw_ (by repeat constructor)⟩, ?_⟩
            (try go_frame)
            refine anyH_1 (i := 8) (by kernel_rfl) ?_
            refine wpOp_at rfl (.of rfl) rfl ?_
            refine wp_store_el rfl H d.gs (by repeat constructor) g_len rfl rfl y q1 HK.out (Nat.add_zero _).symm (by constructor) (by repeat constructor) (by exact rfl) (by exact rfl) ?_
            clear H
            intro w H
            refine ⟨⟨H.rw_ (by repeat constructor), H.rw_ (by repeat constructor)⟩, ?_⟩
            (try go_frame)
            refine wpAnyH_done (by kernel_rfl) ?_ _
            exact ⟨rfl, q0, q1, (by show _ = _; rw [Hq1.out, Hq0.out]), H.pick (.cons (by repeat constructor) (.cons (by repeat constructor) (.cons (by repeat constructor) (.cons (by repeat constructor) (.cons (by repeat constructor) (.cons (by repeat constructor) (.cons (by repeat constructor) (.cons (by repeat constructor) .nil)))))))), by first | (simp only [puts_cons, puts_nil, Act.put, List.setIfInBounds_toArray, List.set_cons_succ, List.set_cons_zero]; done) | (simp only [puts_cons, puts_nil, Act.put, List.setIfInBounds_toArray, List.set_cons_succ, List.set_cons_zero]; rfl)⟩
          clear H
          rintro u w ⟨q0, q1, HQ, H, rfl⟩
          simp only [puts_cons, puts_nil, Act.put, List.setIfInBounds_toArray, List.set_cons_succ, List.set_cons_zero]
          replace H := H.many_set (by rw [m_glen HD]; exact hk)
          go_wp2_with (first
            | go_skip
            | ((with_reducible refine at_box ?_); first | (refine wpList_box_H rfl rfl H rfl (by constructor) ?_; clear H; intro b w H))
            | ((with_reducible refine at_alloc ?_); first | (refine wpList_alloc_H rfl rfl H ?_; clear H; intro b w H))
            | ((with_reducible refine at_load ?_); first | (refine wpList_load_H rfl rfl H rfl (by repeat constructor) ?_) | (refine wpList_loads_H rfl rfl H rfl (by repeat constructor) ?_))
            | ((with_reducible refine at_store ?_); first | (refine wpList_store_H rfl rfl H rfl rfl (by repeat constructor) ?_; clear H; intro w H)))
          refine bodyPost_ret (results_H2 rfl H rfl (by repeat constructor)) rfl ⟨⟨d.mem, ⟨d.gs.A, d.gs.c, d.gs.xs.set k q1⟩, d.outs, d.pend⟩, by rw [HO.out]; simp [BV.val], ?_, H.bare5 (.cons (by repeat constructor) (.cons (by repeat constructor) (.cons (by repeat constructor) (.cons (by repeat constructor) (.cons (by repeat constructor) .nil))))) rfl rfl⟩
          rw [ch_hit (by first | exact HO.out | (rw [HO.out]; rfl))]
          refine wg_put HD HK (F := (answerG kd v)) ?_
          rw [HQ.out]
          have hkd' := e2
          unfold answerG; rw [if_neg (by simpa using hkd')]
      · skip
        have HO : Hid (chOkM B.m k cb = true) := by show _ = _; rw [ho, HCB.out]; rw [e2]; rfl
        clear ho
        have H := Hp.start W0
        go_enter Tryz.func10, Tryz.ntmps10
        go_wp2_with (first
          | go_skip
          | ((with_reducible refine at_box ?_); first | (refine wpList_box_H (cs := (barr B).toList) rfl rfl H rfl CellsOf.agg ?_; clear H; intro bB w H) | (refine wpList_box_H rfl rfl H rfl (by constructor) ?_; clear H; intro b w H))
          | ((with_reducible refine at_alloc ?_); first | ((with_reducible refine at_dst 6 ?_); refine wpList_alloc_H rfl rfl H ?_; clear H; intro bR w H) | ((with_reducible refine at_dst 8 ?_); refine wpList_alloc_H rfl rfl H ?_; clear H; intro bX w H) | (refine wpList_alloc_H rfl rfl H ?_; clear H; intro b w H))
          | ((with_reducible refine at_load ?_); first | (refine wpList_loads_rd rfl rfl d.gs (H.rdgsl (by repeat constructor)) rfl y HK.out (by repeat constructor) ?_) | (refine wpList_load_H rfl rfl H rfl (by repeat constructor) ?_) | (refine wpList_loads_H rfl rfl H rfl (by repeat constructor) ?_))
          | ((with_reducible refine at_store ?_); first | (refine wpList_store_H rfl rfl H rfl rfl (by repeat constructor) ?_; clear H; intro w H))
          | ((with_reducible refine at_index ?_); first | (refine wpList_index_n rfl rfl d.gs (H.rdgsl (by repeat constructor)) rfl rfl rfl (by rw [m_glen HD]; exact hk) ?_))
          | (go_at_call 76; refine (l17Copy_c B _ (R.at_ H) Z).mono ?_; rintro e w ⟨d, rfl, x1, K⟩; have HD := Lib.hid x1; clear x1; have Zd := m_big HD Z; replace H := (H.add_all K); clear K; obtain ⟨y, hy⟩ : ∃ y, d.gs.xs[k]? = some y := ⟨_, List.getElem?_eq_getElem (by rw [m_glen HD]; exact hk)⟩; have HK := Lib.hid hy; clear hy; have HY : Hid (y.exit.kind = kd) := (by show _ = _; have h := (gAtM_hit HK.out).1; rw [HD.out] at h; have h2 := HKD.out; rw [h] at h2; exact h2); have e2y : (y.exit.kind == 2) = true := (by rw [HY.out]; exact e2); skip)
          | (go_at_call 77; refine (l19Is_c d k _ (H.brd (by repeat constructor)) Zd).mono ?_; rintro e w ⟨he, K⟩; rw [HD.out, e1] at he; subst he; replace H := H.add_all K; clear K; replace H := (H.take (e := .bare d) (by repeat constructor)).bparts)
          | (go_at_call 78; refine (in_any _ _ _ _).mono ?_; rintro e w' ⟨he, hw⟩; subst hw; rw [ev] at he; subst he))
        refine wp_cut (fun u a' w' => ∃ (q0 : GV) (q1 : GV), Hid (q1.m = movedM (stoppedM (⟨y.prog, v, y.pc, y.written, y.live, y.ctl, y.pending, y.exit, y.halted, y.seen⟩ : GV).m noExit)) ∧ Hp W0 w' [.gst q1, .many En.gst d.gs.xs, .gsl ⟨d.gs.A, d.gs.c, d.gs.xs.set k q1⟩, .rows d.mem, .many En.int d.mem.xs, .int d.outs, .box bB 28 (barr d).toList, .box bR 28 [.slice none 0 0, .slice none 0 0, .slice none 0 0, .int .i64 0]] ∧ a' = puts u [(36, .pointer (some ⟨bB, 1, none⟩)), (37, .slice d.gs.A d.gs.xs.length d.gs.c), (38, (.int .i64 k)), (39, (⟨y.prog, v, y.pc, y.written, y.live, y.ctl, y.pending, y.exit, y.halted, y.seen⟩ : GV).val), (40, noExit.val), (41, q0.val), (42, q1.val), (43, (.pointer (some ⟨ablk d.gs.A, aoff d.gs.A + k * 15, none⟩)))]) ?_ ?_
        · refine wp_region_held (S := (fun w' => Rw w' bB 28 (barr d) ∧ Rw w' bX 53 (garr (⟨y.prog, v, y.pc, y.written, y.live, y.ctl, y.pending, y.exit, y.halted, y.seen⟩ : GV)))) (by kernel_rfl) ?_
          replace H := H.drew
          refine tkH (i := 0) rfl .here (yields_val (v := .pointer (some ⟨bB, 1, none⟩)) rfl (fun _ => by go_simp)) ⟨H.rw_ (by repeat constructor), H.rw_ (by repeat constructor)⟩ ?_
          (try go_frame)
          refine tkH (i := 1) rfl (.of rfl) (yields_load1_R rfl rfl rfl (fun _ hS => hS.1) rfl) ⟨H.rw_ (by repeat constructor), H.rw_ (by repeat constructor)⟩ ?_
          (try go_frame)
          refine tkH (i := 2) rfl (.of rfl) (yields_val (v := (.int .i64 k)) rfl (fun _ => by go_simp)) ⟨H.rw_ (by repeat constructor), H.rw_ (by repeat constructor)⟩ ?_
          (try go_frame)
          refine tkH (i := 3) rfl (.of rfl) (yields_loads_R rfl rfl rfl (fun _ hS => hS.2) (by repeat constructor)) ⟨H.rw_ (by repeat constructor), H.rw_ (by repeat constructor)⟩ ?_
          (try go_frame)
          refine tkH (i := 4) rfl (.of rfl) (yields_val (v := noExit.val) rfl (fun _ => by go_simp)) ⟨H.rw_ (by repeat constructor), H.rw_ (by repeat constructor)⟩ ?_
          (try go_frame)
          refine anyH_1 (i := 5) (by kernel_rfl) ?_
          refine wpOp_at rfl (.of rfl) rfl ?_
          refine wp_call_H Tryz.f80 rfl rfl Tryz.func80 (by kernel_rfl) rfl rfl (made_H H ((specStopped_c (⟨y.prog, v, y.pc, y.written, y.live, y.ctl, y.pending, y.exit, y.halted, y.seen⟩ : GV) noExit _ rfl _ (gz_rd (H.grdmany (by repeat constructor) y (List.mem_of_getElem? HK.out)) rfl rfl rfl rfl) (Zd.gsi y (List.mem_of_getElem? HK.out))).mono fun _ _ h => mkg h)) ?_
          clear H
          rintro _ w ⟨q0, rfl, Hq0, H⟩
          have zq0 : GBig q0 := gbig_mm (m := stoppedM (⟨y.prog, v, y.pc, y.written, y.live, y.ctl, y.pending, y.exit, y.halted, y.seen⟩ : GV).m noExit) (show MBig y.m from (Zd.gsi y (List.mem_of_getElem? HK.out)).m) (by show _ = _; rw [Hq0.out])
          refine ⟨⟨H.rw_ (by repeat constructor), H.rw_ (by repeat constructor)⟩, ?_⟩
          (try go_frame)
          refine anyH_1 (i := 6) (by kernel_rfl) ?_
          refine wpOp_at rfl (.of rfl) rfl ?_
          refine wp_call_H Tryz.f79 rfl rfl Tryz.func79 (by kernel_rfl) rfl rfl (made_H H ((specMoved_c q0 _ rfl _ (H.grd1 (by repeat constructor)) zq0).mono fun _ _ h => mkg h)) ?_
          clear H
          rintro _ w ⟨q1, rfl, Hq1, H⟩
          have zq1 : GBig q1 := gbig_mm (m := movedM (stoppedM (⟨y.prog, v, y.pc, y.written, y.live, y.ctl, y.pending, y.exit, y.halted, y.seen⟩ : GV).m noExit)) (show MBig y.m from (Zd.gsi y (List.mem_of_getElem? HK.out)).m) (by show _ = _; rw [Hq1.out, Hq0.out])
          refine ⟨⟨H.rw_ (by repeat constructor), H.rw_ (by repeat constructor)⟩, ?_⟩
          (try go_frame)
          refine anyH_1 (i := 7) (by kernel_rfl) ?_
          refine wpOp_at rfl (.of rfl) rfl ?_
          refine wp_index_n rfl d.gs (H.rdgsl (by repeat constructor)) rfl rfl rfl (by rw [m_glen HD]; exact hk) ?_
          refine ⟨⟨H.rw_ (by repeat constructor), H.rw_ (by repeat constructor)⟩, ?_⟩
          (try go_frame)
          refine anyH_1 (i := 8) (by kernel_rfl) ?_
          refine wpOp_at rfl (.of rfl) rfl ?_
          refine wp_store_el rfl H d.gs (by repeat constructor) g_len rfl rfl y q1 HK.out (Nat.add_zero _).symm (by constructor) (by repeat constructor) (by exact rfl) (by exact rfl) ?_
          clear H
          intro w H
          refine ⟨⟨H.rw_ (by repeat constructor), H.rw_ (by repeat constructor)⟩, ?_⟩
          (try go_frame)
          refine wpAnyH_done (by kernel_rfl) ?_ _
          exact ⟨rfl, q0, q1, (by show _ = _; rw [Hq1.out, Hq0.out]), H.pick (.cons (by repeat constructor) (.cons (by repeat constructor) (.cons (by repeat constructor) (.cons (by repeat constructor) (.cons (by repeat constructor) (.cons (by repeat constructor) (.cons (by repeat constructor) (.cons (by repeat constructor) .nil)))))))), by first | (simp only [puts_cons, puts_nil, Act.put, List.setIfInBounds_toArray, List.set_cons_succ, List.set_cons_zero]; done) | (simp only [puts_cons, puts_nil, Act.put, List.setIfInBounds_toArray, List.set_cons_succ, List.set_cons_zero]; rfl)⟩
        clear H
        rintro u w ⟨q0, q1, HQ, H, rfl⟩
        simp only [puts_cons, puts_nil, Act.put, List.setIfInBounds_toArray, List.set_cons_succ, List.set_cons_zero]
        replace H := H.many_set (by rw [m_glen HD]; exact hk)
        go_wp2_with (first
          | go_skip
          | ((with_reducible refine at_box ?_); first | (refine wpList_box_H rfl rfl H rfl (by constructor) ?_; clear H; intro b w H))
          | ((with_reducible refine at_alloc ?_); first | (refine wpList_alloc_H rfl rfl H ?_; clear H; intro b w H))
          | ((with_reducible refine at_load ?_); first | (refine wpList_load_H rfl rfl H rfl (by repeat constructor) ?_) | (refine wpList_loads_H rfl rfl H rfl (by repeat constructor) ?_))
          | ((with_reducible refine at_store ?_); first | (refine wpList_store_H rfl rfl H rfl rfl (by repeat constructor) ?_; clear H; intro w H)))
        refine bodyPost_ret (results_H2 rfl H rfl (by repeat constructor)) rfl ⟨⟨d.mem, ⟨d.gs.A, d.gs.c, d.gs.xs.set k q1⟩, d.outs, d.pend⟩, by rw [HO.out]; simp [BV.val], ?_, H.bare5 (.cons (by repeat constructor) (.cons (by repeat constructor) (.cons (by repeat constructor) (.cons (by repeat constructor) (.cons (by repeat constructor) .nil))))) rfl rfl⟩
        rw [ch_hit (by first | exact HO.out | (rw [HO.out]; rfl))]
        refine wg_put HD HK (F := (answerG kd v)) ?_
        rw [HQ.out]
        have hkd' := e2
        unfold answerG; rw [if_pos (by simpa using hkd')]
        all_goals rfl
set_option maxRecDepth 100000 in
set_option maxHeartbeats 4000000 in
theorem specBareResume_c (B : BV) (g : Int) (W0 : World) (R : BRd W0 B) (Z : BBig B) : Calls Tryz.prog 13 #[B.val, .int .i64 g] W0 fun e w' => ∃ d : BV, e = .returned (.tuple #[d.val, .bool (chOkM B.m g (resC B.m g))]) ∧ d.m = changedM B.m g (resC B.m g) (resF B.m g) ∧ Hp W0 w' [.bare d] := by
  have ho : chOkM B.m g (resC B.m g) = ((bareOkM B.m && hasM B.m g) && (resC B.m g)) := rfl
  cases e1 : (bareOkM B.m && hasM B.m g)
  case false =>
    rw [e1, Bool.false_and] at ho
    have HO := Lib.hid ho
    clear ho
    have H := Hp.start W0
    go_enter Tryz.func13, Tryz.ntmps13
    go_wp2_with (first
      | go_skip
      | ((with_reducible refine at_box ?_); first | (refine wpList_box_H (cs := (barr B).toList) rfl rfl H rfl CellsOf.agg ?_; clear H; intro bB w H) | (refine wpList_box_H rfl rfl H rfl (by constructor) ?_; clear H; intro b w H))
      | ((with_reducible refine at_alloc ?_); first | ((with_reducible refine at_dst 4 ?_); refine wpList_alloc_H rfl rfl H ?_; clear H; intro bR w H) | (refine wpList_alloc_H rfl rfl H ?_; clear H; intro b w H))
      | ((with_reducible refine at_load ?_); first | (refine wpList_load_H rfl rfl H rfl (by repeat constructor) ?_) | (refine wpList_loads_H rfl rfl H rfl (by repeat constructor) ?_))
      | ((with_reducible refine at_store ?_); first | (refine wpList_store_H rfl rfl H rfl rfl (by repeat constructor) ?_; clear H; intro w H))
      | (go_at_call 76; refine (l17Copy_c B _ (R.at_ H) Z).mono ?_; rintro e w ⟨d, rfl, x1, K⟩; have HD := Lib.hid x1; clear x1; have Zd := m_big HD Z; replace H := (H.add_all K); clear K)
      | (go_at_call 77; refine (l19Is_c d g _ (H.brd (by repeat constructor)) Zd).mono ?_; rintro e w ⟨he, K⟩; rw [HD.out, e1] at he; subst he; replace H := H.add_all K; clear K))
    refine bodyPost_ret (results_H2 rfl H rfl (by repeat constructor)) rfl ⟨d, by rw [HO.out]; rfl, by unfold changedM; rw [HO.out]; exact HD.out, H.pick (.cons (by repeat constructor) .nil)⟩
  case true =>
    rw [e1, Bool.true_and] at ho
    have hg : 0 ≤ g ∧ g < B.gs.xs.length := by simp only [Bool.and_eq_true] at e1; simpa [hasM, hasB, BV.m, gsOf] using e1.2
    obtain ⟨k, rfl⟩ := Int.eq_ofNat_of_zero_le hg.1
    have hk : k < B.gs.xs.length := by omega
    clear hg
    obtain ⟨kd, hkd⟩ : ∃ kd, kd = (gAtM B.m k).exit.kind := ⟨_, rfl⟩
    have HC : (resC B.m k) = (kd == 1 || kd == 4) := by unfold resC; rw [← hkd]
    have HF : (resF B.m k) = (resumeG kd) := by unfold resF; rw [← hkd]
    rw [HC] at ho ⊢
    rw [HF]
    clear HC HF
    obtain ⟨cb, hcb⟩ : ∃ cb, cb = (kd == 1 || kd == 4) := ⟨_, rfl⟩
    rw [← hcb] at ho ⊢
    have HCB := Lib.hid hcb
    clear hcb
    have HKD := Lib.hid hkd.symm
    clear hkd
    cases e1' : (kd == 1)
    · cases e4 : (kd == 4)
      · skip
        have HO : Hid (chOkM B.m k cb = false) := by show _ = _; rw [ho, HCB.out]; rw [e1', e4]; rfl
        clear ho
        have H := Hp.start W0
        go_enter Tryz.func13, Tryz.ntmps13
        go_wp2_with (first
          | go_skip
          | ((with_reducible refine at_box ?_); first | (refine wpList_box_H (cs := (barr B).toList) rfl rfl H rfl CellsOf.agg ?_; clear H; intro bB w H) | (refine wpList_box_H rfl rfl H rfl (by constructor) ?_; clear H; intro b w H))
          | ((with_reducible refine at_alloc ?_); first | ((with_reducible refine at_dst 4 ?_); refine wpList_alloc_H rfl rfl H ?_; clear H; intro bR w H) | ((with_reducible refine at_dst 6 ?_); refine wpList_alloc_H rfl rfl H ?_; clear H; intro bX w H) | (refine wpList_alloc_H rfl rfl H ?_; clear H; intro b w H))
          | ((with_reducible refine at_load ?_); first | (refine wpList_loads_rd rfl rfl d.gs (H.rdgsl (by repeat constructor)) rfl y HK.out (by repeat constructor) ?_) | (refine wpList_load_H rfl rfl H rfl (by repeat constructor) ?_) | (refine wpList_loads_H rfl rfl H rfl (by repeat constructor) ?_))
          | ((with_reducible refine at_store ?_); first | (refine wpList_store_H rfl rfl H rfl rfl (by repeat constructor) ?_; clear H; intro w H))
          | ((with_reducible refine at_index ?_); first | (refine wpList_index_n rfl rfl d.gs (H.rdgsl (by repeat constructor)) rfl rfl rfl (by rw [m_glen HD]; exact hk) ?_))
          | (go_at_call 76; refine (l17Copy_c B _ (R.at_ H) Z).mono ?_; rintro e w ⟨d, rfl, x1, K⟩; have HD := Lib.hid x1; clear x1; have Zd := m_big HD Z; replace H := (H.add_all K); clear K; obtain ⟨y, hy⟩ : ∃ y, d.gs.xs[k]? = some y := ⟨_, List.getElem?_eq_getElem (by rw [m_glen HD]; exact hk)⟩; have HK := Lib.hid hy; clear hy; have HY : Hid (y.exit.kind = kd) := (by show _ = _; have h := (gAtM_hit HK.out).1; rw [HD.out] at h; have h2 := HKD.out; rw [h] at h2; exact h2); have e1y : (y.exit.kind == 1) = false := (by rw [HY.out]; exact e1'); have e4y : (y.exit.kind == 4) = false := (by rw [HY.out]; exact e4); skip)
          | (go_at_call 77; refine (l19Is_c d k _ (H.brd (by repeat constructor)) Zd).mono ?_; rintro e w ⟨he, K⟩; rw [HD.out, e1] at he; subst he; replace H := H.add_all K; clear K; replace H := (H.take (e := .bare d) (by repeat constructor)).bparts))
        refine bodyPost_ret (results_H2 rfl H rfl (by repeat constructor)) rfl ⟨d, by rw [HO.out]; rfl, by unfold changedM; rw [HO.out]; exact HD.out, H.bare5 (.cons (by repeat constructor) (.cons (by repeat constructor) (.cons (by repeat constructor) (.cons (by repeat constructor) (.cons (by repeat constructor) .nil))))) rfl rfl⟩
      · skip
        have HO : Hid (chOkM B.m k cb = true) := by show _ = _; rw [ho, HCB.out]; rw [e1', e4]; rfl
        clear ho
        have H := Hp.start W0
        go_enter Tryz.func13, Tryz.ntmps13
        go_wp2_with (first
          | go_skip
          | ((with_reducible refine at_box ?_); first | (refine wpList_box_H (cs := (barr B).toList) rfl rfl H rfl CellsOf.agg ?_; clear H; intro bB w H) | (refine wpList_box_H rfl rfl H rfl (by constructor) ?_; clear H; intro b w H))
          | ((with_reducible refine at_alloc ?_); first | ((with_reducible refine at_dst 4 ?_); refine wpList_alloc_H rfl rfl H ?_; clear H; intro bR w H) | ((with_reducible refine at_dst 6 ?_); refine wpList_alloc_H rfl rfl H ?_; clear H; intro bX w H) | (refine wpList_alloc_H rfl rfl H ?_; clear H; intro b w H))
          | ((with_reducible refine at_load ?_); first | (refine wpList_loads_rd rfl rfl d.gs (H.rdgsl (by repeat constructor)) rfl y HK.out (by repeat constructor) ?_) | (refine wpList_load_H rfl rfl H rfl (by repeat constructor) ?_) | (refine wpList_loads_H rfl rfl H rfl (by repeat constructor) ?_))
          | ((with_reducible refine at_store ?_); first | (refine wpList_store_H rfl rfl H rfl rfl (by repeat constructor) ?_; clear H; intro w H))
          | ((with_reducible refine at_index ?_); first | (refine wpList_index_n rfl rfl d.gs (H.rdgsl (by repeat constructor)) rfl rfl rfl (by rw [m_glen HD]; exact hk) ?_))
          | (go_at_call 76; refine (l17Copy_c B _ (R.at_ H) Z).mono ?_; rintro e w ⟨d, rfl, x1, K⟩; have HD := Lib.hid x1; clear x1; have Zd := m_big HD Z; replace H := (H.add_all K); clear K; obtain ⟨y, hy⟩ : ∃ y, d.gs.xs[k]? = some y := ⟨_, List.getElem?_eq_getElem (by rw [m_glen HD]; exact hk)⟩; have HK := Lib.hid hy; clear hy; have HY : Hid (y.exit.kind = kd) := (by show _ = _; have h := (gAtM_hit HK.out).1; rw [HD.out] at h; have h2 := HKD.out; rw [h] at h2; exact h2); have e1y : (y.exit.kind == 1) = false := (by rw [HY.out]; exact e1'); have e4y : (y.exit.kind == 4) = true := (by rw [HY.out]; exact e4); skip)
          | (go_at_call 77; refine (l19Is_c d k _ (H.brd (by repeat constructor)) Zd).mono ?_; rintro e w ⟨he, K⟩; rw [HD.out, e1] at he; subst he; replace H := H.add_all K; clear K; replace H := (H.take (e := .bare d) (by repeat constructor)).bparts))
        refine wp_cut (fun u a' w' => ∃ (q0 : GV) (q1 : GV), Hid (q1.m = heldM (stoppedM (y : GV).m noExit)) ∧ Hp W0 w' [.gst q1, .many En.gst d.gs.xs, .gsl ⟨d.gs.A, d.gs.c, d.gs.xs.set k q1⟩, .rows d.mem, .many En.int d.mem.xs, .int d.outs, .box bB 28 (barr d).toList, .box bR 28 [.slice none 0 0, .slice none 0 0, .slice none 0 0, .int .i64 0]] ∧ a' = puts u [(34, .pointer (some ⟨bB, 1, none⟩)), (35, .slice d.gs.A d.gs.xs.length d.gs.c), (36, (.int .i64 k)), (37, (y : GV).val), (38, noExit.val), (39, q0.val), (40, q1.val), (41, (.pointer (some ⟨ablk d.gs.A, aoff d.gs.A + k * 15, none⟩)))]) ?_ ?_
        · refine wp_region_held (S := (fun w' => Rw w' bB 28 (barr d) ∧ Rw w' bX 53 (garr (y : GV)))) (by kernel_rfl) ?_
          replace H := H.drew
          refine tkH (i := 0) rfl .here (yields_val (v := .pointer (some ⟨bB, 1, none⟩)) rfl (fun _ => by go_simp)) ⟨H.rw_ (by repeat constructor), H.rw_ (by repeat constructor)⟩ ?_
          (try go_frame)
          refine tkH (i := 1) rfl (.of rfl) (yields_load1_R rfl rfl rfl (fun _ hS => hS.1) rfl) ⟨H.rw_ (by repeat constructor), H.rw_ (by repeat constructor)⟩ ?_
          (try go_frame)
          refine tkH (i := 2) rfl (.of rfl) (yields_val (v := (.int .i64 k)) rfl (fun _ => by go_simp)) ⟨H.rw_ (by repeat constructor), H.rw_ (by repeat constructor)⟩ ?_
          (try go_frame)
          refine tkH (i := 3) rfl (.of rfl) (yields_loads_R rfl rfl rfl (fun _ hS => hS.2) (by repeat constructor)) ⟨H.rw_ (by repeat constructor), H.rw_ (by repeat constructor)⟩ ?_
          (try go_frame)
          refine tkH (i := 4) rfl (.of rfl) (yields_val (v := noExit.val) rfl (fun _ => by go_simp)) ⟨H.rw_ (by repeat constructor), H.rw_ (by repeat constructor)⟩ ?_
          (try go_frame)
          refine anyH_1 (i := 5) (by kernel_rfl) ?_
          refine wpOp_at rfl (.of rfl) rfl ?_
          refine wp_call_H Tryz.f80 rfl rfl Tryz.func80 (by kernel_rfl) rfl rfl (made_H H ((specStopped_c (y : GV) noExit _ rfl _ (gz_rd (H.grdmany (by repeat constructor) y (List.mem_of_getElem? HK.out)) rfl rfl rfl rfl) (Zd.gsi y (List.mem_of_getElem? HK.out))).mono fun _ _ h => mkg h)) ?_
          clear H
          rintro _ w ⟨q0, rfl, Hq0, H⟩
          have zq0 : GBig q0 := gbig_mm (m := stoppedM (y : GV).m noExit) (show MBig y.m from (Zd.gsi y (List.mem_of_getElem? HK.out)).m) (by show _ = _; rw [Hq0.out])
          refine ⟨⟨H.rw_ (by repeat constructor), H.rw_ (by repeat constructor)⟩, ?_⟩
          (try go_frame)
          refine anyH_1 (i := 6) (by kernel_rfl) ?_
          refine wpOp_at rfl (.of rfl) rfl ?_
          refine wp_call_H Tryz.f83 rfl rfl Tryz.func83 (by kernel_rfl) rfl rfl (made_H H ((specHeld_c q0 _ rfl _ (H.grd1 (by repeat constructor)) zq0).mono fun _ _ h => mkg h)) ?_
          clear H
          rintro _ w ⟨q1, rfl, Hq1, H⟩
          have zq1 : GBig q1 := gbig_mm (m := heldM (stoppedM (y : GV).m noExit)) (show MBig y.m from (Zd.gsi y (List.mem_of_getElem? HK.out)).m) (by show _ = _; rw [Hq1.out, Hq0.out])
          refine ⟨⟨H.rw_ (by repeat constructor), H.rw_ (by repeat constructor)⟩, ?_⟩
          (try go_frame)
          refine anyH_1 (i := 7) (by kernel_rfl) ?_
          refine wpOp_at rfl (.of rfl) rfl ?_
          refine wp_index_n rfl d.gs (H.rdgsl (by repeat constructor)) rfl rfl rfl (by rw [m_glen HD]; exact hk) ?_
          refine ⟨⟨H.rw_ (by repeat constructor), H.rw_ (by repeat constructor)⟩, ?_⟩
          (try go_frame)
          refine anyH_1 (i := 8) (by kernel_rfl) ?_
          refine wpOp_at rfl (.of rfl) rfl ?_
          refine wp_store_el rfl H d.gs (by repeat constructor) g_len rfl rfl y q1 HK.out (Nat.add_zero _).symm (by constructor) (by repeat constructor) (by exact rfl) (by exact rfl) ?_
          clear H
          intro w H
          refine ⟨⟨H.rw_ (by repeat constructor), H.rw_ (by repeat constructor)⟩, ?_⟩
          (try go_frame)
          refine wpAnyH_done (by kernel_rfl) ?_ _
          exact ⟨rfl, q0, q1, (by show _ = _; rw [Hq1.out, Hq0.out]), H.pick (.cons (by repeat constructor) (.cons (by repeat constructor) (.cons (by repeat constructor) (.cons (by repeat constructor) (.cons (by repeat constructor) (.cons (by repeat constructor) (.cons (by repeat constructor) (.cons (by repeat constructor) .nil)))))))), by first | (simp only [puts_cons, puts_nil, Act.put, List.setIfInBounds_toArray, List.set_cons_succ, List.set_cons_zero]; done) | (simp only [puts_cons, puts_nil, Act.put, List.setIfInBounds_toArray, List.set_cons_succ, List.set_cons_zero]; rfl)⟩
        clear H
        rintro u w ⟨q0, q1, HQ, H, rfl⟩
        simp only [puts_cons, puts_nil, Act.put, List.setIfInBounds_toArray, List.set_cons_succ, List.set_cons_zero]
        replace H := H.many_set (by rw [m_glen HD]; exact hk)
        go_wp2_with (first
          | go_skip
          | ((with_reducible refine at_box ?_); first | (refine wpList_box_H rfl rfl H rfl (by constructor) ?_; clear H; intro b w H))
          | ((with_reducible refine at_alloc ?_); first | (refine wpList_alloc_H rfl rfl H ?_; clear H; intro b w H))
          | ((with_reducible refine at_load ?_); first | (refine wpList_load_H rfl rfl H rfl (by repeat constructor) ?_) | (refine wpList_loads_H rfl rfl H rfl (by repeat constructor) ?_))
          | ((with_reducible refine at_store ?_); first | (refine wpList_store_H rfl rfl H rfl rfl (by repeat constructor) ?_; clear H; intro w H)))
        refine bodyPost_ret (results_H2 rfl H rfl (by repeat constructor)) rfl ⟨⟨d.mem, ⟨d.gs.A, d.gs.c, d.gs.xs.set k q1⟩, d.outs, d.pend⟩, by rw [HO.out]; simp [BV.val], ?_, H.bare5 (.cons (by repeat constructor) (.cons (by repeat constructor) (.cons (by repeat constructor) (.cons (by repeat constructor) (.cons (by repeat constructor) .nil))))) rfl rfl⟩
        rw [ch_hit (by first | exact HO.out | (rw [HO.out]; rfl))]
        refine wg_put HD HK (F := (resumeG kd)) ?_
        rw [HQ.out]
        have hkd' := e4
        unfold resumeG; rw [if_pos (by simpa using hkd')]
        all_goals rfl
    · have e4 : (kd == 4) = false := by simp at e1' ⊢; omega
      have HO : Hid (chOkM B.m k cb = true) := by show _ = _; rw [ho, HCB.out]; rw [e1']; rfl
      clear ho
      have H := Hp.start W0
      go_enter Tryz.func13, Tryz.ntmps13
      go_wp2_with (first
        | go_skip
        | ((with_reducible refine at_box ?_); first | (refine wpList_box_H (cs := (barr B).toList) rfl rfl H rfl CellsOf.agg ?_; clear H; intro bB w H) | (refine wpList_box_H rfl rfl H rfl (by constructor) ?_; clear H; intro b w H))
        | ((with_reducible refine at_alloc ?_); first | ((with_reducible refine at_dst 4 ?_); refine wpList_alloc_H rfl rfl H ?_; clear H; intro bR w H) | ((with_reducible refine at_dst 6 ?_); refine wpList_alloc_H rfl rfl H ?_; clear H; intro bX w H) | (refine wpList_alloc_H rfl rfl H ?_; clear H; intro b w H))
        | ((with_reducible refine at_load ?_); first | (refine wpList_loads_rd rfl rfl d.gs (H.rdgsl (by repeat constructor)) rfl y HK.out (by repeat constructor) ?_) | (refine wpList_load_H rfl rfl H rfl (by repeat constructor) ?_) | (refine wpList_loads_H rfl rfl H rfl (by repeat constructor) ?_))
        | ((with_reducible refine at_store ?_); first | (refine wpList_store_H rfl rfl H rfl rfl (by repeat constructor) ?_; clear H; intro w H))
        | ((with_reducible refine at_index ?_); first | (refine wpList_index_n rfl rfl d.gs (H.rdgsl (by repeat constructor)) rfl rfl rfl (by rw [m_glen HD]; exact hk) ?_))
        | (go_at_call 76; refine (l17Copy_c B _ (R.at_ H) Z).mono ?_; rintro e w ⟨d, rfl, x1, K⟩; have HD := Lib.hid x1; clear x1; have Zd := m_big HD Z; replace H := (H.add_all K); clear K; obtain ⟨y, hy⟩ : ∃ y, d.gs.xs[k]? = some y := ⟨_, List.getElem?_eq_getElem (by rw [m_glen HD]; exact hk)⟩; have HK := Lib.hid hy; clear hy; have HY : Hid (y.exit.kind = kd) := (by show _ = _; have h := (gAtM_hit HK.out).1; rw [HD.out] at h; have h2 := HKD.out; rw [h] at h2; exact h2); have e1y : (y.exit.kind == 1) = true := (by rw [HY.out]; exact e1'); skip)
        | (go_at_call 77; refine (l19Is_c d k _ (H.brd (by repeat constructor)) Zd).mono ?_; rintro e w ⟨he, K⟩; rw [HD.out, e1] at he; subst he; replace H := H.add_all K; clear K; replace H := (H.take (e := .bare d) (by repeat constructor)).bparts))
      refine wp_cut (fun u a' w' => ∃ (q0 : GV), Hid (q0.m = stoppedM (y : GV).m noExit) ∧ Hp W0 w' [.gst q0, .many En.gst d.gs.xs, .gsl ⟨d.gs.A, d.gs.c, d.gs.xs.set k q0⟩, .rows d.mem, .many En.int d.mem.xs, .int d.outs, .box bB 28 (barr d).toList, .box bR 28 [.slice none 0 0, .slice none 0 0, .slice none 0 0, .int .i64 0]] ∧ a' = puts u [(25, .pointer (some ⟨bB, 1, none⟩)), (26, .slice d.gs.A d.gs.xs.length d.gs.c), (27, (.int .i64 k)), (28, (y : GV).val), (29, noExit.val), (30, q0.val), (31, (.pointer (some ⟨ablk d.gs.A, aoff d.gs.A + k * 15, none⟩)))]) ?_ ?_
      · refine wp_region_held (S := (fun w' => Rw w' bB 28 (barr d) ∧ Rw w' bX 53 (garr (y : GV)))) (by kernel_rfl) ?_
        replace H := H.drew
        refine tkH (i := 0) rfl .here (yields_val (v := .pointer (some ⟨bB, 1, none⟩)) rfl (fun _ => by go_simp)) ⟨H.rw_ (by repeat constructor), H.rw_ (by repeat constructor)⟩ ?_
        (try go_frame)
        refine tkH (i := 1) rfl (.of rfl) (yields_load1_R rfl rfl rfl (fun _ hS => hS.1) rfl) ⟨H.rw_ (by repeat constructor), H.rw_ (by repeat constructor)⟩ ?_
        (try go_frame)
        refine tkH (i := 2) rfl (.of rfl) (yields_val (v := (.int .i64 k)) rfl (fun _ => by go_simp)) ⟨H.rw_ (by repeat constructor), H.rw_ (by repeat constructor)⟩ ?_
        (try go_frame)
        refine tkH (i := 3) rfl (.of rfl) (yields_loads_R rfl rfl rfl (fun _ hS => hS.2) (by repeat constructor)) ⟨H.rw_ (by repeat constructor), H.rw_ (by repeat constructor)⟩ ?_
        (try go_frame)
        refine tkH (i := 4) rfl (.of rfl) (yields_val (v := noExit.val) rfl (fun _ => by go_simp)) ⟨H.rw_ (by repeat constructor), H.rw_ (by repeat constructor)⟩ ?_
        (try go_frame)
        refine anyH_1 (i := 5) (by kernel_rfl) ?_
        refine wpOp_at rfl (.of rfl) rfl ?_
        refine wp_call_H Tryz.f80 rfl rfl Tryz.func80 (by kernel_rfl) rfl rfl (made_H H ((specStopped_c (y : GV) noExit _ rfl _ (gz_rd (H.grdmany (by repeat constructor) y (List.mem_of_getElem? HK.out)) rfl rfl rfl rfl) (Zd.gsi y (List.mem_of_getElem? HK.out))).mono fun _ _ h => mkg h)) ?_
        clear H
        rintro _ w ⟨q0, rfl, Hq0, H⟩
        have zq0 : GBig q0 := gbig_mm (m := stoppedM (y : GV).m noExit) (show MBig y.m from (Zd.gsi y (List.mem_of_getElem? HK.out)).m) (by show _ = _; rw [Hq0.out])
        refine ⟨⟨H.rw_ (by repeat constructor), H.rw_ (by repeat constructor)⟩, ?_⟩
        (try go_frame)
        refine anyH_1 (i := 6) (by kernel_rfl) ?_
        refine wpOp_at rfl (.of rfl) rfl ?_
        refine wp_index_n rfl d.gs (H.rdgsl (by repeat constructor)) rfl rfl rfl (by rw [m_glen HD]; exact hk) ?_
        refine ⟨⟨H.rw_ (by repeat constructor), H.rw_ (by repeat constructor)⟩, ?_⟩
        (try go_frame)
        refine anyH_1 (i := 7) (by kernel_rfl) ?_
        refine wpOp_at rfl (.of rfl) rfl ?_
        refine wp_store_el rfl H d.gs (by repeat constructor) g_len rfl rfl y q0 HK.out (Nat.add_zero _).symm (by constructor) (by repeat constructor) (by exact rfl) (by exact rfl) ?_
        clear H
        intro w H
        refine ⟨⟨H.rw_ (by repeat constructor), H.rw_ (by repeat constructor)⟩, ?_⟩
        (try go_frame)
        refine wpAnyH_done (by kernel_rfl) ?_ _
        exact ⟨rfl, q0, (by show _ = _; rw [Hq0.out]), H.pick (.cons (by repeat constructor) (.cons (by repeat constructor) (.cons (by repeat constructor) (.cons (by repeat constructor) (.cons (by repeat constructor) (.cons (by repeat constructor) (.cons (by repeat constructor) (.cons (by repeat constructor) .nil)))))))), by first | (simp only [puts_cons, puts_nil, Act.put, List.setIfInBounds_toArray, List.set_cons_succ, List.set_cons_zero]; done) | (simp only [puts_cons, puts_nil, Act.put, List.setIfInBounds_toArray, List.set_cons_succ, List.set_cons_zero]; rfl)⟩
      clear H
      rintro u w ⟨q0, HQ, H, rfl⟩
      simp only [puts_cons, puts_nil, Act.put, List.setIfInBounds_toArray, List.set_cons_succ, List.set_cons_zero]
      replace H := H.many_set (by rw [m_glen HD]; exact hk)
      go_wp2_with (first
        | go_skip
        | ((with_reducible refine at_box ?_); first | (refine wpList_box_H rfl rfl H rfl (by constructor) ?_; clear H; intro b w H))
        | ((with_reducible refine at_alloc ?_); first | (refine wpList_alloc_H rfl rfl H ?_; clear H; intro b w H))
        | ((with_reducible refine at_load ?_); first | (refine wpList_load_H rfl rfl H rfl (by repeat constructor) ?_) | (refine wpList_loads_H rfl rfl H rfl (by repeat constructor) ?_))
        | ((with_reducible refine at_store ?_); first | (refine wpList_store_H rfl rfl H rfl rfl (by repeat constructor) ?_; clear H; intro w H)))
      refine bodyPost_ret (results_H2 rfl H rfl (by repeat constructor)) rfl ⟨⟨d.mem, ⟨d.gs.A, d.gs.c, d.gs.xs.set k q0⟩, d.outs, d.pend⟩, by rw [HO.out]; simp [BV.val], ?_, H.bare5 (.cons (by repeat constructor) (.cons (by repeat constructor) (.cons (by repeat constructor) (.cons (by repeat constructor) (.cons (by repeat constructor) .nil))))) rfl rfl⟩
      rw [ch_hit (by first | exact HO.out | (rw [HO.out]; rfl))]
      refine wg_put HD HK (F := (resumeG kd)) ?_
      rw [HQ.out]
      have hkd' := e4
      unfold resumeG; rw [if_neg (by simpa using hkd')]
      all_goals rfl
end Go.Proofs.YtaafnenmdombiaaGreat
