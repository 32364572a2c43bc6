/- Contracts of PostIrq and of the program's ways to change a guest of a bare machine. No condition but that the arguments lie in memory. -/
import Derived.Maps.RangeWalk
import Derived.Test.YtaafnenmdombiaaGreatBv
namespace Go.Proofs.YtaafnenmdombiaaGreat
set_option linter.unusedSimpArgs false
set_option linter.unusedVariables false
set_option linter.unusedSimpArgs false
set_option linter.unusedVariables false
open Go.RowKit
def answerG (kind v : Int) (x : MG) : MG := movedM (stoppedM (if kind = 2 then { x with a := v } else x) ⟨0, 0, false, 0⟩)
def resumeG (kind : Int) (x : MG) : MG := if kind = 4 then heldM { x with exit := ⟨0, 0, false, 0⟩ } else { x with exit := ⟨0, 0, false, 0⟩ }
def injectG (p : Int) (x : MG) : MG := { x with pending := p }
def ctlG (c : Ctl) (x : MG) : MG := { x with ctl := c }
def chOkM (m : MB) (g : Int) (c : Bool) : Bool := bareOkM m && hasM m g && c
def changedM (m : MB) (g : Int) (c : Bool) (F : MG → MG) : MB := if chOkM m g c then withGuestM m g (F (gAtM m g)) else m
def postOkM (p n : Int) : Bool := pendB p && inB n 0 7
def postM (p n : Int) : Int := if postOkM p n then bits .or .i64 p (wrap64 (2 ^ n.toNat)) else p
section
variable {P : Program} {ops : Array Oper} {rest : List Oper} {S : World → Prop} {o : Oper} {a : Act} {w0 w : World} {L L' : List En} {Q : Go.Exit → Act → World → Prop} {K : Act → World → Prop}
theorem Rw.at_ {b e : Nat} {cs : Array Value} (h : Rw w0 b e cs) (H : Hp w0 w L) : Rw w b e cs := h.keep (H.below.block b h.lt)
theorem Rw.below_ {b e : Nat} {cs : Array Value} (h : Rw w0 b e cs) (H : Below w0.heap.size w0 w) : Rw w b e cs := h.keep (H.block b h.lt)
/-- A variable that was there is read. -/
theorem wpList_loadc (hgd : Region.wanted o (yielded ops a.tmps) = true) {ty : TypeId} {x : Operand} (ho : o.op = .load ty x) (H : Hp w0 w L) {b i : Nat} (hx : a.eval x = .pointer (some ⟨b, i, none⟩)) [hS : TyS P ty] {e : Nat} {cs : List Value} (hR : Rw w0 b e cs.toArray) {v : Value} (hv : cs[i]? = some v)
    (h : wpList P ops Q rest (a.put o.dst v) w) : wpList P ops Q (o :: rest) a w := by
  refine wp_of_run hgd ho ?_ h
  have hc : w.cell? ⟨b, i, none⟩ = some v := by rw [(hR.at_ H).c]; simpa using hv
  rw [hx]; simp [Instr.loadAt, Instr.sureAddr, loadVar, hS.isAgg, hc, go_sem]
theorem wpList_loadsc (hgd : Region.wanted o (yielded ops a.tmps) = true) {ty : TypeId} {x : Operand} (ho : o.op = .load ty x) (H : Hp w0 w L) {b i : Nat} (hx : a.eval x = .pointer (some ⟨b, i, none⟩)) {n : Nat} [hS : TyA P ty n] {e : Nat} {cs : List Value} (hR : Rw w0 b e cs.toArray) {vs : List Value} (hv : GetsAt cs i n vs)
    (h : wpList P ops Q rest (a.put o.dst (.agg vs.toArray)) w) : wpList P ops Q (o :: rest) a w := by
  refine wp_of_run hgd ho ?_ h
  have hB := hR.at_ H
  obtain ⟨hn, hv⟩ := hv.eq
  rw [hx]; exact run_cells hS hn fun j v hj => by rw [hB.c]; simpa using hv j v hj
/-- A call of a function value. -/
theorem wp_callv_H {c : Call} {n : FuncId} {y : Operand} {caps : Array Value} (fn : Func) (ho : o.op = .call c) (hc : c.callee = .value y) (hy : a.eval y = .func (.func n) #[] caps) (hf : P.funcs[n]? = some fn) (hb : (fn.name == "runtime.NumGoroutine" || fn.body.isNone) = false) {xs : List Operand} (hx : c.args = xs.toArray) {args : List Value} (ha : xs.map a.eval = args) {R : Value → World → Prop}
    (h : Calls P n (args.toArray ++ caps) w (fun e w' => ∃ v, e = .returned v ∧ R v w')) (hk : ∀ v w', R v w' → K (a.put o.dst v) w') : o.wp P a w K Q := by
  have hb' := hb
  rw [Bool.or_eq_false_iff] at hb'
  obtain ⟨hb1, hb2⟩ := hb'
  have hp : program.run P w = .ok P w := rfl
  have hr : (execOp a.eval o).run P w = .ok (.enter n (args.toArray ++ caps)) w := by
    have ha' : c.args.map a.eval = args.toArray := by rw [hx, ← ha]; simp
    unfold execOp
    simp only [ho, resolve, hc, hy, Deferred.ofValue, Sem.run_bind, Sem.run_pure, Result.andThen_ok, invoke, callFunc, hp, hf, hb1, hb2, Bool.false_eq_true, if_false, Array.append_empty, Array.empty_append, ha']
  unfold Oper.wp
  rw [hr]
  show Calls P n (args.toArray ++ caps) w _
  exact h.mono fun e w' ⟨v, he, hR⟩ => by subst he; exact hk v w' hR
theorem below_H {f : FuncId} {args : Array Value} {α : Type} {val : α → Value} {F : α → World → Prop} (H : Hp w0 w L) (h : Calls P f args w (fun e w' => ∃ d : α, e = .returned (val d) ∧ F d w' ∧ Below w.heap.size w w')) :
    Calls P f args w (fun e w' => ∃ v, e = .returned v ∧ ∃ d : α, v = val d ∧ F d w' ∧ Hp w0 w' L) :=
  h.mono fun _ _ ⟨d, he, hf, hb⟩ => ⟨_, he, d, rfl, hf, H.still hb⟩
end
set_option maxRecDepth 100000 in
set_option maxHeartbeats 4000000 in
theorem postIrq_c (p n : Int) (W0 : World) : Calls Tryz.prog 85 #[.int .i64 p, .int .i64 n] W0 fun e w' => e = .returned (.tuple #[.int .i64 (postM p n), .bool (postOkM p n)]) ∧ Hp W0 w' [] := by
  have ho : postOkM p n = (pendB p && inB n 0 7) := rfl
  cases e1 : pendB p <;> cases e2 : inB n 0 7
  all_goals
    rw [e1, e2] at ho
    try (have hn : 0 ≤ n ∧ n ≤ 7 := by simpa [inB] using e2)
    try (have hp : 0 ≤ p ∧ p ≤ 255 := by simpa [pendB, inB] using e1)
    try obtain ⟨hn0, hn7⟩ := hn
    try obtain ⟨hp0, hp7⟩ := hp
    have HO := Lib.hid ho
    clear ho
    have H := Hp.start W0
    go_enter Tryz.func85, Tryz.ntmps85
    go_wp2_with (first
      | go_skip
      | ((with_reducible refine at_box ?_); first | (refine wpList_box_H rfl rfl H rfl (by constructor) ?_; clear H; intro b w H))
      | ((with_reducible refine at_alloc ?_); first | (refine wpList_alloc_H rfl rfl H ?_; clear H; intro b w H))
      | ((with_reducible refine at_load ?_); first | (refine wpList_load_H rfl rfl H rfl (by repeat constructor) ?_) | (refine wpList_loads_H rfl rfl H rfl (by repeat constructor) ?_))
      | ((with_reducible refine at_store ?_); first | (refine wpList_store_H rfl rfl H rfl rfl (by repeat constructor) ?_; clear H; intro w H))
      | (go_at_call 157; refine (pendOk_any _ _).mono ?_; rintro e w' ⟨he, hw⟩; subst hw; rw [e1] at he; subst he)
      | (go_at_call 72; refine (within_any _ _ _ _).mono ?_; rintro e w' ⟨he, hw⟩; subst hw; rw [e2] at he; subst he))
    go_ret2
    refine ⟨?_, H⟩
    rw [HO.out]; unfold postM; rw [HO.out]; rfl
set_option maxRecDepth 100000 in
set_option maxHeartbeats 4000000 in
theorem specPostIrq_c (p n : Int) (W0 : World) : Calls Tryz.prog 87 #[.int .i64 p, .int .i64 n] W0 fun e w' => e = .returned (.tuple #[.int .i64 (postM p n), .bool (postOkM p n)]) ∧ Hp W0 w' [] := by
  have ho : postOkM p n = (pendB p && inB n 0 7) := rfl
  cases e1 : pendB p <;> cases e2 : inB n 0 7
  all_goals
    rw [e1, e2] at ho
    try (have hn : 0 ≤ n ∧ n ≤ 7 := by simpa [inB] using e2)
    try (have hp : 0 ≤ p ∧ p ≤ 255 := by simpa [pendB, inB] using e1)
    try obtain ⟨hn0, hn7⟩ := hn
    try obtain ⟨hp0, hp7⟩ := hp
    have HO := Lib.hid ho
    clear ho
    have H := Hp.start W0
    go_enter Tryz.func87, Tryz.ntmps87
    go_wp2_with (first
      | go_skip
      | ((with_reducible refine at_box ?_); first | (refine wpList_box_H rfl rfl H rfl (by constructor) ?_; clear H; intro b w H))
      | ((with_reducible refine at_alloc ?_); first | (refine wpList_alloc_H rfl rfl H ?_; clear H; intro b w H))
      | ((with_reducible refine at_load ?_); first | (refine wpList_load_H rfl rfl H rfl (by repeat constructor) ?_) | (refine wpList_loads_H rfl rfl H rfl (by repeat constructor) ?_))
      | ((with_reducible refine at_store ?_); first | (refine wpList_store_H rfl rfl H rfl rfl (by repeat constructor) ?_; clear H; intro w H))
      | (go_at_call 160; refine (specPendOk_any _ _).mono ?_; rintro e w' ⟨he, hw⟩; subst hw; rw [e1] at he; subst he)
      | (go_at_call 78; refine (in_any _ _ _ _).mono ?_; rintro e w' ⟨he, hw⟩; subst hw; rw [e2] at he; subst he))
    go_ret2
    refine ⟨?_, H⟩
    rw [HO.out]; unfold postM; rw [HO.out]; rfl
set_option maxRecDepth 100000 in
set_option maxHeartbeats 4000000 in
theorem changed_c (B : BV) (g : Int) (c : Bool) (f : FuncId) (fn : Func) (hfn : Tryz.prog.funcs[f]? = some fn) (hfb : (fn.name == "runtime.NumGoroutine" || fn.body.isNone) = false) (caps : Array Value) (F : MG → MG) (W0 : World) (R : BRd W0 B) (Z : BBig B) (hF : (F (gAtM B.m g)).size ≤ 4194304)
    (hf : ∀ (x : GV) (w : World), Below W0.heap.size W0 w → GRd w x → GBig x → Calls Tryz.prog f ([x.val].toArray ++ caps) w (fun e w' => ∃ y : GV, e = .returned y.val ∧ (y.m = F x.m ∧ GRd w' y) ∧ Below w.heap.size w w')) :
    Calls Tryz.prog 71 #[B.val, .int .i64 g, .bool c, .func (.func f) #[] caps] W0 fun e w' => ∃ d : BV, e = .returned (.tuple #[d.val, .bool (chOkM B.m g c)]) ∧ d.m = changedM B.m g c F ∧ Hp W0 w' [.bare d] := by
  have ho : chOkM B.m g c = (bareOkM B.m && hasM B.m g && c) := rfl
  cases e1 : bareOkM B.m <;> cases e2 : hasM B.m g <;> cases c
  all_goals
    rw [e1, e2] at ho
    have HO := Lib.hid ho
    clear ho
    have H := Hp.start W0
    go_enter Tryz.func71, Tryz.ntmps71
    go_wp2_with (first
      | go_skip
      | ((with_reducible refine at_box ?_); first | (refine wpList_box_H rfl rfl H rfl (by constructor) ?_; clear H; intro bB w H))
      | ((with_reducible refine at_alloc ?_); first | ((with_reducible refine at_dst 8 ?_); refine wpList_alloc_H rfl rfl H ?_; clear H; intro bR w H) | (refine wpList_alloc_H rfl rfl H ?_; clear H; intro bX w H))
      | ((with_reducible refine at_load ?_); first | (refine wpList_load_H rfl rfl H rfl (by repeat constructor) ?_) | (refine wpList_loads_H rfl rfl H rfl (by repeat constructor) ?_))
      | ((with_reducible refine at_store ?_); first | (refine wpList_store_H rfl rfl H rfl rfl (by repeat constructor) ?_; clear H; intro w H))
      | (go_at_call 40; refine (guestAt_c B g _ (R.at_ H) Z).mono ?_; rintro e w ⟨x, he, x1, K⟩; rw [e2] at he; subst he; have HX := Lib.hid x1; clear x1; have zx : GBig x := size_big HX.out (Nat.le_trans (gAtM_size _ _) Z); replace H := H.add_all K; clear K)
      | (go_at_call 50; refine (bareOk_c B _ (R.at_ H) Z).mono ?_; rintro e w ⟨he, K⟩; rw [e1] at he; subst he; replace H := H.add_all K; clear K)
      | (go_at_call 113; refine (copyBare_c B _ (R.at_ H) Z).mono ?_; rintro e w ⟨d, rfl, x1, K⟩; have HD := Lib.hid x1; clear x1; replace H := H.add_all K; clear K))
    first
      | (refine bodyPost_ret (results_H2 rfl H rfl (by repeat constructor)) rfl ⟨d, by rw [HO.out]; rfl, by unfold changedM; rw [HO.out]; exact HD.out, H.pick (.cons (by repeat constructor) .nil)⟩; done)
      | skip
  refine wp_cut (fun u a' w' => ∃ (y : GV) (d : BV), Hid (d.m = withGuestM B.m g (F (gAtM B.m g))) ∧ Hp W0 w' [.bare d, .box bR 28 (barr d).toList] ∧ a' = puts u [(31, B.val), (32, (.int .i64 g)), (33, (.func (.func f) #[] caps)), (34, x.val), (35, y.val), (36, d.val), (9, (.bool true))]) ?_ ?_
  · refine wp_region_held (S := (fun w' => Rw w' bB 28 (barr B) ∧ Rw w' bX 53 (garr x))) (by kernel_rfl) ?_
    replace H := H.drew
    refine tkH (i := 0) rfl .here (yields_loads_R rfl rfl rfl (fun _ hS => hS.1) (by repeat constructor)) ⟨H.rw_ (by repeat constructor), H.rw_ (by repeat constructor)⟩ ?_
    (try go_frame)
    refine tkH (i := 1) rfl (.of rfl) (yields_val (v := (.int .i64 g)) rfl (fun _ => by go_simp)) ⟨H.rw_ (by repeat constructor), H.rw_ (by repeat constructor)⟩ ?_
    (try go_frame)
    refine tkH (i := 2) rfl (.of rfl) (yields_val (v := (.func (.func f) #[] caps)) rfl (fun _ => by go_simp)) ⟨H.rw_ (by repeat constructor), H.rw_ (by repeat constructor)⟩ ?_
    (try go_frame)
    refine tkH (i := 3) rfl (.of rfl) (yields_loads_R rfl rfl rfl (fun _ hS => hS.2) (by repeat constructor)) ⟨H.rw_ (by repeat constructor), H.rw_ (by repeat constructor)⟩ ?_
    (try go_frame)
    refine anyH_1 (i := 4) (by kernel_rfl) ?_
    refine wpOp_at rfl (.of rfl) rfl ?_
    refine wp_callv_H fn rfl rfl rfl hfn hfb rfl rfl (below_H H (hf x _ H.below (H.grd1 (by repeat constructor)) zx)) ?_
    clear H
    rintro _ w ⟨y, rfl, ⟨hy, RY⟩, H⟩
    have HY := Lib.hid hy
    have ZY : GBig y := size_big (hy.trans (by rw [HX.out])) hF
    refine ⟨⟨H.rw_ (by repeat constructor), H.rw_ (by repeat constructor)⟩, ?_⟩
    (try go_frame)
    refine anyH_1 (i := 5) (by kernel_rfl) ?_
    refine wpOp_at rfl (.of rfl) rfl ?_
    refine wp_call_H Tryz.f38 rfl rfl Tryz.func38 (by kernel_rfl) rfl rfl (made_H H (withGuest_c B g y _ (R.at_ H) Z RY ZY)) ?_
    clear H
    rintro _ w ⟨d, rfl, HD, H⟩
    refine ⟨⟨H.rw_ (by repeat constructor), H.rw_ (by repeat constructor)⟩, ?_⟩
    (try go_frame)
    refine anyH_1 (i := 6) (by kernel_rfl) ?_
    refine wpOp_at rfl (.of rfl) rfl ?_
    refine wp_store_H rfl H rfl rfl (by repeat constructor) ?_
    clear H
    intro w H
    refine ⟨⟨H.rw_ (by repeat constructor), H.rw_ (by repeat constructor)⟩, ?_⟩
    (try go_frame)
    refine anyH_1 (i := 7) (by kernel_rfl) ?_
    refine wpOp_at rfl (.of rfl) rfl ?_
    refine wp_assign_H rfl ?_
    refine ⟨⟨H.rw_ (by repeat constructor), H.rw_ (by repeat constructor)⟩, ?_⟩
    (try go_frame)
    refine wpAnyH_done (by kernel_rfl) ?_ _
    exact ⟨rfl, y, d, (by show _ = _; rw [HD.out, HY.out, HX.out]), H.pick (.cons (by repeat constructor) (.cons (by repeat constructor) .nil)), by first | (simp only [puts_cons, puts_nil, Act.put, List.setIfInBounds_toArray, List.set_cons_succ, List.set_cons_zero]; done) | (simp only [puts_cons, puts_nil, Act.put, List.setIfInBounds_toArray, List.set_cons_succ, List.set_cons_zero]; rfl)⟩
  clear H
  rintro u w ⟨y, d, HD, H, rfl⟩
  simp only [puts_cons, puts_nil, Act.put, List.setIfInBounds_toArray, List.set_cons_succ, List.set_cons_zero]
  go_wp2_with (first
    | go_skip
    | ((with_reducible refine at_box ?_); first | (refine wpList_box_H rfl rfl H rfl (by constructor) ?_; clear H; intro b w H))
    | ((with_reducible refine at_alloc ?_); first | (refine wpList_alloc_H rfl rfl H ?_; clear H; intro b w H))
    | ((with_reducible refine at_load ?_); first | (refine wpList_load_H rfl rfl H rfl (by repeat constructor) ?_) | (refine wpList_loads_H rfl rfl H rfl (by repeat constructor) ?_))
    | ((with_reducible refine at_store ?_); first | (refine wpList_store_H rfl rfl H rfl rfl (by repeat constructor) ?_; clear H; intro w H)))
  refine bodyPost_ret (results_H2 rfl H rfl (by repeat constructor)) rfl ⟨d, by rw [HO.out]; rfl, by unfold changedM; rw [HO.out]; exact HD.out, H.pick (.cons (by repeat constructor) .nil)⟩
end Go.Proofs.YtaafnenmdombiaaGreat
