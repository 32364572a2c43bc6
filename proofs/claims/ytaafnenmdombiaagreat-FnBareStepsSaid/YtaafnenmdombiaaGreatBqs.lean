/- Walk of the law FnBareSteps. No condition but that the argument lies in memory. -/
import Derived.Maps.RangeWalk
import Derived.Test.YtaafnenmdombiaaGreatDf
import Derived.Test.YtaafnenmdombiaaGreatSb
import Derived.Test.YtaafnenmdombiaaGreatTc
import Derived.Test.YtaafnenmdombiaaGreatBn
import Derived.Test.YtaafnenmdombiaaGreatBr
import Derived.Test.YtaafnenmdombiaaGreatSf
namespace Go.Proofs.YtaafnenmdombiaaGreat
set_option linter.unusedSimpArgs false
set_option linter.unusedVariables false
set_option linter.unusedSimpArgs false
set_option linter.unusedVariables false
open Go.RowKit
attribute [local go_sem ↓] Go.wp_at_zero Go.wp_at_succ
@[go_sem] theorem run_field_bare1 (v0 v1 v2 v3 : Value) (w : World) : (Instr.field 28 (.agg #[v0, v1, v2, v3]) 1).run Tryz.prog w = .ok v1 w := by kernel_rfl
theorem val_eqD {P : Program} {f : FuncId} {args : Array Value} {w0 w : World} {L : List En} {v v' : Value} (h : Calls P f args w (fun e w' => ∃ u, e = .returned u ∧ (u = v ∧ Hp w0 w' L))) (e : v = v') : Calls P f args w (fun e w' => ∃ u, e = .returned u ∧ (u = v' ∧ Hp w0 w' L)) := e ▸ h
theorem bbig_D {d : BV} {m : MB} (e : Hid (d.m = m)) (h : m.size ≤ 4194304) : BBig d := by have := e.out; unfold BBig; rw [this]; exact h
theorem wgD_size (m : MB) (g : Int) (x : MG) : (withGuestM m g x).size ≤ m.size + x.size := by
  unfold withGuestM; split
  · have h : ∀ (l : List MG) (k : Nat), ((l.set k x).map MG.size).sum ≤ (l.map MG.size).sum + x.size := by
      intro l
      induction l with
      | nil => intro k; simp
      | cons y l ih => intro k; cases k with
        | zero => simp; omega
        | succ k => have := ih k; simp only [List.set_cons_succ, List.map_cons, List.sum_cons]; omega
    have h1 := h m.guests g.toNat
    unfold MB.size gsSize
    simp only [List.length_set]
    omega
  · omega
section
variable {P : Program} {ops : Array Oper} {S : World → Prop} {o : Oper} {a : Act} {α : Type} {enc : α → List Value} {sz : Nat}
theorem yields_loads_rdd (hw : Region.wanted o (yielded ops a.tmps) = true) {ty : TypeId} {x : Operand} (ho : o.op = .load ty x) (s : Sl α) (hR : ∀ w, S w → Rd enc sz w s) {q : Nat} (hx : a.eval x = .pointer (some ⟨ablk s.A, q, none⟩)) {n : Nat} [hT : TyA P ty n] {k : Nat} (y : α) (hk : s.xs[k]? = some y) {j : Nat} (hq : q = aoff s.A + k * sz + j) {vs : List Value} (hv : GetsAt (enc y) j n vs) :
    YieldsIf P ops S o (.agg vs.toArray) a := by
  subst hq
  refine .inl ⟨hw, fun w hS => ?_⟩
  have hr : (Instr.loadAt ty (a.eval x)).run P w = .ok (.agg vs.toArray) w := by rw [hx]; exact run_loads_rd (hR w hS) hT hk hv
  unfold execOp
  simp only [ho, Sem.run_bind, Sem.run_pure, Result.andThen_ok, hr]
end
theorem guestsQ_len {B : BV} (Z : BBig B) : B.m.guests.length ≤ 4194304 := by have := Z.gs; simpa [BV.m, gsOf] using this
theorem seenQ_len {B : BV} (Z : BBig B) (g : Int) : (gAtM B.m g).seen.length ≤ 4194304 := by
  have h := gAtM_size B.m g
  have e : (gAtM B.m g).size = (gAtM B.m g).prog.length + (gAtM B.m g).written.length + (gAtM B.m g).live.length + (gAtM B.m g).seen.length := rfl
  unfold BBig at Z; omega
theorem stepQ_size (m : MB) (g : Int) (h : m.size ≤ 4194304) : (stepM m g).size ≤ 4194304 := by rcases stepM_size m g with h1 | h1 <;> omega
def bq0 : MB := bareNewM [[⟨1, 3⟩]]
theorem bq_facts : bq0.size ≤ 1000 ∧ stepOkM bq0 0 = true := by decide +kernel
set_option maxRecDepth 100000 in
set_option maxHeartbeats 20000000 in
theorem walk_fnBareSteps (s : Sl Int) (W0 : World) (ra : Rd u8cell 1 W0 s ∧ s.xs.length ≤ maxLen) : Calls Tryz.prog 6 #[.slice s.A s.xs.length s.c] W0 fun e w' => e = .returned (.bool true) ∧ Below W0.heap.size W0 w' := by
  obtain ⟨R0, _⟩ := ra
  have R := R0
  have H := Hp.start W0
  by_cases hbig : 1048576 < s.xs.length
  · have hb : decide (1048576 < s.xs.length) = true := decide_eq_true hbig
    have HB := Lib.hid hb; clear hb
    go_enter Tryz.func6, Tryz.ntmps6
    go_wp2_with (first
      | go_skip
      | ((with_reducible refine at_box ?_); first | (refine wpList_box_H rfl rfl H rfl (by constructor) ?_; clear H; intro bQ w H))
      | ((with_reducible refine at_alloc ?_); first | (refine wpList_alloc_H rfl rfl H ?_; clear H; intro b w H))
      | ((with_reducible refine at_load ?_); first | (refine wpList_load_H rfl rfl H rfl (by repeat constructor) ?_) | (refine wpList_loads_H rfl rfl H rfl (by repeat constructor) ?_))
      | ((with_reducible refine at_store ?_); first | (refine wpList_store_H rfl rfl H rfl rfl (by repeat constructor) ?_; clear H; intro w H)))
    go_at_call 7
    refine (big_c s _).mono ?_
    rintro e w ⟨he, K⟩
    rw [HB.out] at he
    subst he
    replace H := H.add_all K
    clear K
    go_wp2_with (first
      | go_skip
      | ((with_reducible refine at_box ?_); first | (refine wpList_box_H rfl rfl H rfl (by constructor) ?_; clear H; intro bQ w H))
      | ((with_reducible refine at_alloc ?_); first | (refine wpList_alloc_H rfl rfl H ?_; clear H; intro b w H))
      | ((with_reducible refine at_load ?_); first | (refine wpList_load_H rfl rfl H rfl (by repeat constructor) ?_) | (refine wpList_loads_H rfl rfl H rfl (by repeat constructor) ?_))
      | ((with_reducible refine at_store ?_); first | (refine wpList_store_H rfl rfl H rfl rfl (by repeat constructor) ?_; clear H; intro w H)))
    go_ret
    exact ⟨rfl, H.below⟩
  have hb : decide (1048576 < s.xs.length) = false := decide_eq_false hbig
  have HB := Lib.hid hb; clear hb
  have Z : s.xs.length ≤ 1048576 := by omega
  clear hbig
  go_enter Tryz.func6, Tryz.ntmps6
  go_wp2_with (first
    | go_skip
    | ((with_reducible refine at_box ?_); first | (refine wpList_box_H rfl rfl H rfl (by constructor) ?_; clear H; intro bQ w H))
    | ((with_reducible refine at_alloc ?_); first | (refine wpList_alloc_H rfl rfl H ?_; clear H; intro b w H))
    | ((with_reducible refine at_load ?_); first | (refine wpList_load_H rfl rfl H rfl (by repeat constructor) ?_) | (refine wpList_loads_H rfl rfl H rfl (by repeat constructor) ?_))
    | ((with_reducible refine at_store ?_); first | (refine wpList_store_H rfl rfl H rfl rfl (by repeat constructor) ?_; clear H; intro w H)))
  go_at_call 7
  refine (big_c s _).mono ?_
  rintro e w ⟨he, K⟩
  rw [HB.out] at he
  subst he
  replace H := H.add_all K
  clear K
  clear R
  have R : Rd u8cell 1 W0 s ∧ s.xs.length ≤ 1048576 := ⟨R0, Z⟩
  clear R0 Z
  go_wp2_with (first
    | go_skip
    | ((with_reducible refine at_box ?_); first | (refine wpList_box_H rfl rfl H rfl (by constructor) ?_; clear H; intro bQ w H))
    | ((with_reducible refine at_alloc ?_); first | (refine wpList_alloc_H rfl rfl H ?_; clear H; intro b w H))
    | ((with_reducible refine at_load ?_); first | (refine wpList_load_H rfl rfl H rfl (by repeat constructor) ?_) | (refine wpList_loads_H rfl rfl H rfl (by repeat constructor) ?_))
    | ((with_reducible refine at_store ?_); first | (refine wpList_store_H rfl rfl H rfl rfl (by repeat constructor) ?_; clear H; intro w H)))
  go_at_call 52
  refine (drawBareStep_c s _ ⟨R.1.at_ H, R.2⟩).mono ?_
  rintro e w ⟨xb, Exb, g, rfl, hb, hs, K⟩
  replace H := H.add_all K
  clear K
  have HBxb : Hid (BDr Exb xb) := Lib.hid hb
  have Zxb : BBig xb := hb.2
  have HSxb := Lib.hid hs
  clear hb hs
  go_wp2_with (first
    | go_skip
    | ((with_reducible refine at_box ?_); first | (refine wpList_box_H rfl rfl H rfl (by constructor) ?_; clear H; intro bQ w H))
    | ((with_reducible refine at_alloc ?_); first | ((with_reducible refine at_dst 3 ?_); refine wpList_alloc_H rfl rfl H ?_; clear H; intro b3 w H) | (refine wpList_alloc_H rfl rfl H ?_; clear H; intro bQ w H))
    | ((with_reducible refine at_load ?_); first | (refine wpList_load_H rfl rfl H rfl (by repeat constructor) ?_) | (refine wpList_loads_H rfl rfl H rfl (by repeat constructor) ?_))
    | ((with_reducible refine at_store ?_); first | (refine wpList_store_H rfl rfl H rfl rfl (by repeat constructor) ?_; clear H; intro w H)))
  go_at_call 24
  refine (bareStep_c xb g _ (HBxb.out.1 _ (H.get (e := Exb) (by repeat constructor))) Zxb).mono ?_
  rintro e w ⟨d1, rfl, hd1, K⟩
  have Hd1 := Lib.hid hd1; clear hd1
  replace H := H.add_all K
  clear K
  have Zd1 := bbig_D Hd1 (stepQ_size _ _ Zxb)
  go_wp2_with (first
    | go_skip
    | ((with_reducible refine at_box ?_); first | (refine wpList_box_H rfl rfl H rfl (by constructor) ?_; clear H; intro bQ w H))
    | ((with_reducible refine at_alloc ?_); first | ((with_reducible refine at_dst 5 ?_); refine wpList_alloc_H rfl rfl H ?_; clear H; intro b5 w H) | (refine wpList_alloc_H rfl rfl H ?_; clear H; intro bQ w H))
    | ((with_reducible refine at_load ?_); first | (refine wpList_load_H rfl rfl H rfl (by repeat constructor) ?_) | (refine wpList_loads_H rfl rfl H rfl (by repeat constructor) ?_))
    | ((with_reducible refine at_store ?_); first | (refine wpList_store_H rfl rfl H rfl rfl (by repeat constructor) ?_; clear H; intro w H)))
  go_at_call 22
  refine (specBareStep_c xb g _ (HBxb.out.1 _ (H.get (e := Exb) (by repeat constructor))) Zxb).mono ?_
  rintro e w ⟨w1, rfl, hw1, K⟩
  have Hw1 := Lib.hid hw1; clear hw1
  replace H := H.add_all K
  clear K
  go_wp2_with (first
    | go_skip
    | ((with_reducible refine at_box ?_); first | (refine wpList_box_H rfl rfl H rfl (by constructor) ?_; clear H; intro bQ w H))
    | ((with_reducible refine at_alloc ?_); first | ((with_reducible refine at_dst 7 ?_); refine wpList_alloc_H rfl rfl H ?_; clear H; intro b7 w H) | (refine wpList_alloc_H rfl rfl H ?_; clear H; intro bQ w H))
    | ((with_reducible refine at_load ?_); first | (refine wpList_load_H rfl rfl H rfl (by repeat constructor) ?_) | (refine wpList_loads_H rfl rfl H rfl (by repeat constructor) ?_))
    | ((with_reducible refine at_store ?_); first | (refine wpList_store_H rfl rfl H rfl rfl (by repeat constructor) ?_; clear H; intro w H)))
  go_at_call 53
  refine (drawBareSteps_c s _ ⟨R.1.at_ H, R.2⟩).mono ?_
  rintro e w ⟨xc, Exc, l, rfl, hb, K⟩
  replace H := H.add_all K
  clear K
  have HBxc : Hid (BDr Exc xc) := Lib.hid hb.1
  have Zxc : BBig xc := hb.1.2
  have Zl : l.xs.length ≤ 1048576 := by have := hb.2; omega
  clear hb
  go_wp2_with (first
    | go_skip
    | ((with_reducible refine at_box ?_); first | (refine wpList_box_H rfl rfl H rfl (by constructor) ?_; clear H; intro bQ w H))
    | ((with_reducible refine at_alloc ?_); first | ((with_reducible refine at_dst 9 ?_); refine wpList_alloc_H rfl rfl H ?_; clear H; intro b9 w H) | (refine wpList_alloc_H rfl rfl H ?_; clear H; intro bQ w H))
    | ((with_reducible refine at_load ?_); first | (refine wpList_load_H rfl rfl H rfl (by repeat constructor) ?_) | (refine wpList_loads_H rfl rfl H rfl (by repeat constructor) ?_))
    | ((with_reducible refine at_store ?_); first | (refine wpList_store_H rfl rfl H rfl rfl (by repeat constructor) ?_; clear H; intro w H)))
  go_at_call 54
  refine (bareSteps_c xc l _ (HBxc.out.1 _ (H.get (e := Exc) (by repeat constructor))) Zxc (H.rd (s := l) (by repeat constructor) int_len) Zl).mono ?_
  rintro e w ⟨d2, t2, rfl, hd2, ht2, K⟩
  have Hd2 := Lib.hid hd2; clear hd2
  have Ht2 := Lib.hid ht2; clear ht2
  replace H := H.add_all K
  clear K
  have Zd2 := stepsS_big Hd2 Zxc
  have Zt2 : t2.xs.length ≤ 4194304 := by rw [Ht2.out, toldM_len]; omega
  go_wp2_with (first
    | go_skip
    | ((with_reducible refine at_box ?_); first | (refine wpList_box_H rfl rfl H rfl (by constructor) ?_; clear H; intro bQ w H))
    | ((with_reducible refine at_alloc ?_); first | ((with_reducible refine at_dst 11 ?_); refine wpList_alloc_H rfl rfl H ?_; clear H; intro b11 w H) | (refine wpList_alloc_H rfl rfl H ?_; clear H; intro bQ w H))
    | ((with_reducible refine at_load ?_); first | (refine wpList_load_H rfl rfl H rfl (by repeat constructor) ?_) | (refine wpList_loads_H rfl rfl H rfl (by repeat constructor) ?_))
    | ((with_reducible refine at_store ?_); first | (refine wpList_store_H rfl rfl H rfl rfl (by repeat constructor) ?_; clear H; intro w H)))
  go_at_call 55
  refine (specBareSteps_c xc l _ (HBxc.out.1 _ (H.get (e := Exc) (by repeat constructor))) Zxc (H.rd (s := l) (by repeat constructor) int_len) Zl).mono ?_
  rintro e w ⟨w2, t3, rfl, hw2, ht3, K⟩
  have Hw2 := Lib.hid hw2; clear hw2
  have Ht3 := Lib.hid ht3; clear ht3
  replace H := H.add_all K
  clear K
  go_wp2_with (first
    | go_skip
    | ((with_reducible refine at_box ?_); first | (refine wpList_box_H rfl rfl H rfl (by constructor) ?_; clear H; intro bQ w H))
    | ((with_reducible refine at_alloc ?_); first | ((with_reducible refine at_dst 13 ?_); refine wpList_alloc_H rfl rfl H ?_; clear H; intro b13 w H) | (refine wpList_alloc_H rfl rfl H ?_; clear H; intro bQ w H))
    | ((with_reducible refine at_load ?_); first | (refine wpList_load_H rfl rfl H rfl (by repeat constructor) ?_) | (refine wpList_loads_H rfl rfl H rfl (by repeat constructor) ?_))
    | ((with_reducible refine at_store ?_); first | (refine wpList_store_H rfl rfl H rfl rfl (by repeat constructor) ?_; clear H; intro w H)))
  obtain ⟨ex, hex⟩ : ∃ ex, (gAtM xb.m g).exit = ex := ⟨_, rfl⟩
  have HEX := Lib.hid hex
  clear hex
  obtain ⟨ok, hok⟩ : ∃ ok, stepOkM xb.m g = ok := ⟨_, rfl⟩
  rw [hok]
  refine wp_cut (fun u a' w' => ∃ (r1 r2 s1 s2 : Sl Int), Hid True ∧ Hp W0 w' [.box b3 28 (barr xb).toList, .box b5 28 (barr d1).toList, .bare d1, Exb] ∧ a' = puts u [(58, (.bool ok)), (59, (.bool ok)), (60, (.bool false)), (61, (.bool false)), (62, d1.val), (63, w1.val), (64, (.bool true)), (65, (.bool false)), (66, (.bool false)), (67, (.bool false)), (68, d2.val), (69, w2.val), (70, (.bool true)), (71, (.bool false)), (72, (.bool false)), (73, (.bool false)), (74, (.slice t2.A t2.xs.length t2.c)), (75, (.slice t3.A t3.xs.length t3.c)), (76, (.bool true)), (77, (.bool false)), (78, (.bool false)), (79, (.bool false)), (80, xb.val), (81, (.slice r1.A r1.xs.length r1.c)), (82, xb.val), (83, (.slice r2.A r2.xs.length r2.c)), (84, (.bool true)), (85, (.bool false)), (86, (.bool false)), (87, (.bool false)), (88, xb.val), (89, (.int .i64 g)), (90, (.slice s1.A s1.xs.length s1.c)), (91, xb.val), (92, (.int .i64 g)), (93, (.slice s2.A s2.xs.length s2.c)), (94, (.bool true)), (95, (.bool false)), (96, (.bool false)), (97, (.bool false)), (98, xb.val), (99, (.int .i64 g)), (100, ex.val), (101, xb.val), (102, (.int .i64 g)), (103, ex.val), (104, (.bool false)), (105, (.bool false))]) ?_ ?_
  · refine wp_region_held (S := (fun w' => Rw w' b3 28 (barr xb) ∧ (Rw w' b5 28 (barr d1) ∧ (Rw w' b7 28 (barr w1) ∧ (Rw w' b11 28 (barr d2) ∧ (Rw w' b13 28 (barr w2))))))) (by kernel_rfl) ?_
    replace H := H.drew
    refine tkH (i := 0) rfl .here (yields_val (v := (.bool ok)) rfl (fun _ => by go_simp)) ⟨H.rw_ (by repeat constructor), H.rw_ (by repeat constructor), H.rw_ (by repeat constructor), H.rw_ (by repeat constructor), H.rw_ (by repeat constructor)⟩ ?_
    (try go_frame)
    refine tkH (i := 1) rfl (.of rfl) (yields_val (v := (.bool ok)) rfl (fun _ => by go_simp)) ⟨H.rw_ (by repeat constructor), H.rw_ (by repeat constructor), H.rw_ (by repeat constructor), H.rw_ (by repeat constructor), H.rw_ (by repeat constructor)⟩ ?_
    (try go_frame)
    refine tkH (i := 2) rfl (.of rfl) (yields_val (v := (.bool false)) rfl (fun _ => by (first | (go_simp; done) | (go_simp; rw [bne_self_eq_false]) | (rw [← bne_self_eq_false]; go_simp; done) | (go_simp; omega) | (go_simp; simpa using bne_self_eq_false)))) ⟨H.rw_ (by repeat constructor), H.rw_ (by repeat constructor), H.rw_ (by repeat constructor), H.rw_ (by repeat constructor), H.rw_ (by repeat constructor)⟩ ?_
    (try go_frame)
    refine tkH (i := 3) rfl (.of rfl) (yields_val (v := (.bool false)) rfl (fun _ => by go_simp)) ⟨H.rw_ (by repeat constructor), H.rw_ (by repeat constructor), H.rw_ (by repeat constructor), H.rw_ (by repeat constructor), H.rw_ (by repeat constructor)⟩ ?_
    (try go_frame)
    refine tkH (i := 4) rfl (.of rfl) (yields_loads_R rfl rfl rfl (fun _ hS => hS.2.1) (by repeat constructor)) ⟨H.rw_ (by repeat constructor), H.rw_ (by repeat constructor), H.rw_ (by repeat constructor), H.rw_ (by repeat constructor), H.rw_ (by repeat constructor)⟩ ?_
    (try go_frame)
    refine tkH (i := 5) rfl (.of rfl) (yields_loads_R rfl rfl rfl (fun _ hS => hS.2.2.1) (by repeat constructor)) ⟨H.rw_ (by repeat constructor), H.rw_ (by repeat constructor), H.rw_ (by repeat constructor), H.rw_ (by repeat constructor), H.rw_ (by repeat constructor)⟩ ?_
    (try go_frame)
    refine anyH_1 (i := 6) (by kernel_rfl) ?_
    refine wpOp_at rfl (.of rfl) rfl ?_
    refine wp_call_H Tryz.f20 rfl rfl Tryz.func20 (by kernel_rfl) rfl rfl (val_eqD (v' := .bool true) (val_H H (lawBare_c d1 w1 _ (H.brd (b := d1) (by repeat constructor)) (H.brd (b := w1) (by repeat constructor)) Zd1)) (by rw [Hd1.out, Hw1.out] <;> simp)) ?_
    clear H
    rintro _ w ⟨rfl, H⟩
    refine ⟨⟨H.rw_ (by repeat constructor), H.rw_ (by repeat constructor), H.rw_ (by repeat constructor), H.rw_ (by repeat constructor), H.rw_ (by repeat constructor)⟩, ?_⟩
    (try go_frame)
    refine tkH (i := 7) rfl (.of rfl) (yields_val (v := (.bool false)) rfl (fun _ => by go_simp)) ⟨H.rw_ (by repeat constructor), H.rw_ (by repeat constructor), H.rw_ (by repeat constructor), H.rw_ (by repeat constructor), H.rw_ (by repeat constructor)⟩ ?_
    (try go_frame)
    refine tkH (i := 8) rfl (.of rfl) (yields_val (v := (.bool false)) rfl (fun _ => by go_simp)) ⟨H.rw_ (by repeat constructor), H.rw_ (by repeat constructor), H.rw_ (by repeat constructor), H.rw_ (by repeat constructor), H.rw_ (by repeat constructor)⟩ ?_
    (try go_frame)
    refine tkH (i := 9) rfl (.of rfl) (yields_val (v := (.bool false)) rfl (fun _ => by go_simp)) ⟨H.rw_ (by repeat constructor), H.rw_ (by repeat constructor), H.rw_ (by repeat constructor), H.rw_ (by repeat constructor), H.rw_ (by repeat constructor)⟩ ?_
    (try go_frame)
    refine tkH (i := 10) rfl (.of rfl) (yields_loads_R rfl rfl rfl (fun _ hS => hS.2.2.2.1) (by repeat constructor)) ⟨H.rw_ (by repeat constructor), H.rw_ (by repeat constructor), H.rw_ (by repeat constructor), H.rw_ (by repeat constructor), H.rw_ (by repeat constructor)⟩ ?_
    (try go_frame)
    refine tkH (i := 11) rfl (.of rfl) (yields_loads_R rfl rfl rfl (fun _ hS => hS.2.2.2.2) (by repeat constructor)) ⟨H.rw_ (by repeat constructor), H.rw_ (by repeat constructor), H.rw_ (by repeat constructor), H.rw_ (by repeat constructor), H.rw_ (by repeat constructor)⟩ ?_
    (try go_frame)
    refine anyH_1 (i := 12) (by kernel_rfl) ?_
    refine wpOp_at rfl (.of rfl) rfl ?_
    refine wp_call_H Tryz.f20 rfl rfl Tryz.func20 (by kernel_rfl) rfl rfl (val_eqD (v' := .bool true) (val_H H (lawBare_c d2 w2 _ (H.brd (b := d2) (by repeat constructor)) (H.brd (b := w2) (by repeat constructor)) Zd2)) (by rw [Hd2.out, Hw2.out] <;> simp)) ?_
    clear H
    rintro _ w ⟨rfl, H⟩
    refine ⟨⟨H.rw_ (by repeat constructor), H.rw_ (by repeat constructor), H.rw_ (by repeat constructor), H.rw_ (by repeat constructor), H.rw_ (by repeat constructor)⟩, ?_⟩
    (try go_frame)
    refine tkH (i := 13) rfl (.of rfl) (yields_val (v := (.bool false)) rfl (fun _ => by go_simp)) ⟨H.rw_ (by repeat constructor), H.rw_ (by repeat constructor), H.rw_ (by repeat constructor), H.rw_ (by repeat constructor), H.rw_ (by repeat constructor)⟩ ?_
    (try go_frame)
    refine tkH (i := 14) rfl (.of rfl) (yields_val (v := (.bool false)) rfl (fun _ => by go_simp)) ⟨H.rw_ (by repeat constructor), H.rw_ (by repeat constructor), H.rw_ (by repeat constructor), H.rw_ (by repeat constructor), H.rw_ (by repeat constructor)⟩ ?_
    (try go_frame)
    refine tkH (i := 15) rfl (.of rfl) (yields_val (v := (.bool false)) rfl (fun _ => by go_simp)) ⟨H.rw_ (by repeat constructor), H.rw_ (by repeat constructor), H.rw_ (by repeat constructor), H.rw_ (by repeat constructor), H.rw_ (by repeat constructor)⟩ ?_
    (try go_frame)
    refine tkH (i := 16) rfl (.of rfl) (yields_val (v := (.slice t2.A t2.xs.length t2.c)) rfl (fun _ => by go_simp)) ⟨H.rw_ (by repeat constructor), H.rw_ (by repeat constructor), H.rw_ (by repeat constructor), H.rw_ (by repeat constructor), H.rw_ (by repeat constructor)⟩ ?_
    (try go_frame)
    refine tkH (i := 17) rfl (.of rfl) (yields_val (v := (.slice t3.A t3.xs.length t3.c)) rfl (fun _ => by go_simp)) ⟨H.rw_ (by repeat constructor), H.rw_ (by repeat constructor), H.rw_ (by repeat constructor), H.rw_ (by repeat constructor), H.rw_ (by repeat constructor)⟩ ?_
    (try go_frame)
    refine anyH_1 (i := 18) (by kernel_rfl) ?_
    refine wpOp_at rfl (.of rfl) rfl ?_
    refine wp_call_H Tryz.f56 rfl rfl Tryz.func56 (by kernel_rfl) rfl rfl (val_eqD (v' := .bool true) (val_H H (sameBools_c t2 t3 _ (H.rd (s := t2) (by repeat constructor) bool_len) (H.rd (s := t3) (by repeat constructor) bool_len) Zt2)) (by rw [Ht2.out, Ht3.out] <;> simp)) ?_
    clear H
    rintro _ w ⟨rfl, H⟩
    refine ⟨⟨H.rw_ (by repeat constructor), H.rw_ (by repeat constructor), H.rw_ (by repeat constructor), H.rw_ (by repeat constructor), H.rw_ (by repeat constructor)⟩, ?_⟩
    (try go_frame)
    refine tkH (i := 19) rfl (.of rfl) (yields_val (v := (.bool false)) rfl (fun _ => by go_simp)) ⟨H.rw_ (by repeat constructor), H.rw_ (by repeat constructor), H.rw_ (by repeat constructor), H.rw_ (by repeat constructor), H.rw_ (by repeat constructor)⟩ ?_
    (try go_frame)
    refine tkH (i := 20) rfl (.of rfl) (yields_val (v := (.bool false)) rfl (fun _ => by go_simp)) ⟨H.rw_ (by repeat constructor), H.rw_ (by repeat constructor), H.rw_ (by repeat constructor), H.rw_ (by repeat constructor), H.rw_ (by repeat constructor)⟩ ?_
    (try go_frame)
    refine tkH (i := 21) rfl (.of rfl) (yields_val (v := (.bool false)) rfl (fun _ => by go_simp)) ⟨H.rw_ (by repeat constructor), H.rw_ (by repeat constructor), H.rw_ (by repeat constructor), H.rw_ (by repeat constructor), H.rw_ (by repeat constructor)⟩ ?_
    (try go_frame)
    refine tkH (i := 22) rfl (.of rfl) (yields_loads_R rfl rfl rfl (fun _ hS => hS.1) (by repeat constructor)) ⟨H.rw_ (by repeat constructor), H.rw_ (by repeat constructor), H.rw_ (by repeat constructor), H.rw_ (by repeat constructor), H.rw_ (by repeat constructor)⟩ ?_
    (try go_frame)
    refine tkH (i := 24) rfl (.of rfl) (yields_loads_R rfl rfl rfl (fun _ hS => hS.1) (by repeat constructor)) ⟨H.rw_ (by repeat constructor), H.rw_ (by repeat constructor), H.rw_ (by repeat constructor), H.rw_ (by repeat constructor), H.rw_ (by repeat constructor)⟩ ?_
    (try go_frame)
    refine anyH_1 (i := 23) (by kernel_rfl) ?_
    refine wpOp_at rfl (.of rfl) rfl ?_
    refine wp_call_H Tryz.f58 rfl rfl Tryz.func58 (by kernel_rfl) rfl rfl (made_H (val := fun d : Sl Int => .slice d.A d.xs.length d.c) H (runnableB_c xb _ (HBxb.out.1 _ (H.get (e := Exb) (by repeat constructor))) Zxb)) ?_
    clear H
    rintro _ w ⟨r1, rfl, Hr1, H⟩
    refine ⟨⟨H.rw_ (by repeat constructor), H.rw_ (by repeat constructor), H.rw_ (by repeat constructor), H.rw_ (by repeat constructor), H.rw_ (by repeat constructor)⟩, ?_⟩
    (try go_frame)
    refine anyH_1 (i := 25) (by kernel_rfl) ?_
    refine wpOp_at rfl (.of rfl) rfl ?_
    refine wp_call_H Tryz.f59 rfl rfl Tryz.func59 (by kernel_rfl) rfl rfl (made_H (val := fun d : Sl Int => .slice d.A d.xs.length d.c) H (specRunnable_c xb _ (HBxb.out.1 _ (H.get (e := Exb) (by repeat constructor))) Zxb.gs)) ?_
    clear H
    rintro _ w ⟨r2, rfl, Hr2, H⟩
    refine ⟨⟨H.rw_ (by repeat constructor), H.rw_ (by repeat constructor), H.rw_ (by repeat constructor), H.rw_ (by repeat constructor), H.rw_ (by repeat constructor)⟩, ?_⟩
    (try go_frame)
    refine anyH_1 (i := 26) (by kernel_rfl) ?_
    refine wpOp_at rfl (.of rfl) rfl ?_
    refine wp_call_H Tryz.f57 rfl rfl Tryz.func57 (by kernel_rfl) rfl rfl (val_eqD (v' := .bool true) (val_H H ((lawInts_c r1 r2 _ (H.rd (s := r1) (by repeat constructor) int_len) (H.rd (s := r2) (by repeat constructor) int_len) (by rw [Hr1.out]; exact Nat.le_trans (idx_len _ _ _) (guestsQ_len Zxb))).mono fun _ _ ⟨h, b⟩ => ⟨h, Hp.of_below b⟩)) (by rw [Hr1.out, Hr2.out] <;> simp)) ?_
    clear H
    rintro _ w ⟨rfl, H⟩
    refine ⟨⟨H.rw_ (by repeat constructor), H.rw_ (by repeat constructor), H.rw_ (by repeat constructor), H.rw_ (by repeat constructor), H.rw_ (by repeat constructor)⟩, ?_⟩
    (try go_frame)
    refine tkH (i := 27) rfl (.of rfl) (yields_val (v := (.bool false)) rfl (fun _ => by go_simp)) ⟨H.rw_ (by repeat constructor), H.rw_ (by repeat constructor), H.rw_ (by repeat constructor), H.rw_ (by repeat constructor), H.rw_ (by repeat constructor)⟩ ?_
    (try go_frame)
    refine tkH (i := 28) rfl (.of rfl) (yields_val (v := (.bool false)) rfl (fun _ => by go_simp)) ⟨H.rw_ (by repeat constructor), H.rw_ (by repeat constructor), H.rw_ (by repeat constructor), H.rw_ (by repeat constructor), H.rw_ (by repeat constructor)⟩ ?_
    (try go_frame)
    refine tkH (i := 29) rfl (.of rfl) (yields_val (v := (.bool false)) rfl (fun _ => by go_simp)) ⟨H.rw_ (by repeat constructor), H.rw_ (by repeat constructor), H.rw_ (by repeat constructor), H.rw_ (by repeat constructor), H.rw_ (by repeat constructor)⟩ ?_
    (try go_frame)
    refine tkH (i := 30) rfl (.of rfl) (yields_loads_R rfl rfl rfl (fun _ hS => hS.1) (by repeat constructor)) ⟨H.rw_ (by repeat constructor), H.rw_ (by repeat constructor), H.rw_ (by repeat constructor), H.rw_ (by repeat constructor), H.rw_ (by repeat constructor)⟩ ?_
    (try go_frame)
    refine tkH (i := 31) rfl (.of rfl) (yields_val (v := (.int .i64 g)) rfl (fun _ => by go_simp)) ⟨H.rw_ (by repeat constructor), H.rw_ (by repeat constructor), H.rw_ (by repeat constructor), H.rw_ (by repeat constructor), H.rw_ (by repeat constructor)⟩ ?_
    (try go_frame)
    refine tkH (i := 33) rfl (.of rfl) (yields_loads_R rfl rfl rfl (fun _ hS => hS.1) (by repeat constructor)) ⟨H.rw_ (by repeat constructor), H.rw_ (by repeat constructor), H.rw_ (by repeat constructor), H.rw_ (by repeat constructor), H.rw_ (by repeat constructor)⟩ ?_
    (try go_frame)
    refine tkH (i := 34) rfl (.of rfl) (yields_val (v := (.int .i64 g)) rfl (fun _ => by go_simp)) ⟨H.rw_ (by repeat constructor), H.rw_ (by repeat constructor), H.rw_ (by repeat constructor), H.rw_ (by repeat constructor), H.rw_ (by repeat constructor)⟩ ?_
    (try go_frame)
    refine anyH_1 (i := 32) (by kernel_rfl) ?_
    refine wpOp_at rfl (.of rfl) rfl ?_
    refine wp_call_H Tryz.f60 rfl rfl Tryz.func60 (by kernel_rfl) rfl rfl (made_H (val := fun d : Sl Int => .slice d.A d.xs.length d.c) H (seenOf_c xb g _ (HBxb.out.1 _ (H.get (e := Exb) (by repeat constructor))) Zxb)) ?_
    clear H
    rintro _ w ⟨s1, rfl, Hs1, H⟩
    refine ⟨⟨H.rw_ (by repeat constructor), H.rw_ (by repeat constructor), H.rw_ (by repeat constructor), H.rw_ (by repeat constructor), H.rw_ (by repeat constructor)⟩, ?_⟩
    (try go_frame)
    refine anyH_1 (i := 35) (by kernel_rfl) ?_
    refine wpOp_at rfl (.of rfl) rfl ?_
    refine wp_call_H Tryz.f61 rfl rfl Tryz.func61 (by kernel_rfl) rfl rfl (made_H (val := fun d : Sl Int => .slice d.A d.xs.length d.c) H (specSeenOf_c xb g _ (HBxb.out.1 _ (H.get (e := Exb) (by repeat constructor))) Zxb)) ?_
    clear H
    rintro _ w ⟨s2, rfl, Hs2, H⟩
    refine ⟨⟨H.rw_ (by repeat constructor), H.rw_ (by repeat constructor), H.rw_ (by repeat constructor), H.rw_ (by repeat constructor), H.rw_ (by repeat constructor)⟩, ?_⟩
    (try go_frame)
    refine anyH_1 (i := 36) (by kernel_rfl) ?_
    refine wpOp_at rfl (.of rfl) rfl ?_
    refine wp_call_H Tryz.f57 rfl rfl Tryz.func57 (by kernel_rfl) rfl rfl (val_eqD (v' := .bool true) (val_H H ((lawInts_c s1 s2 _ (H.rd (s := s1) (by repeat constructor) int_len) (H.rd (s := s2) (by repeat constructor) int_len) (by rw [Hs1.out]; exact seenQ_len Zxb g)).mono fun _ _ ⟨h, b⟩ => ⟨h, Hp.of_below b⟩)) (by rw [Hs1.out, Hs2.out] <;> simp)) ?_
    clear H
    rintro _ w ⟨rfl, H⟩
    refine ⟨⟨H.rw_ (by repeat constructor), H.rw_ (by repeat constructor), H.rw_ (by repeat constructor), H.rw_ (by repeat constructor), H.rw_ (by repeat constructor)⟩, ?_⟩
    (try go_frame)
    refine tkH (i := 37) rfl (.of rfl) (yields_val (v := (.bool false)) rfl (fun _ => by go_simp)) ⟨H.rw_ (by repeat constructor), H.rw_ (by repeat constructor), H.rw_ (by repeat constructor), H.rw_ (by repeat constructor), H.rw_ (by repeat constructor)⟩ ?_
    (try go_frame)
    refine tkH (i := 38) rfl (.of rfl) (yields_val (v := (.bool false)) rfl (fun _ => by go_simp)) ⟨H.rw_ (by repeat constructor), H.rw_ (by repeat constructor), H.rw_ (by repeat constructor), H.rw_ (by repeat constructor), H.rw_ (by repeat constructor)⟩ ?_
    (try go_frame)
    refine tkH (i := 39) rfl (.of rfl) (yields_val (v := (.bool false)) rfl (fun _ => by go_simp)) ⟨H.rw_ (by repeat constructor), H.rw_ (by repeat constructor), H.rw_ (by repeat constructor), H.rw_ (by repeat constructor), H.rw_ (by repeat constructor)⟩ ?_
    (try go_frame)
    refine tkH (i := 40) rfl (.of rfl) (yields_loads_R rfl rfl rfl (fun _ hS => hS.1) (by repeat constructor)) ⟨H.rw_ (by repeat constructor), H.rw_ (by repeat constructor), H.rw_ (by repeat constructor), H.rw_ (by repeat constructor), H.rw_ (by repeat constructor)⟩ ?_
    (try go_frame)
    refine tkH (i := 41) rfl (.of rfl) (yields_val (v := (.int .i64 g)) rfl (fun _ => by go_simp)) ⟨H.rw_ (by repeat constructor), H.rw_ (by repeat constructor), H.rw_ (by repeat constructor), H.rw_ (by repeat constructor), H.rw_ (by repeat constructor)⟩ ?_
    (try go_frame)
    refine tkH (i := 43) rfl (.of rfl) (yields_loads_R rfl rfl rfl (fun _ hS => hS.1) (by repeat constructor)) ⟨H.rw_ (by repeat constructor), H.rw_ (by repeat constructor), H.rw_ (by repeat constructor), H.rw_ (by repeat constructor), H.rw_ (by repeat constructor)⟩ ?_
    (try go_frame)
    refine tkH (i := 44) rfl (.of rfl) (yields_val (v := (.int .i64 g)) rfl (fun _ => by go_simp)) ⟨H.rw_ (by repeat constructor), H.rw_ (by repeat constructor), H.rw_ (by repeat constructor), H.rw_ (by repeat constructor), H.rw_ (by repeat constructor)⟩ ?_
    (try go_frame)
    refine anyH_1 (i := 42) (by kernel_rfl) ?_
    refine wpOp_at rfl (.of rfl) rfl ?_
    refine wp_call_H Tryz.f62 rfl rfl Tryz.func62 (by kernel_rfl) rfl rfl (val_eqD (v' := ex.val) (val_H H (exitOf_c xb g _ (HBxb.out.1 _ (H.get (e := Exb) (by repeat constructor))) Zxb)) (by rw [HEX.out])) ?_
    clear H
    rintro _ w ⟨rfl, H⟩
    refine ⟨⟨H.rw_ (by repeat constructor), H.rw_ (by repeat constructor), H.rw_ (by repeat constructor), H.rw_ (by repeat constructor), H.rw_ (by repeat constructor)⟩, ?_⟩
    (try go_frame)
    refine anyH_1 (i := 45) (by kernel_rfl) ?_
    refine wpOp_at rfl (.of rfl) rfl ?_
    refine wp_call_H Tryz.f63 rfl rfl Tryz.func63 (by kernel_rfl) rfl rfl (val_eqD (v' := ex.val) (val_H H (specExitOf_c xb g _ (HBxb.out.1 _ (H.get (e := Exb) (by repeat constructor))) Zxb)) (by rw [HEX.out])) ?_
    clear H
    rintro _ w ⟨rfl, H⟩
    refine ⟨⟨H.rw_ (by repeat constructor), H.rw_ (by repeat constructor), H.rw_ (by repeat constructor), H.rw_ (by repeat constructor), H.rw_ (by repeat constructor)⟩, ?_⟩
    (try go_frame)
    refine tkH (i := 46) rfl (.of rfl) (yields_val (v := (.bool false)) rfl (fun _ => by (first | (go_simp; done) | (go_simp; rw [bne_self_eq_false]) | (rw [← bne_self_eq_false]; go_simp; done) | (go_simp; omega) | (go_simp; simpa using bne_self_eq_false)))) ⟨H.rw_ (by repeat constructor), H.rw_ (by repeat constructor), H.rw_ (by repeat constructor), H.rw_ (by repeat constructor), H.rw_ (by repeat constructor)⟩ ?_
    (try go_frame)
    refine tkH (i := 47) rfl (.of rfl) (yields_val (v := (.bool false)) rfl (fun _ => by go_simp)) ⟨H.rw_ (by repeat constructor), H.rw_ (by repeat constructor), H.rw_ (by repeat constructor), H.rw_ (by repeat constructor), H.rw_ (by repeat constructor)⟩ ?_
    (try go_frame)
    refine wpAnyH_done (by kernel_rfl) ?_ _
    exact ⟨rfl, r1, r2, s1, s2, Lib.hid trivial, H.pick (.cons (by repeat constructor) (.cons (by repeat constructor) (.cons (by repeat constructor) (.cons (by repeat constructor) .nil)))), by first | (simp only [puts_cons, puts_nil, Act.put, List.setIfInBounds_toArray, List.set_cons_succ, List.set_cons_zero]; done) | (simp only [puts_cons, puts_nil, Act.put, List.setIfInBounds_toArray, List.set_cons_succ, List.set_cons_zero]; rfl)⟩
  clear H
  rintro u w ⟨r1, r2, s1, s2, _, H, rfl⟩
  simp only [puts_cons, puts_nil, Act.put, List.setIfInBounds_toArray, List.set_cons_succ, List.set_cons_zero]
  obtain ⟨N0, hN0⟩ : ∃ m, m = bq0 := ⟨_, rfl⟩
  have hrf := bq_facts
  rw [← hN0] at hrf
  have S0 := Lib.hid hN0
  have Q0 : Hid (N0.size ≤ 4194304) := Lib.hid (by omega)
  have Q1 := Lib.hid hrf.2
  clear hN0 hrf
  go_wp2_with (first
    | go_skip
    | ((with_reducible refine at_box ?_); first | (refine wpList_box_H rfl rfl H rfl (by constructor) ?_; clear H; intro bQ w H))
    | ((with_reducible refine at_alloc ?_); first | (refine wpList_alloc_H rfl rfl H ?_; clear H; intro bQ w H))
    | ((with_reducible refine at_load ?_); first | (refine wpList_load_H rfl rfl H rfl (by repeat constructor) ?_) | (refine wpList_loads_H rfl rfl H rfl (by repeat constructor) ?_))
    | ((with_reducible refine at_store ?_); first | (refine wpList_store_H rfl rfl H rfl rfl (by repeat constructor) ?_; clear H; intro w H))
    | ((with_reducible refine at_slice ?_); first | ((with_reducible refine at_dst 108 ?_); refine wpList_one_H rfl rfl H (⟨1, 3⟩ : Ins) rfl CellsOf.agg rfl (by decide) ?_; clear H; intro bi w H) | ((with_reducible refine at_dst 109 ?_); refine wpList_one_H rfl rfl H (⟨some ⟨bi, 0, none⟩, 1, [⟨1, 3⟩]⟩ : Sl Ins) rfl CellsOf.slice rfl (by decide) ?_; clear H; intro bo w H)))
  go_at_call 23
  refine (specBareNew_c (⟨some ⟨bo, 0, none⟩, 1, [(⟨some ⟨bi, 0, none⟩, 1, [⟨1, 3⟩]⟩ : Sl Ins)]⟩ : Sl (Sl Ins)) _ (H.rd (s := (⟨some ⟨bo, 0, none⟩, 1, [(⟨some ⟨bi, 0, none⟩, 1, [⟨1, 3⟩]⟩ : Sl Ins)]⟩ : Sl (Sl Ins))) (by repeat constructor) h_len) (by intro x hx; rw [List.mem_singleton.1 hx]; exact H.rd (by repeat constructor) ins_len) (by intro x hx; rw [List.mem_singleton.1 hx]; simp) (by simp) (by simp)).mono ?_
  rintro e w ⟨n0, rfl, hn, K⟩
  have Hn0 : Hid (n0.m = N0) := Lib.hid (by rw [hn, S0.out]; rfl)
  clear hn
  replace H := H.add_all K
  clear K
  have Zn0 := bbig_D Hn0 Q0.out
  go_wp2_with (first
    | go_skip
    | ((with_reducible refine at_box ?_); first | (refine wpList_box_H rfl rfl H rfl (by constructor) ?_; clear H; intro bQ w H))
    | ((with_reducible refine at_alloc ?_); first | (refine wpList_alloc_H rfl rfl H ?_; clear H; intro bQ w H))
    | ((with_reducible refine at_load ?_); first | (refine wpList_load_H rfl rfl H rfl (by repeat constructor) ?_) | (refine wpList_loads_H rfl rfl H rfl (by repeat constructor) ?_))
    | ((with_reducible refine at_store ?_); first | (refine wpList_store_H rfl rfl H rfl rfl (by repeat constructor) ?_; clear H; intro w H)))
  go_at_call 24
  refine (bareStep_c n0 0 _ (H.brd (b := n0) (by repeat constructor)) Zn0).mono ?_
  rintro e w ⟨n1, he, hy, K⟩
  clear hy
  rw [Hn0.out, Q1.out] at he
  subst he
  replace H := H.add_all K
  clear K
  cases ok
  · have EX : Hid ((d1.m == xb.m) = true) := Lib.hid (by rw [Hd1.out, step_stays hok]; simp)
    clear hok
    go_wp2_with (first
      | go_skip
      | ((with_reducible refine at_box ?_); first | (refine wpList_box_H rfl rfl H rfl (by constructor) ?_; clear H; intro bQ w H))
      | ((with_reducible refine at_alloc ?_); first | ((with_reducible refine at_dst 15 ?_); refine wpList_alloc_H rfl rfl H ?_; clear H; intro b15 w H) | (refine wpList_alloc_H rfl rfl H ?_; clear H; intro bQ w H))
      | ((with_reducible refine at_load ?_); first | (refine wpList_load_H rfl rfl H rfl (by repeat constructor) ?_) | (refine wpList_loads_H rfl rfl H rfl (by repeat constructor) ?_))
      | ((with_reducible refine at_store ?_); first | (refine wpList_store_H rfl rfl H rfl rfl (by repeat constructor) ?_; clear H; intro w H))
      | (go_at_call 20; ((with_reducible refine at_arg2 d1.val ?_); refine (lawBare_c d1 xb _ (H.brd (b := d1) (by repeat constructor)) (HBxb.out.1 _ (H.get (e := Exb) (by repeat constructor))) Zd1).mono ?_; rintro e w ⟨he, K⟩; rw [EX.out] at he; subst he; replace H := H.add_all K; clear K)))
    go_ret
    exact ⟨rfl, H.below⟩
  · skip
    obtain ⟨k, y, rfl, hy, hl4, hgl, hother, hrows, hokd⟩ := steps_facts Hd1.out hok
    have hk := (List.getElem?_eq_some_iff.1 hy).1
    have hgz := Zxb.gs
    have HY := Lib.hid hy
    have HL4 := Lib.hid hl4
    have HGL := Lib.hid hgl
    have HO := Lib.hid hother
    have HRW := Lib.hid hrows
    have HOKD := Lib.hid hokd
    have MY : Hid (y ∈ xb.gs.xs) := Lib.hid (List.mem_of_getElem? hy)
    clear hy hl4 hgl hother hrows hokd hok
    go_wp2_with (first
      | go_skip
      | ((with_reducible refine at_box ?_); first | (refine wpList_box_H rfl rfl H rfl (by constructor) ?_; clear H; intro bQ w H))
      | ((with_reducible refine at_alloc ?_); first | ((with_reducible refine at_dst 15 ?_); refine wpList_alloc_H rfl rfl H ?_; clear H; intro b15 w H) | (refine wpList_alloc_H rfl rfl H ?_; clear H; intro bQ w H))
      | ((with_reducible refine at_load ?_); first | (refine wpList_load_H rfl rfl H rfl (by repeat constructor) ?_) | (refine wpList_loads_H rfl rfl H rfl (by repeat constructor) ?_))
      | ((with_reducible refine at_store ?_); first | (refine wpList_store_H rfl rfl H rfl rfl (by repeat constructor) ?_; clear H; intro w H)))
    go_loopw [17] (fun iv wr => ∃ i : Nat, i ≤ xb.gs.xs.length ∧ iv = .int .i64 i ∧ Hp W0 wr [.bare d1, Exb, .box b3 28 (barr xb).toList, .box b5 28 (barr d1).toList]) (fun iv _ => xb.gs.xs.length - (intOf iv).toNat)
    case atStart => exact ⟨0, by omega, rfl, H.pick (.cons (by repeat constructor) (.cons (by repeat constructor) (.cons (by repeat constructor) (.cons (by repeat constructor) .nil))))⟩
    case round =>
      clear H
      obtain ⟨i, hi0, rfl, H⟩ := hrel
      by_cases hi : i < xb.gs.xs.length
      · by_cases hik : i = k
        · subst hik
          have HB2 : Hid (((i : Int) != (i : Int)) = false) := Lib.hid (by simp)
          go_wp2_with (first
            | go_skip
            | ((with_reducible refine at_box ?_); first | (refine wpList_box_H rfl rfl H rfl (by constructor) ?_; clear H; intro bQ w H))
            | ((with_reducible refine at_alloc ?_); first | (refine wpList_alloc_H rfl rfl H ?_; clear H; intro bQ w H))
            | ((with_reducible refine at_load ?_); first | (refine wpList_load_H rfl rfl H rfl (by repeat constructor) ?_) | (refine wpList_loads_H rfl rfl H rfl (by repeat constructor) ?_))
            | ((with_reducible refine at_store ?_); first | (refine wpList_store_H rfl rfl H rfl rfl (by repeat constructor) ?_; clear H; intro w H)))
          refine wp_cut (fun u a' w' => ∃ (_ : Unit), Hid True ∧ Hp W0 w' [.bare d1, Exb, .box b3 28 (barr xb).toList, .box b5 28 (barr d1).toList] ∧ a' = puts u [(129, (.int .i64 (i : Int))), (130, (.int .i64 (i : Int))), (131, (.bool false)), (132, (.bool false)), (133, undef), (134, undef), (135, undef), (136, undef), (137, undef), (138, undef), (139, undef), (140, undef), (141, undef), (142, undef), (143, undef), (144, undef), (145, (.bool false))]) ?_ ?_
          · refine wp_region_held (S := (fun w' => Rw w' b5 28 (barr d1) ∧ (Rw w' b3 28 (barr xb) ∧ ((Rd GV.cells 15 w' d1.gs ∧ Rd GV.cells 15 w' xb.gs))))) (by kernel_rfl) ?_
            replace H := H.drew
            refine tkH (i := 0) rfl .here (yields_val (v := (.int .i64 (i : Int))) rfl (fun _ => by go_simp)) ⟨H.rw_ (by repeat constructor), H.rw_ (by repeat constructor), (H.brd (b := d1) (by repeat constructor)).gs, (HBxb.out.1 _ (H.get (e := Exb) (by repeat constructor))).gs⟩ ?_
            (try go_frame)
            refine tkH (i := 1) rfl (.of rfl) (yields_val (v := (.int .i64 (i : Int))) rfl (fun _ => by go_simp)) ⟨H.rw_ (by repeat constructor), H.rw_ (by repeat constructor), (H.brd (b := d1) (by repeat constructor)).gs, (HBxb.out.1 _ (H.get (e := Exb) (by repeat constructor))).gs⟩ ?_
            (try go_frame)
            refine tkH (i := 2) rfl (.of rfl) (yields_val (v := (.bool false)) rfl (fun _ => by (first | (go_simp; done) | (go_simp; rw [HB2.out]) | (rw [← HB2.out]; go_simp; done) | (go_simp; omega) | (go_simp; simpa using HB2.out)))) ⟨H.rw_ (by repeat constructor), H.rw_ (by repeat constructor), (H.brd (b := d1) (by repeat constructor)).gs, (HBxb.out.1 _ (H.get (e := Exb) (by repeat constructor))).gs⟩ ?_
            (try go_frame)
            refine tkH (i := 3) rfl (.of rfl) (yields_val (v := (.bool false)) rfl (fun _ => by go_simp)) ⟨H.rw_ (by repeat constructor), H.rw_ (by repeat constructor), (H.brd (b := d1) (by repeat constructor)).gs, (HBxb.out.1 _ (H.get (e := Exb) (by repeat constructor))).gs⟩ ?_
            (try go_frame)
            refine tkH (i := 4) rfl (.of rfl) (.inr ⟨rfl, rfl⟩) ⟨H.rw_ (by repeat constructor), H.rw_ (by repeat constructor), (H.brd (b := d1) (by repeat constructor)).gs, (HBxb.out.1 _ (H.get (e := Exb) (by repeat constructor))).gs⟩ ?_
            (try go_frame)
            refine tkH (i := 5) rfl (.of rfl) (.inr ⟨rfl, rfl⟩) ⟨H.rw_ (by repeat constructor), H.rw_ (by repeat constructor), (H.brd (b := d1) (by repeat constructor)).gs, (HBxb.out.1 _ (H.get (e := Exb) (by repeat constructor))).gs⟩ ?_
            (try go_frame)
            refine tkH (i := 6) rfl (.of rfl) (.inr ⟨rfl, rfl⟩) ⟨H.rw_ (by repeat constructor), H.rw_ (by repeat constructor), (H.brd (b := d1) (by repeat constructor)).gs, (HBxb.out.1 _ (H.get (e := Exb) (by repeat constructor))).gs⟩ ?_
            (try go_frame)
            refine tkH (i := 7) rfl (.of rfl) (.inr ⟨rfl, rfl⟩) ⟨H.rw_ (by repeat constructor), H.rw_ (by repeat constructor), (H.brd (b := d1) (by repeat constructor)).gs, (HBxb.out.1 _ (H.get (e := Exb) (by repeat constructor))).gs⟩ ?_
            (try go_frame)
            refine tkH (i := 8) rfl (.of rfl) (.inr ⟨rfl, rfl⟩) ⟨H.rw_ (by repeat constructor), H.rw_ (by repeat constructor), (H.brd (b := d1) (by repeat constructor)).gs, (HBxb.out.1 _ (H.get (e := Exb) (by repeat constructor))).gs⟩ ?_
            (try go_frame)
            refine tkH (i := 9) rfl (.of rfl) (.inr ⟨rfl, rfl⟩) ⟨H.rw_ (by repeat constructor), H.rw_ (by repeat constructor), (H.brd (b := d1) (by repeat constructor)).gs, (HBxb.out.1 _ (H.get (e := Exb) (by repeat constructor))).gs⟩ ?_
            (try go_frame)
            refine tkH (i := 10) rfl (.of rfl) (.inr ⟨rfl, rfl⟩) ⟨H.rw_ (by repeat constructor), H.rw_ (by repeat constructor), (H.brd (b := d1) (by repeat constructor)).gs, (HBxb.out.1 _ (H.get (e := Exb) (by repeat constructor))).gs⟩ ?_
            (try go_frame)
            refine tkH (i := 11) rfl (.of rfl) (.inr ⟨rfl, rfl⟩) ⟨H.rw_ (by repeat constructor), H.rw_ (by repeat constructor), (H.brd (b := d1) (by repeat constructor)).gs, (HBxb.out.1 _ (H.get (e := Exb) (by repeat constructor))).gs⟩ ?_
            (try go_frame)
            refine tkH (i := 12) rfl (.of rfl) (.inr ⟨rfl, rfl⟩) ⟨H.rw_ (by repeat constructor), H.rw_ (by repeat constructor), (H.brd (b := d1) (by repeat constructor)).gs, (HBxb.out.1 _ (H.get (e := Exb) (by repeat constructor))).gs⟩ ?_
            (try go_frame)
            refine tkH (i := 13) rfl (.of rfl) (.inr ⟨rfl, rfl⟩) ⟨H.rw_ (by repeat constructor), H.rw_ (by repeat constructor), (H.brd (b := d1) (by repeat constructor)).gs, (HBxb.out.1 _ (H.get (e := Exb) (by repeat constructor))).gs⟩ ?_
            (try go_frame)
            refine tkH (i := 14) rfl (.of rfl) (.inr ⟨rfl, rfl⟩) ⟨H.rw_ (by repeat constructor), H.rw_ (by repeat constructor), (H.brd (b := d1) (by repeat constructor)).gs, (HBxb.out.1 _ (H.get (e := Exb) (by repeat constructor))).gs⟩ ?_
            (try go_frame)
            refine tkH (i := 15) rfl (.of rfl) (.inr ⟨rfl, rfl⟩) ⟨H.rw_ (by repeat constructor), H.rw_ (by repeat constructor), (H.brd (b := d1) (by repeat constructor)).gs, (HBxb.out.1 _ (H.get (e := Exb) (by repeat constructor))).gs⟩ ?_
            (try go_frame)
            refine tkH (i := 16) rfl (.of rfl) (yields_val (v := (.bool false)) rfl (fun _ => by go_simp)) ⟨H.rw_ (by repeat constructor), H.rw_ (by repeat constructor), (H.brd (b := d1) (by repeat constructor)).gs, (HBxb.out.1 _ (H.get (e := Exb) (by repeat constructor))).gs⟩ ?_
            (try go_frame)
            refine wpAnyH_done (by kernel_rfl) ?_ _
            exact ⟨rfl, (), Lib.hid trivial, H.pick (.cons (by repeat constructor) (.cons (by repeat constructor) (.cons (by repeat constructor) (.cons (by repeat constructor) .nil)))), by first | (simp only [puts_cons, puts_nil, Act.put, List.setIfInBounds_toArray, List.set_cons_succ, List.set_cons_zero]; done) | (simp only [puts_cons, puts_nil, Act.put, List.setIfInBounds_toArray, List.set_cons_succ, List.set_cons_zero]; rfl)⟩
          clear H
          rintro u w ⟨_, _, H, rfl⟩
          simp only [puts_cons, puts_nil, Act.put, List.setIfInBounds_toArray, List.set_cons_succ, List.set_cons_zero]
          go_wp2_with (first
            | go_skip
            | ((with_reducible refine at_box ?_); first | (refine wpList_box_H rfl rfl H rfl (by constructor) ?_; clear H; intro bQ w H))
            | ((with_reducible refine at_alloc ?_); first | (refine wpList_alloc_H rfl rfl H ?_; clear H; intro bQ w H))
            | ((with_reducible refine at_load ?_); first | (refine wpList_load_H rfl rfl H rfl (by repeat constructor) ?_) | (refine wpList_loads_H rfl rfl H rfl (by repeat constructor) ?_))
            | ((with_reducible refine at_store ?_); first | (refine wpList_store_H rfl rfl H rfl rfl (by repeat constructor) ?_; clear H; intro w H)))
          go_roundw
          case rel => exact ⟨i + 1, by omega, by go_num, H.pick (.cons (by repeat constructor) (.cons (by repeat constructor) (.cons (by repeat constructor) (.cons (by repeat constructor) .nil))))⟩
          case measure => simp [intOf]; omega
        · have HB2 : Hid (((i : Int) != (k : Int)) = true) := Lib.hid (by simp; omega)
          obtain ⟨y1, y0, a1, a0, em⟩ := HO.out i hi hik
          have hi1 := (List.getElem?_eq_some_iff.1 a1).1
          have K1 := Lib.hid a1
          have K0 := Lib.hid a0
          have EM := Lib.hid em
          have M1 : Hid (y1 ∈ d1.gs.xs) := Lib.hid (List.mem_of_getElem? a1)
          have M0 : Hid (y0 ∈ xb.gs.xs) := Lib.hid (List.mem_of_getElem? a0)
          have ZG1 := Zd1.gsi y1 M1.out
          clear a1 a0 em
          go_wp2_with (first
            | go_skip
            | ((with_reducible refine at_box ?_); first | (refine wpList_box_H rfl rfl H rfl (by constructor) ?_; clear H; intro bQ w H))
            | ((with_reducible refine at_alloc ?_); first | (refine wpList_alloc_H rfl rfl H ?_; clear H; intro bQ w H))
            | ((with_reducible refine at_load ?_); first | (refine wpList_load_H rfl rfl H rfl (by repeat constructor) ?_) | (refine wpList_loads_H rfl rfl H rfl (by repeat constructor) ?_))
            | ((with_reducible refine at_store ?_); first | (refine wpList_store_H rfl rfl H rfl rfl (by repeat constructor) ?_; clear H; intro w H)))
          refine wp_cut (fun u a' w' => ∃ (_ : Unit), Hid True ∧ Hp W0 w' [.bare d1, Exb, .box b3 28 (barr xb).toList, .box b5 28 (barr d1).toList] ∧ a' = puts u [(129, (.int .i64 (i : Int))), (130, (.int .i64 (k : Int))), (131, (.bool true)), (132, (.bool true)), (133, (.pointer (some ⟨b5, 1, none⟩))), (134, (.slice d1.gs.A d1.gs.xs.length d1.gs.c)), (135, (.int .i64 (i : Int))), (136, (.pointer (some ⟨ablk d1.gs.A, aoff d1.gs.A + i * 15, none⟩))), (137, y1.val), (138, (.pointer (some ⟨b3, 1, none⟩))), (139, (.slice xb.gs.A xb.gs.xs.length xb.gs.c)), (140, (.int .i64 (i : Int))), (141, (.pointer (some ⟨ablk xb.gs.A, aoff xb.gs.A + i * 15, none⟩))), (142, y0.val), (143, (.bool true)), (144, (.bool false)), (145, (.bool false))]) ?_ ?_
          · refine wp_region_held (S := (fun w' => Rw w' b5 28 (barr d1) ∧ (Rw w' b3 28 (barr xb) ∧ ((Rd GV.cells 15 w' d1.gs ∧ Rd GV.cells 15 w' xb.gs))))) (by kernel_rfl) ?_
            replace H := H.drew
            refine tkH (i := 0) rfl .here (yields_val (v := (.int .i64 (i : Int))) rfl (fun _ => by go_simp)) ⟨H.rw_ (by repeat constructor), H.rw_ (by repeat constructor), (H.brd (b := d1) (by repeat constructor)).gs, (HBxb.out.1 _ (H.get (e := Exb) (by repeat constructor))).gs⟩ ?_
            (try go_frame)
            refine tkH (i := 1) rfl (.of rfl) (yields_val (v := (.int .i64 (k : Int))) rfl (fun _ => by go_simp)) ⟨H.rw_ (by repeat constructor), H.rw_ (by repeat constructor), (H.brd (b := d1) (by repeat constructor)).gs, (HBxb.out.1 _ (H.get (e := Exb) (by repeat constructor))).gs⟩ ?_
            (try go_frame)
            refine tkH (i := 2) rfl (.of rfl) (yields_val (v := (.bool true)) rfl (fun _ => by (first | (go_simp; done) | (go_simp; rw [HB2.out]) | (rw [← HB2.out]; go_simp; done) | (go_simp; omega) | (go_simp; simpa using HB2.out)))) ⟨H.rw_ (by repeat constructor), H.rw_ (by repeat constructor), (H.brd (b := d1) (by repeat constructor)).gs, (HBxb.out.1 _ (H.get (e := Exb) (by repeat constructor))).gs⟩ ?_
            (try go_frame)
            refine tkH (i := 3) rfl (.of rfl) (yields_val (v := (.bool true)) rfl (fun _ => by go_simp)) ⟨H.rw_ (by repeat constructor), H.rw_ (by repeat constructor), (H.brd (b := d1) (by repeat constructor)).gs, (HBxb.out.1 _ (H.get (e := Exb) (by repeat constructor))).gs⟩ ?_
            (try go_frame)
            refine tkH (i := 4) rfl (.of rfl) (yields_val (v := (.pointer (some ⟨b5, 1, none⟩))) rfl (fun _ => by go_simp)) ⟨H.rw_ (by repeat constructor), H.rw_ (by repeat constructor), (H.brd (b := d1) (by repeat constructor)).gs, (HBxb.out.1 _ (H.get (e := Exb) (by repeat constructor))).gs⟩ ?_
            (try go_frame)
            refine tkH (i := 5) rfl (.of rfl) (yields_load1_R rfl rfl rfl (fun _ hS => hS.1) rfl) ⟨H.rw_ (by repeat constructor), H.rw_ (by repeat constructor), (H.brd (b := d1) (by repeat constructor)).gs, (HBxb.out.1 _ (H.get (e := Exb) (by repeat constructor))).gs⟩ ?_
            (try go_frame)
            refine tkH (i := 6) rfl (.of rfl) (yields_val (v := (.int .i64 (i : Int))) rfl (fun _ => by go_simp)) ⟨H.rw_ (by repeat constructor), H.rw_ (by repeat constructor), (H.brd (b := d1) (by repeat constructor)).gs, (HBxb.out.1 _ (H.get (e := Exb) (by repeat constructor))).gs⟩ ?_
            (try go_frame)
            refine tkH (i := 7) rfl (.of rfl) (yields_index_n rfl rfl (k := i) d1.gs (fun _ hS => hS.2.2.1) rfl rfl rfl hi1) ⟨H.rw_ (by repeat constructor), H.rw_ (by repeat constructor), (H.brd (b := d1) (by repeat constructor)).gs, (HBxb.out.1 _ (H.get (e := Exb) (by repeat constructor))).gs⟩ ?_
            (try go_frame)
            refine tkH (i := 8) rfl (.of rfl) (yields_loads_rdd rfl rfl d1.gs (fun _ hS => hS.2.2.1) rfl y1 K1.out (by first | exact rfl | exact (Nat.add_zero _).symm) (by repeat constructor)) ⟨H.rw_ (by repeat constructor), H.rw_ (by repeat constructor), (H.brd (b := d1) (by repeat constructor)).gs, (HBxb.out.1 _ (H.get (e := Exb) (by repeat constructor))).gs⟩ ?_
            (try go_frame)
            refine tkH (i := 9) rfl (.of rfl) (yields_val (v := (.pointer (some ⟨b3, 1, none⟩))) rfl (fun _ => by go_simp)) ⟨H.rw_ (by repeat constructor), H.rw_ (by repeat constructor), (H.brd (b := d1) (by repeat constructor)).gs, (HBxb.out.1 _ (H.get (e := Exb) (by repeat constructor))).gs⟩ ?_
            (try go_frame)
            refine tkH (i := 10) rfl (.of rfl) (yields_load1_R rfl rfl rfl (fun _ hS => hS.2.1) rfl) ⟨H.rw_ (by repeat constructor), H.rw_ (by repeat constructor), (H.brd (b := d1) (by repeat constructor)).gs, (HBxb.out.1 _ (H.get (e := Exb) (by repeat constructor))).gs⟩ ?_
            (try go_frame)
            refine tkH (i := 11) rfl (.of rfl) (yields_val (v := (.int .i64 (i : Int))) rfl (fun _ => by go_simp)) ⟨H.rw_ (by repeat constructor), H.rw_ (by repeat constructor), (H.brd (b := d1) (by repeat constructor)).gs, (HBxb.out.1 _ (H.get (e := Exb) (by repeat constructor))).gs⟩ ?_
            (try go_frame)
            refine tkH (i := 12) rfl (.of rfl) (yields_index_n rfl rfl (k := i) xb.gs (fun _ hS => hS.2.2.2) rfl rfl rfl hi) ⟨H.rw_ (by repeat constructor), H.rw_ (by repeat constructor), (H.brd (b := d1) (by repeat constructor)).gs, (HBxb.out.1 _ (H.get (e := Exb) (by repeat constructor))).gs⟩ ?_
            (try go_frame)
            refine tkH (i := 13) rfl (.of rfl) (yields_loads_rdd rfl rfl xb.gs (fun _ hS => hS.2.2.2) rfl y0 K0.out (by first | exact rfl | exact (Nat.add_zero _).symm) (by repeat constructor)) ⟨H.rw_ (by repeat constructor), H.rw_ (by repeat constructor), (H.brd (b := d1) (by repeat constructor)).gs, (HBxb.out.1 _ (H.get (e := Exb) (by repeat constructor))).gs⟩ ?_
            (try go_frame)
            refine anyH_1 (i := 14) (by kernel_rfl) ?_
            refine wpOp_at rfl (.of rfl) rfl ?_
            refine wp_call_H Tryz.f46 rfl rfl Tryz.func46 (by kernel_rfl) rfl rfl (val_eqD (v' := .bool true) (val_H H (lawGuest_c y1 y0 _ ((H.brd (b := d1) (by repeat constructor)).gsi y1 M1.out) ((HBxb.out.1 _ (H.get (e := Exb) (by repeat constructor))).gsi y0 M0.out) ZG1)) (by rw [EM.out] <;> simp)) ?_
            clear H
            rintro _ w ⟨rfl, H⟩
            refine ⟨⟨H.rw_ (by repeat constructor), H.rw_ (by repeat constructor), (H.brd (b := d1) (by repeat constructor)).gs, (HBxb.out.1 _ (H.get (e := Exb) (by repeat constructor))).gs⟩, ?_⟩
            (try go_frame)
            refine tkH (i := 15) rfl (.of rfl) (yields_val (v := (.bool false)) rfl (fun _ => by go_simp)) ⟨H.rw_ (by repeat constructor), H.rw_ (by repeat constructor), (H.brd (b := d1) (by repeat constructor)).gs, (HBxb.out.1 _ (H.get (e := Exb) (by repeat constructor))).gs⟩ ?_
            (try go_frame)
            refine tkH (i := 16) rfl (.of rfl) (yields_val (v := (.bool false)) rfl (fun _ => by go_simp)) ⟨H.rw_ (by repeat constructor), H.rw_ (by repeat constructor), (H.brd (b := d1) (by repeat constructor)).gs, (HBxb.out.1 _ (H.get (e := Exb) (by repeat constructor))).gs⟩ ?_
            (try go_frame)
            refine wpAnyH_done (by kernel_rfl) ?_ _
            exact ⟨rfl, (), Lib.hid trivial, H.pick (.cons (by repeat constructor) (.cons (by repeat constructor) (.cons (by repeat constructor) (.cons (by repeat constructor) .nil)))), by first | (simp only [puts_cons, puts_nil, Act.put, List.setIfInBounds_toArray, List.set_cons_succ, List.set_cons_zero]; done) | (simp only [puts_cons, puts_nil, Act.put, List.setIfInBounds_toArray, List.set_cons_succ, List.set_cons_zero]; rfl)⟩
          clear H
          rintro u w ⟨_, _, H, rfl⟩
          simp only [puts_cons, puts_nil, Act.put, List.setIfInBounds_toArray, List.set_cons_succ, List.set_cons_zero]
          go_wp2_with (first
            | go_skip
            | ((with_reducible refine at_box ?_); first | (refine wpList_box_H rfl rfl H rfl (by constructor) ?_; clear H; intro bQ w H))
            | ((with_reducible refine at_alloc ?_); first | (refine wpList_alloc_H rfl rfl H ?_; clear H; intro bQ w H))
            | ((with_reducible refine at_load ?_); first | (refine wpList_load_H rfl rfl H rfl (by repeat constructor) ?_) | (refine wpList_loads_H rfl rfl H rfl (by repeat constructor) ?_))
            | ((with_reducible refine at_store ?_); first | (refine wpList_store_H rfl rfl H rfl rfl (by repeat constructor) ?_; clear H; intro w H)))
          go_roundw
          case rel => exact ⟨i + 1, by omega, by go_num, H.pick (.cons (by repeat constructor) (.cons (by repeat constructor) (.cons (by repeat constructor) (.cons (by repeat constructor) .nil))))⟩
          case measure => simp [intOf]; omega
      · have hie : i = xb.gs.xs.length := by omega
        subst hie
        clear hi hi0
        go_wp2_with (first
          | go_skip
          | ((with_reducible refine at_box ?_); first | (refine wpList_box_H rfl rfl H rfl (by constructor) ?_; clear H; intro bQ w H))
          | ((with_reducible refine at_alloc ?_); first | (refine wpList_alloc_H rfl rfl H ?_; clear H; intro bQ w H))
          | ((with_reducible refine at_load ?_); first | (refine wpList_load_H rfl rfl H rfl (by repeat constructor) ?_) | (refine wpList_loads_H rfl rfl H rfl (by repeat constructor) ?_))
          | ((with_reducible refine at_store ?_); first | (refine wpList_store_H rfl rfl H rfl rfl (by repeat constructor) ?_; clear H; intro w H)))
        go_loopw [18] (fun pv wr => ∃ p : Nat, p ≤ 8 ∧ pv = .int .i64 p ∧ Hp W0 wr [.bare d1, Exb, .box b3 28 (barr xb).toList, .box b5 28 (barr d1).toList]) (fun pv _ => 8 - (intOf pv).toNat)
        case atStart => exact ⟨0, by omega, rfl, H.pick (.cons (by repeat constructor) (.cons (by repeat constructor) (.cons (by repeat constructor) (.cons (by repeat constructor) .nil))))⟩
        case round =>
          clear H
          obtain ⟨p, hp0, rfl, H⟩ := hrel
          by_cases hp : p < 8
          · obtain ⟨r1, r0, c1, c0, hrr⟩ := HRW.out p hp
            have hp1 := (List.getElem?_eq_some_iff.1 c1).1
            have hp2 := (List.getElem?_eq_some_iff.1 c0).1
            have C1 := Lib.hid c1
            have C0 := Lib.hid c0
            have HRR := Lib.hid hrr
            have MR1 : Hid (r1 ∈ d1.mem.xs) := Lib.hid (List.mem_of_getElem? c1)
            have MR0 : Hid (r0 ∈ xb.mem.xs) := Lib.hid (List.mem_of_getElem? c0)
            have ZR1 : r1.xs.length ≤ 4194304 := Zd1.memi r1 MR1.out
            clear c1 c0 hrr
            go_wp2_with (first
              | go_skip
              | ((with_reducible refine at_box ?_); first | (refine wpList_box_H rfl rfl H rfl (by constructor) ?_; clear H; intro bQ w H))
              | ((with_reducible refine at_alloc ?_); first | (refine wpList_alloc_H rfl rfl H ?_; clear H; intro bQ w H))
              | ((with_reducible refine at_load ?_); first | (refine wpList_load_H rfl rfl H rfl (by repeat constructor) ?_) | (refine wpList_loads_H rfl rfl H rfl (by repeat constructor) ?_))
              | ((with_reducible refine at_store ?_); first | (refine wpList_store_H rfl rfl H rfl rfl (by repeat constructor) ?_; clear H; intro w H)))
            go_loopw [19, 20] (fun mv iv wr => ∃ i : Nat, i ≤ 4 ∧ iv = .int .i64 i ∧ mv = .bool (mayM (p : Int) (y.live.xs.take i)) ∧ Hp W0 wr [.bare d1, Exb, .box b3 28 (barr xb).toList, .box b5 28 (barr d1).toList]) (fun _ iv _ => 4 - (intOf iv).toNat)
            case atStart => exact ⟨0, by omega, rfl, rfl, H.pick (.cons (by repeat constructor) (.cons (by repeat constructor) (.cons (by repeat constructor) (.cons (by repeat constructor) .nil))))⟩
            case round =>
              clear H
              obtain ⟨i, hi0, rfl, rfl, H⟩ := hrel
              by_cases hi : i < 4
              · have hil : i < y.live.xs.length := by rw [HL4.out]; exact hi
                obtain ⟨z, hz⟩ : ∃ z, y.live.xs[i]? = some z := ⟨_, List.getElem?_eq_getElem hil⟩
                have HZ := Lib.hid hz
                have hsn := may_snoc (p := (p : Int)) hz
                clear hz
                cases e0 : mayM (p : Int) (y.live.xs.take i) <;> cases e1 : (z.page == (p : Int)) <;> cases e2 : enoughM z.rights 2
                all_goals
                  rw [e0, e1, e2] at hsn
                  have HSN := Lib.hid hsn
                  clear hsn
                  have e3 := e1
                  try simp only [beq_iff_eq, beq_eq_false_iff_ne] at e3
                  go_wp2_with (first
                    | go_skip
                    | ((with_reducible refine at_box ?_); first | (refine wpList_box_H rfl rfl H rfl (by constructor) ?_; clear H; intro bQ w H))
                    | ((with_reducible refine at_alloc ?_); first | ((with_reducible refine at_dst 21 ?_); refine wpList_alloc_H rfl rfl H ?_; clear H; intro bS w H) | (refine wpList_alloc_H rfl rfl H ?_; clear H; intro bQ w H))
                    | ((with_reducible refine at_load ?_); first | ((with_reducible refine at_dst 159 ?_); refine wpList_load_at rfl rfl xb.gs (HBxb.out.1 _ (H.get (e := Exb) (by repeat constructor))).gs rfl y HY.out (j := 4) (by first | exact rfl | exact (Nat.add_zero _).symm) rfl ?_) | ((with_reducible refine at_dst 162 ?_); refine wpList_loads_rd rfl rfl y.live ((HBxb.out.1 _ (H.get (e := Exb) (by repeat constructor))).gsi y MY.out).live rfl z HZ.out (by repeat constructor) ?_) | (refine wpList_load_H rfl rfl H rfl (by repeat constructor) ?_) | (refine wpList_loads_H rfl rfl H rfl (by repeat constructor) ?_))
                    | ((with_reducible refine at_store ?_); first | (refine wpList_store_H rfl rfl H rfl rfl (by repeat constructor) ?_; clear H; intro w H))
                    | ((with_reducible refine at_index ?_); first | ((with_reducible refine at_dst 157 ?_); refine wpList_index_n rfl rfl (k := k) xb.gs (HBxb.out.1 _ (H.get (e := Exb) (by repeat constructor))).gs rfl rfl rfl hk ?_) | ((with_reducible refine at_dst 161 ?_); refine wpList_index_n rfl rfl (k := i) y.live ((HBxb.out.1 _ (H.get (e := Exb) (by repeat constructor))).gsi y MY.out).live rfl rfl rfl hil ?_))
                    | (go_at_call 64; refine (specEnough_c z.rights 2 _).mono ?_; rintro e w ⟨he, K⟩; rw [e2] at he; subst he; replace H := H.add_all K; clear K))
                  all_goals
                    go_roundw
                    case rel => exact ⟨i + 1, by omega, by go_num, by rw [HSN.out]; rfl, H.pick (.cons (by repeat constructor) (.cons (by repeat constructor) (.cons (by repeat constructor) (.cons (by repeat constructor) .nil))))⟩
                    case measure => simp [intOf]; omega
              · have hie : i = 4 := by omega
                subst hie
                have ht : y.live.xs.take 4 = y.live.xs := List.take_of_length_le (by rw [HL4.out]; exact Nat.le_refl _)
                rw [ht]
                clear ht hi hi0
                obtain ⟨mb, hmb⟩ : ∃ mb, mayM (p : Int) y.live.xs = mb := ⟨_, rfl⟩
                rw [hmb]
                go_wp2_with (first
                  | go_skip
                  | ((with_reducible refine at_box ?_); first | (refine wpList_box_H rfl rfl H rfl (by constructor) ?_; clear H; intro bQ w H))
                  | ((with_reducible refine at_alloc ?_); first | (refine wpList_alloc_H rfl rfl H ?_; clear H; intro bQ w H))
                  | ((with_reducible refine at_load ?_); first | (refine wpList_load_H rfl rfl H rfl (by repeat constructor) ?_) | (refine wpList_loads_H rfl rfl H rfl (by repeat constructor) ?_))
                  | ((with_reducible refine at_store ?_); first | (refine wpList_store_H rfl rfl H rfl rfl (by repeat constructor) ?_; clear H; intro w H)))
                refine wp_cut (fun u a' w' => ∃ (v175 : Value) (v176 : Value) (v177 : Value) (v178 : Value) (v179 : Value) (v180 : Value) (v181 : Value) (v182 : Value) (v183 : Value) (v184 : Value) (v185 : Value) (v186 : Value) (v187 : Value) (v188 : Value) (v189 : Value), Hid True ∧ Hp W0 w' [.bare d1, Exb, .box b3 28 (barr xb).toList, .box b5 28 (barr d1).toList] ∧ a' = puts u [(175, v175), (176, v176), (177, v177), (178, v178), (179, v179), (180, v180), (181, v181), (182, v182), (183, v183), (184, v184), (185, v185), (186, v186), (187, v187), (188, v188), (189, v189), (190, ((.bool false)))]) ?_ ?_
                · cases mb
                  · skip

                    refine wp_region_held (S := (fun w' => Rw w' b5 28 (barr d1) ∧ (Rw w' b3 28 (barr xb) ∧ ((Rd hcells 1 w' d1.mem ∧ Rd hcells 1 w' xb.mem))))) (by kernel_rfl) ?_
                    replace H := H.drew
                    refine tkH (i := 0) rfl .here (yields_val (v := (.bool false)) rfl (fun _ => by go_simp)) ⟨H.rw_ (by repeat constructor), H.rw_ (by repeat constructor), (H.brd (b := d1) (by repeat constructor)).mem, (HBxb.out.1 _ (H.get (e := Exb) (by repeat constructor))).mem⟩ ?_
                    (try go_frame)
                    refine tkH (i := 1) rfl (.of rfl) (yields_val (v := (.bool true)) rfl (fun _ => by go_simp)) ⟨H.rw_ (by repeat constructor), H.rw_ (by repeat constructor), (H.brd (b := d1) (by repeat constructor)).mem, (HBxb.out.1 _ (H.get (e := Exb) (by repeat constructor))).mem⟩ ?_
                    (try go_frame)
                    refine tkH (i := 2) rfl (.of rfl) (yields_val (v := (.bool true)) rfl (fun _ => by go_simp)) ⟨H.rw_ (by repeat constructor), H.rw_ (by repeat constructor), (H.brd (b := d1) (by repeat constructor)).mem, (HBxb.out.1 _ (H.get (e := Exb) (by repeat constructor))).mem⟩ ?_
                    (try go_frame)
                    refine tkH (i := 3) rfl (.of rfl) (yields_val (v := (.pointer (some ⟨b5, 0, none⟩))) rfl (fun _ => by go_simp)) ⟨H.rw_ (by repeat constructor), H.rw_ (by repeat constructor), (H.brd (b := d1) (by repeat constructor)).mem, (HBxb.out.1 _ (H.get (e := Exb) (by repeat constructor))).mem⟩ ?_
                    (try go_frame)
                    refine tkH (i := 4) rfl (.of rfl) (yields_load1_R rfl rfl rfl (fun _ hS => hS.1) rfl) ⟨H.rw_ (by repeat constructor), H.rw_ (by repeat constructor), (H.brd (b := d1) (by repeat constructor)).mem, (HBxb.out.1 _ (H.get (e := Exb) (by repeat constructor))).mem⟩ ?_
                    (try go_frame)
                    refine tkH (i := 5) rfl (.of rfl) (yields_val (v := (.int .i64 (p : Int))) rfl (fun _ => by go_simp)) ⟨H.rw_ (by repeat constructor), H.rw_ (by repeat constructor), (H.brd (b := d1) (by repeat constructor)).mem, (HBxb.out.1 _ (H.get (e := Exb) (by repeat constructor))).mem⟩ ?_
                    (try go_frame)
                    refine tkH (i := 6) rfl (.of rfl) (yields_index_n rfl rfl (k := p) d1.mem (fun _ hS => hS.2.2.1) rfl rfl rfl hp1) ⟨H.rw_ (by repeat constructor), H.rw_ (by repeat constructor), (H.brd (b := d1) (by repeat constructor)).mem, (HBxb.out.1 _ (H.get (e := Exb) (by repeat constructor))).mem⟩ ?_
                    (try go_frame)
                    refine tkH (i := 7) rfl (.of rfl) (yields_load_rd rfl rfl d1.mem (fun _ hS => hS.2.2.1) rfl r1 C1.out (by first | exact rfl | exact (Nat.add_zero _).symm) rfl) ⟨H.rw_ (by repeat constructor), H.rw_ (by repeat constructor), (H.brd (b := d1) (by repeat constructor)).mem, (HBxb.out.1 _ (H.get (e := Exb) (by repeat constructor))).mem⟩ ?_
                    (try go_frame)
                    refine tkH (i := 8) rfl (.of rfl) (yields_val (v := (.pointer (some ⟨b3, 0, none⟩))) rfl (fun _ => by go_simp)) ⟨H.rw_ (by repeat constructor), H.rw_ (by repeat constructor), (H.brd (b := d1) (by repeat constructor)).mem, (HBxb.out.1 _ (H.get (e := Exb) (by repeat constructor))).mem⟩ ?_
                    (try go_frame)
                    refine tkH (i := 9) rfl (.of rfl) (yields_load1_R rfl rfl rfl (fun _ hS => hS.2.1) rfl) ⟨H.rw_ (by repeat constructor), H.rw_ (by repeat constructor), (H.brd (b := d1) (by repeat constructor)).mem, (HBxb.out.1 _ (H.get (e := Exb) (by repeat constructor))).mem⟩ ?_
                    (try go_frame)
                    refine tkH (i := 10) rfl (.of rfl) (yields_val (v := (.int .i64 (p : Int))) rfl (fun _ => by go_simp)) ⟨H.rw_ (by repeat constructor), H.rw_ (by repeat constructor), (H.brd (b := d1) (by repeat constructor)).mem, (HBxb.out.1 _ (H.get (e := Exb) (by repeat constructor))).mem⟩ ?_
                    (try go_frame)
                    refine tkH (i := 11) rfl (.of rfl) (yields_index_n rfl rfl (k := p) xb.mem (fun _ hS => hS.2.2.2) rfl rfl rfl hp2) ⟨H.rw_ (by repeat constructor), H.rw_ (by repeat constructor), (H.brd (b := d1) (by repeat constructor)).mem, (HBxb.out.1 _ (H.get (e := Exb) (by repeat constructor))).mem⟩ ?_
                    (try go_frame)
                    refine tkH (i := 12) rfl (.of rfl) (yields_load_rd rfl rfl xb.mem (fun _ hS => hS.2.2.2) rfl r0 C0.out (by first | exact rfl | exact (Nat.add_zero _).symm) rfl) ⟨H.rw_ (by repeat constructor), H.rw_ (by repeat constructor), (H.brd (b := d1) (by repeat constructor)).mem, (HBxb.out.1 _ (H.get (e := Exb) (by repeat constructor))).mem⟩ ?_
                    (try go_frame)
                    refine anyH_1 (i := 13) (by kernel_rfl) ?_
                    refine wpOp_at rfl (.of rfl) rfl ?_
                    refine wp_call_H Tryz.f57 rfl rfl Tryz.func57 (by kernel_rfl) rfl rfl (val_eqD (v' := .bool true) (val_H H ((lawInts_c r1 r0 _ ((H.brd (b := d1) (by repeat constructor)).memi r1 MR1.out) ((HBxb.out.1 _ (H.get (e := Exb) (by repeat constructor))).memi r0 MR0.out) ZR1).mono fun _ _ ⟨h, b⟩ => ⟨h, Hp.of_below b⟩)) (by rw [HRR.out hmb] <;> simp)) ?_
                    clear H
                    rintro _ w ⟨rfl, H⟩
                    refine ⟨⟨H.rw_ (by repeat constructor), H.rw_ (by repeat constructor), (H.brd (b := d1) (by repeat constructor)).mem, (HBxb.out.1 _ (H.get (e := Exb) (by repeat constructor))).mem⟩, ?_⟩
                    (try go_frame)
                    refine tkH (i := 14) rfl (.of rfl) (yields_val (v := (.bool false)) rfl (fun _ => by go_simp)) ⟨H.rw_ (by repeat constructor), H.rw_ (by repeat constructor), (H.brd (b := d1) (by repeat constructor)).mem, (HBxb.out.1 _ (H.get (e := Exb) (by repeat constructor))).mem⟩ ?_
                    (try go_frame)
                    refine tkH (i := 15) rfl (.of rfl) (yields_val (v := (.bool false)) rfl (fun _ => by go_simp)) ⟨H.rw_ (by repeat constructor), H.rw_ (by repeat constructor), (H.brd (b := d1) (by repeat constructor)).mem, (HBxb.out.1 _ (H.get (e := Exb) (by repeat constructor))).mem⟩ ?_
                    (try go_frame)
                    refine wpAnyH_done (by kernel_rfl) ?_ _
                    exact ⟨rfl, ((.bool false)), ((.bool true)), ((.bool true)), ((.pointer (some ⟨b5, 0, none⟩))), ((.slice d1.mem.A d1.mem.xs.length d1.mem.c)), ((.int .i64 (p : Int))), ((.pointer (some ⟨ablk d1.mem.A, aoff d1.mem.A + p * 1, none⟩))), ((.slice r1.A r1.xs.length r1.c)), ((.pointer (some ⟨b3, 0, none⟩))), ((.slice xb.mem.A xb.mem.xs.length xb.mem.c)), ((.int .i64 (p : Int))), ((.pointer (some ⟨ablk xb.mem.A, aoff xb.mem.A + p * 1, none⟩))), ((.slice r0.A r0.xs.length r0.c)), ((.bool true)), ((.bool false)), Lib.hid trivial, H.pick (.cons (by repeat constructor) (.cons (by repeat constructor) (.cons (by repeat constructor) (.cons (by repeat constructor) .nil)))), by first | (simp only [puts_cons, puts_nil, Act.put, List.setIfInBounds_toArray, List.set_cons_succ, List.set_cons_zero]; done) | (simp only [puts_cons, puts_nil, Act.put, List.setIfInBounds_toArray, List.set_cons_succ, List.set_cons_zero]; rfl)⟩
                  · skip

                    refine wp_region_held (S := (fun w' => Rw w' b5 28 (barr d1) ∧ (Rw w' b3 28 (barr xb) ∧ ((Rd hcells 1 w' d1.mem ∧ Rd hcells 1 w' xb.mem))))) (by kernel_rfl) ?_
                    replace H := H.drew
                    refine tkH (i := 0) rfl .here (yields_val (v := (.bool true)) rfl (fun _ => by go_simp)) ⟨H.rw_ (by repeat constructor), H.rw_ (by repeat constructor), (H.brd (b := d1) (by repeat constructor)).mem, (HBxb.out.1 _ (H.get (e := Exb) (by repeat constructor))).mem⟩ ?_
                    (try go_frame)
                    refine tkH (i := 1) rfl (.of rfl) (yields_val (v := (.bool false)) rfl (fun _ => by go_simp)) ⟨H.rw_ (by repeat constructor), H.rw_ (by repeat constructor), (H.brd (b := d1) (by repeat constructor)).mem, (HBxb.out.1 _ (H.get (e := Exb) (by repeat constructor))).mem⟩ ?_
                    (try go_frame)
                    refine tkH (i := 2) rfl (.of rfl) (yields_val (v := (.bool false)) rfl (fun _ => by go_simp)) ⟨H.rw_ (by repeat constructor), H.rw_ (by repeat constructor), (H.brd (b := d1) (by repeat constructor)).mem, (HBxb.out.1 _ (H.get (e := Exb) (by repeat constructor))).mem⟩ ?_
                    (try go_frame)
                    refine tkH (i := 3) rfl (.of rfl) (.inr ⟨rfl, rfl⟩) ⟨H.rw_ (by repeat constructor), H.rw_ (by repeat constructor), (H.brd (b := d1) (by repeat constructor)).mem, (HBxb.out.1 _ (H.get (e := Exb) (by repeat constructor))).mem⟩ ?_
                    (try go_frame)
                    refine tkH (i := 4) rfl (.of rfl) (.inr ⟨rfl, rfl⟩) ⟨H.rw_ (by repeat constructor), H.rw_ (by repeat constructor), (H.brd (b := d1) (by repeat constructor)).mem, (HBxb.out.1 _ (H.get (e := Exb) (by repeat constructor))).mem⟩ ?_
                    (try go_frame)
                    refine tkH (i := 5) rfl (.of rfl) (.inr ⟨rfl, rfl⟩) ⟨H.rw_ (by repeat constructor), H.rw_ (by repeat constructor), (H.brd (b := d1) (by repeat constructor)).mem, (HBxb.out.1 _ (H.get (e := Exb) (by repeat constructor))).mem⟩ ?_
                    (try go_frame)
                    refine tkH (i := 6) rfl (.of rfl) (.inr ⟨rfl, rfl⟩) ⟨H.rw_ (by repeat constructor), H.rw_ (by repeat constructor), (H.brd (b := d1) (by repeat constructor)).mem, (HBxb.out.1 _ (H.get (e := Exb) (by repeat constructor))).mem⟩ ?_
                    (try go_frame)
                    refine tkH (i := 7) rfl (.of rfl) (.inr ⟨rfl, rfl⟩) ⟨H.rw_ (by repeat constructor), H.rw_ (by repeat constructor), (H.brd (b := d1) (by repeat constructor)).mem, (HBxb.out.1 _ (H.get (e := Exb) (by repeat constructor))).mem⟩ ?_
                    (try go_frame)
                    refine tkH (i := 8) rfl (.of rfl) (.inr ⟨rfl, rfl⟩) ⟨H.rw_ (by repeat constructor), H.rw_ (by repeat constructor), (H.brd (b := d1) (by repeat constructor)).mem, (HBxb.out.1 _ (H.get (e := Exb) (by repeat constructor))).mem⟩ ?_
                    (try go_frame)
                    refine tkH (i := 9) rfl (.of rfl) (.inr ⟨rfl, rfl⟩) ⟨H.rw_ (by repeat constructor), H.rw_ (by repeat constructor), (H.brd (b := d1) (by repeat constructor)).mem, (HBxb.out.1 _ (H.get (e := Exb) (by repeat constructor))).mem⟩ ?_
                    (try go_frame)
                    refine tkH (i := 10) rfl (.of rfl) (.inr ⟨rfl, rfl⟩) ⟨H.rw_ (by repeat constructor), H.rw_ (by repeat constructor), (H.brd (b := d1) (by repeat constructor)).mem, (HBxb.out.1 _ (H.get (e := Exb) (by repeat constructor))).mem⟩ ?_
                    (try go_frame)
                    refine tkH (i := 11) rfl (.of rfl) (.inr ⟨rfl, rfl⟩) ⟨H.rw_ (by repeat constructor), H.rw_ (by repeat constructor), (H.brd (b := d1) (by repeat constructor)).mem, (HBxb.out.1 _ (H.get (e := Exb) (by repeat constructor))).mem⟩ ?_
                    (try go_frame)
                    refine tkH (i := 12) rfl (.of rfl) (.inr ⟨rfl, rfl⟩) ⟨H.rw_ (by repeat constructor), H.rw_ (by repeat constructor), (H.brd (b := d1) (by repeat constructor)).mem, (HBxb.out.1 _ (H.get (e := Exb) (by repeat constructor))).mem⟩ ?_
                    (try go_frame)
                    refine tkH (i := 13) rfl (.of rfl) (.inr ⟨rfl, rfl⟩) ⟨H.rw_ (by repeat constructor), H.rw_ (by repeat constructor), (H.brd (b := d1) (by repeat constructor)).mem, (HBxb.out.1 _ (H.get (e := Exb) (by repeat constructor))).mem⟩ ?_
                    (try go_frame)
                    refine tkH (i := 14) rfl (.of rfl) (.inr ⟨rfl, rfl⟩) ⟨H.rw_ (by repeat constructor), H.rw_ (by repeat constructor), (H.brd (b := d1) (by repeat constructor)).mem, (HBxb.out.1 _ (H.get (e := Exb) (by repeat constructor))).mem⟩ ?_
                    (try go_frame)
                    refine tkH (i := 15) rfl (.of rfl) (yields_val (v := (.bool false)) rfl (fun _ => by go_simp)) ⟨H.rw_ (by repeat constructor), H.rw_ (by repeat constructor), (H.brd (b := d1) (by repeat constructor)).mem, (HBxb.out.1 _ (H.get (e := Exb) (by repeat constructor))).mem⟩ ?_
                    (try go_frame)
                    refine wpAnyH_done (by kernel_rfl) ?_ _
                    exact ⟨rfl, ((.bool true)), ((.bool false)), ((.bool false)), (undef), (undef), (undef), (undef), (undef), (undef), (undef), (undef), (undef), (undef), (undef), (undef), Lib.hid trivial, H.pick (.cons (by repeat constructor) (.cons (by repeat constructor) (.cons (by repeat constructor) (.cons (by repeat constructor) .nil)))), by first | (simp only [puts_cons, puts_nil, Act.put, List.setIfInBounds_toArray, List.set_cons_succ, List.set_cons_zero]; done) | (simp only [puts_cons, puts_nil, Act.put, List.setIfInBounds_toArray, List.set_cons_succ, List.set_cons_zero]; rfl)⟩
                clear H
                rintro u w ⟨v175, v176, v177, v178, v179, v180, v181, v182, v183, v184, v185, v186, v187, v188, v189, _, H, rfl⟩
                simp only [puts_cons, puts_nil, Act.put, List.setIfInBounds_toArray, List.set_cons_succ, List.set_cons_zero]
                go_wp2_with (first
                  | go_skip
                  | ((with_reducible refine at_box ?_); first | (refine wpList_box_H rfl rfl H rfl (by constructor) ?_; clear H; intro bQ w H))
                  | ((with_reducible refine at_alloc ?_); first | (refine wpList_alloc_H rfl rfl H ?_; clear H; intro bQ w H))
                  | ((with_reducible refine at_load ?_); first | (refine wpList_load_H rfl rfl H rfl (by repeat constructor) ?_) | (refine wpList_loads_H rfl rfl H rfl (by repeat constructor) ?_))
                  | ((with_reducible refine at_store ?_); first | (refine wpList_store_H rfl rfl H rfl rfl (by repeat constructor) ?_; clear H; intro w H)))
                go_roundw
                case rel => exact ⟨p + 1, by omega, by go_num, H.pick (.cons (by repeat constructor) (.cons (by repeat constructor) (.cons (by repeat constructor) (.cons (by repeat constructor) .nil))))⟩
                case measure => simp [intOf]; omega
          · have hpe : p = 8 := by omega
            subst hpe
            clear hp hp0
            go_wp2_with (first
              | go_skip
              | ((with_reducible refine at_box ?_); first | (refine wpList_box_H rfl rfl H rfl (by constructor) ?_; clear H; intro bQ w H))
              | ((with_reducible refine at_alloc ?_); first | (refine wpList_alloc_H rfl rfl H ?_; clear H; intro bQ w H))
              | ((with_reducible refine at_load ?_); first | (refine wpList_load_H rfl rfl H rfl (by repeat constructor) ?_) | (refine wpList_loads_H rfl rfl H rfl (by repeat constructor) ?_))
              | ((with_reducible refine at_store ?_); first | (refine wpList_store_H rfl rfl H rfl rfl (by repeat constructor) ?_; clear H; intro w H))
              | (go_at_call 51; refine (specBareOk_c d1 _ (H.brd (b := d1) (by repeat constructor)) Zd1).mono ?_; rintro e w ⟨he, K⟩; rw [HOKD.out] at he; subst he; replace H := H.add_all K; clear K))
            go_ret
            exact ⟨rfl, H.below⟩
end Go.Proofs.YtaafnenmdombiaaGreat
