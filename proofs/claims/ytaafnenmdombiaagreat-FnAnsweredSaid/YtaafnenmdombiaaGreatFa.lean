/- Walk of the law FnAnswered. No condition but that the argument lies in memory. -/
import Derived.Maps.RangeWalk
import Derived.Test.YtaafnenmdombiaaGreatDf
import Derived.Test.YtaafnenmdombiaaGreatSb
import Derived.Test.YtaafnenmdombiaaGreatBzd
import Derived.Test.YtaafnenmdombiaaGreatTc
import Derived.Test.YtaafnenmdombiaaGreatBn
namespace Go.Proofs.YtaafnenmdombiaaGreat
set_option linter.unusedSimpArgs false
set_option linter.unusedVariables false
open Go.RowKit
attribute [local go_sem ↓] Go.wp_at_zero Go.wp_at_succ
@[go_sem] theorem run_field_bare1 (v0 v1 v2 v3 : Value) (w : World) : (Instr.field 28 (.agg #[v0, v1, v2, v3]) 1).run Tryz.prog w = .ok v1 w := by kernel_rfl
theorem val_eqD {P : Program} {f : FuncId} {args : Array Value} {w0 w : World} {L : List En} {v v' : Value} (h : Calls P f args w (fun e w' => ∃ u, e = .returned u ∧ (u = v ∧ Hp w0 w' L))) (e : v = v') : Calls P f args w (fun e w' => ∃ u, e = .returned u ∧ (u = v' ∧ Hp w0 w' L)) := e ▸ h
theorem bbig_D {d : BV} {m : MB} (e : Hid (d.m = m)) (h : m.size ≤ 4194304) : BBig d := by have := e.out; unfold BBig; rw [this]; exact h
theorem wgD_size (m : MB) (g : Int) (x : MG) : (withGuestM m g x).size ≤ m.size + x.size := by
  unfold withGuestM; split
  · have h : ∀ (l : List MG) (k : Nat), ((l.set k x).map MG.size).sum ≤ (l.map MG.size).sum + x.size := by
      intro l
      induction l with
      | nil => intro k; simp
      | cons y l ih => intro k; cases k with
        | zero => simp; omega
        | succ k => have := ih k; simp only [List.set_cons_succ, List.map_cons, List.sum_cons]; omega
    have h1 := h m.guests g.toNat
    unfold MB.size gsSize
    simp only [List.length_set]
    omega
  · omega
section
variable {P : Program} {ops : Array Oper} {S : World → Prop} {o : Oper} {a : Act} {α : Type} {enc : α → List Value} {sz : Nat}
theorem yields_loads_rdd (hw : Region.wanted o (yielded ops a.tmps) = true) {ty : TypeId} {x : Operand} (ho : o.op = .load ty x) (s : Sl α) (hR : ∀ w, S w → Rd enc sz w s) {q : Nat} (hx : a.eval x = .pointer (some ⟨ablk s.A, q, none⟩)) {n : Nat} [hT : TyA P ty n] {k : Nat} (y : α) (hk : s.xs[k]? = some y) {j : Nat} (hq : q = aoff s.A + k * sz + j) {vs : List Value} (hv : GetsAt (enc y) j n vs) :
    YieldsIf P ops S o (.agg vs.toArray) a := by
  subst hq
  refine .inl ⟨hw, fun w hS => ?_⟩
  have hr : (Instr.loadAt ty (a.eval x)).run P w = .ok (.agg vs.toArray) w := by rw [hx]; exact run_loads_rd (hR w hS) hT hk hv
  unfold execOp
  simp only [ho, Sem.run_bind, Sem.run_pure, Result.andThen_ok, hr]
end
theorem ch_sizeD (m : MB) (g : Int) (c : Bool) (F : MG → MG) (h : (F (gAtM m g)).size ≤ (gAtM m g).size) (hm : m.size ≤ 1000) : (changedM m g c F).size ≤ 4194304 := by
  unfold changedM; split
  · have h1 := wgD_size m g (F (gAtM m g)); have h2 := gAtM_size m g; omega
  · omega
theorem ansF_size (m : MB) (g v : Int) (x : MG) : (ansF m g v x).size = x.size := by
  unfold ansF answerG movedM stoppedM; split <;> rfl
theorem resF_size (m : MB) (g : Int) (x : MG) : (resF m g x).size = x.size := by
  unfold resF resumeG heldM movedM; split <;> rfl
theorem ans_facts (m : MB) (g v : Int) (x : MG) : canRunM (ansF m g v x) = !x.halted ∧ (ansF m g v x).halted = x.halted := by
  unfold ansF answerG movedM stoppedM canRunM; split <;> simp
def an0 : MB := stepM (bareNewM [[⟨6, 3⟩, ⟨7, 0⟩]]) 0
def anL (a : Int) : Bool := decide ((bareNewM [[⟨6, 3⟩, ⟨7, 0⟩]]).size ≤ 1000) && decide (an0.size ≤ 1000) && (stepOkM an0 0 == false) && chOkM an0 0 (ansC an0 0 a) && decide ((changedM an0 0 (ansC an0 0 a) (ansF an0 0 a)).size ≤ 1000) && decide ((gAtM (changedM an0 0 (ansC an0 0 a) (ansF an0 0 a)) 0).a = a) && decide ((gAtM (changedM an0 0 (ansC an0 0 a) (ansF an0 0 a)) 0).pc = 1)
theorem anL_all : ∀ a : Fin 100, anL (a.val : Int) = true := by decide +kernel
theorem anL_of {a : Int} (h0 : 0 ≤ a) (h1 : a < 100) : anL a = true := by
  have := anL_all ⟨a.toNat, by omega⟩
  simpa [Int.toNat_of_nonneg h0] using this
@[go_sem] theorem run_field_gst1 (v0 v1 v2 v3 v4 v5 v6 v7 v8 v9 v10 v11 v12 v13 v14 : Value) (w : World) : (Instr.field 53 (.agg #[v0, v1, v2, v3, v4, v5, v6, v7, v8, v9, v10, v11, v12, v13, v14]) 1).run Tryz.prog w = .ok v1 w := by kernel_rfl
@[go_sem] theorem run_field_gst2 (v0 v1 v2 v3 v4 v5 v6 v7 v8 v9 v10 v11 v12 v13 v14 : Value) (w : World) : (Instr.field 53 (.agg #[v0, v1, v2, v3, v4, v5, v6, v7, v8, v9, v10, v11, v12, v13, v14]) 2).run Tryz.prog w = .ok v2 w := by kernel_rfl
set_option maxRecDepth 100000 in
set_option maxHeartbeats 4000000 in
theorem guestOfD_c (B : BV) (g : Int) (W0 : World) (R : BRd W0 B) (Z : BBig B) : Calls Tryz.prog 26 #[B.val, .int .i64 g] W0 fun e w' => ∃ d : GV, e = .returned d.val ∧ d.m = gAtM B.m g ∧ Hp W0 w' [.gst d] := by
  have H := Hp.start W0
  go_enter Tryz.func26, Tryz.ntmps26
  go_wp2_with (first
    | go_skip
    | ((with_reducible refine at_box ?_); first | (refine wpList_box_H rfl rfl H rfl (by constructor) ?_; clear H; intro bX w H))
    | ((with_reducible refine at_alloc ?_); first | (refine wpList_alloc_H rfl rfl H ?_; clear H; intro bA w H))
    | ((with_reducible refine at_load ?_); first | (refine wpList_load_H rfl rfl H rfl (by repeat constructor) ?_) | (refine wpList_loads_H rfl rfl H rfl (by repeat constructor) ?_))
    | ((with_reducible refine at_store ?_); first | (refine wpList_store_H rfl rfl H rfl rfl (by repeat constructor) ?_; clear H; intro w H))
    | (go_at_call 41; refine (specGuestAt_c B g _ (R.at_ H) Z).mono ?_; rintro e w ⟨d, rfl, x1, K⟩; have HD := Lib.hid x1; clear x1; replace H := H.add_all K; clear K))
  refine bodyPost_ret (results_H rfl H rfl (by repeat constructor)) rfl ⟨d, rfl, HD.out, H.pick (.cons (by repeat constructor) .nil)⟩
set_option maxRecDepth 100000 in
set_option maxHeartbeats 8000000 in
theorem walk_fnAnswered (s : Sl Int) (W0 : World) (ra : Rd u8cell 1 W0 s ∧ s.xs.length ≤ maxLen) : Calls Tryz.prog 3 #[.slice s.A s.xs.length s.c] W0 fun e w' => e = .returned (.bool true) ∧ Below W0.heap.size W0 w' := by
  obtain ⟨R0, _⟩ := ra
  have R := R0
  have H := Hp.start W0
  by_cases hbig : 1048576 < s.xs.length
  · have hb : decide (1048576 < s.xs.length) = true := decide_eq_true hbig
    have HB := Lib.hid hb; clear hb
    go_enter Tryz.func3, Tryz.ntmps3
    go_wp2_with (first
      | go_skip
      | ((with_reducible refine at_box ?_); first | (refine wpList_box_H rfl rfl H rfl (by constructor) ?_; clear H; intro bQ w H))
      | ((with_reducible refine at_alloc ?_); first | (refine wpList_alloc_H rfl rfl H ?_; clear H; intro b w H))
      | ((with_reducible refine at_load ?_); first | (refine wpList_load_H rfl rfl H rfl (by repeat constructor) ?_) | (refine wpList_loads_H rfl rfl H rfl (by repeat constructor) ?_))
      | ((with_reducible refine at_store ?_); first | (refine wpList_store_H rfl rfl H rfl rfl (by repeat constructor) ?_; clear H; intro w H)))
    go_at_call 7
    refine (big_c s _).mono ?_
    rintro e w ⟨he, K⟩
    rw [HB.out] at he
    subst he
    replace H := H.add_all K
    clear K
    go_wp2_with (first
      | go_skip
      | ((with_reducible refine at_box ?_); first | (refine wpList_box_H rfl rfl H rfl (by constructor) ?_; clear H; intro bQ w H))
      | ((with_reducible refine at_alloc ?_); first | (refine wpList_alloc_H rfl rfl H ?_; clear H; intro b w H))
      | ((with_reducible refine at_load ?_); first | (refine wpList_load_H rfl rfl H rfl (by repeat constructor) ?_) | (refine wpList_loads_H rfl rfl H rfl (by repeat constructor) ?_))
      | ((with_reducible refine at_store ?_); first | (refine wpList_store_H rfl rfl H rfl rfl (by repeat constructor) ?_; clear H; intro w H)))
    go_ret
    exact ⟨rfl, H.below⟩
  have hb : decide (1048576 < s.xs.length) = false := decide_eq_false hbig
  have HB := Lib.hid hb; clear hb
  have Z : s.xs.length ≤ 1048576 := by omega
  clear hbig
  go_enter Tryz.func3, Tryz.ntmps3
  go_wp2_with (first
    | go_skip
    | ((with_reducible refine at_box ?_); first | (refine wpList_box_H rfl rfl H rfl (by constructor) ?_; clear H; intro bQ w H))
    | ((with_reducible refine at_alloc ?_); first | (refine wpList_alloc_H rfl rfl H ?_; clear H; intro b w H))
    | ((with_reducible refine at_load ?_); first | (refine wpList_load_H rfl rfl H rfl (by repeat constructor) ?_) | (refine wpList_loads_H rfl rfl H rfl (by repeat constructor) ?_))
    | ((with_reducible refine at_store ?_); first | (refine wpList_store_H rfl rfl H rfl rfl (by repeat constructor) ?_; clear H; intro w H)))
  go_at_call 7
  refine (big_c s _).mono ?_
  rintro e w ⟨he, K⟩
  rw [HB.out] at he
  subst he
  replace H := H.add_all K
  clear K
  clear R
  have R : Rd u8cell 1 W0 s ∧ s.xs.length ≤ 1048576 := ⟨R0, Z⟩
  clear R0 Z
  go_wp2_with (first
    | go_skip
    | ((with_reducible refine at_box ?_); first | (refine wpList_box_H rfl rfl H rfl (by constructor) ?_; clear H; intro bQ w H))
    | ((with_reducible refine at_alloc ?_); first | (refine wpList_alloc_H rfl rfl H ?_; clear H; intro b w H))
    | ((with_reducible refine at_load ?_); first | (refine wpList_load_H rfl rfl H rfl (by repeat constructor) ?_) | (refine wpList_loads_H rfl rfl H rfl (by repeat constructor) ?_))
    | ((with_reducible refine at_store ?_); first | (refine wpList_store_H rfl rfl H rfl rfl (by repeat constructor) ?_; clear H; intro w H)))
  go_at_call 8
  refine (drawBareAnswer_c s _ ⟨R.1.at_ H, R.2⟩).mono ?_
  rintro e w ⟨xb, Exb, g, v, rfl, hb, hs, K⟩
  replace H := H.add_all K
  clear K
  have HBxb : Hid (BDr Exb xb) := Lib.hid hb
  have Zxb : BBig xb := hb.2
  have HSxb := Lib.hid hs
  clear hb hs
  go_wp2_with (first
    | go_skip
    | ((with_reducible refine at_box ?_); first | (refine wpList_box_H rfl rfl H rfl (by constructor) ?_; clear H; intro bQ w H))
    | ((with_reducible refine at_alloc ?_); first | ((with_reducible refine at_dst 3 ?_); refine wpList_alloc_H rfl rfl H ?_; clear H; intro b3 w H) | (refine wpList_alloc_H rfl rfl H ?_; clear H; intro bQ w H))
    | ((with_reducible refine at_load ?_); first | (refine wpList_load_H rfl rfl H rfl (by repeat constructor) ?_) | (refine wpList_loads_H rfl rfl H rfl (by repeat constructor) ?_))
    | ((with_reducible refine at_store ?_); first | (refine wpList_store_H rfl rfl H rfl rfl (by repeat constructor) ?_; clear H; intro w H)))
  go_at_call 9
  refine (bareAnswer_c xb g v _ (HBxb.out.1 _ (H.get (e := Exb) (by repeat constructor))) Zxb).mono ?_
  rintro e w ⟨d1, rfl, hd1, K⟩
  have Hd1 := Lib.hid hd1; clear hd1
  replace H := H.add_all K
  clear K
  have Zd1 := bbig_D Hd1 (ch_sizeD _ _ _ _ (by rw [ansF_size]; exact Nat.le_refl _) HSxb.out)
  go_wp2_with (first
    | go_skip
    | ((with_reducible refine at_box ?_); first | (refine wpList_box_H rfl rfl H rfl (by constructor) ?_; clear H; intro bQ w H))
    | ((with_reducible refine at_alloc ?_); first | ((with_reducible refine at_dst 6 ?_); refine wpList_alloc_H rfl rfl H ?_; clear H; intro b6 w H) | (refine wpList_alloc_H rfl rfl H ?_; clear H; intro bQ w H))
    | ((with_reducible refine at_load ?_); first | (refine wpList_load_H rfl rfl H rfl (by repeat constructor) ?_) | (refine wpList_loads_H rfl rfl H rfl (by repeat constructor) ?_))
    | ((with_reducible refine at_store ?_); first | (refine wpList_store_H rfl rfl H rfl rfl (by repeat constructor) ?_; clear H; intro w H)))
  go_at_call 10
  refine (specBareAnswer_c xb g v _ (HBxb.out.1 _ (H.get (e := Exb) (by repeat constructor))) Zxb).mono ?_
  rintro e w ⟨w1, rfl, hw1, K⟩
  have Hw1 := Lib.hid hw1; clear hw1
  replace H := H.add_all K
  clear K
  have EQd1 : Hid ((d1.m == w1.m) = true) := Lib.hid (by rw [Hd1.out, Hw1.out] <;> simp)
  go_wp2_with (first
    | go_skip
    | ((with_reducible refine at_box ?_); first | (refine wpList_box_H rfl rfl H rfl (by constructor) ?_; clear H; intro bQ w H))
    | ((with_reducible refine at_alloc ?_); first | ((with_reducible refine at_dst 8 ?_); refine wpList_alloc_H rfl rfl H ?_; clear H; intro b8 w H) | (refine wpList_alloc_H rfl rfl H ?_; clear H; intro bQ w H))
    | ((with_reducible refine at_load ?_); first | (refine wpList_load_H rfl rfl H rfl (by repeat constructor) ?_) | (refine wpList_loads_H rfl rfl H rfl (by repeat constructor) ?_))
    | ((with_reducible refine at_store ?_); first | (refine wpList_store_H rfl rfl H rfl rfl (by repeat constructor) ?_; clear H; intro w H)))
  go_at_call 11
  refine (drawBareResume_c s _ ⟨R.1.at_ H, R.2⟩).mono ?_
  rintro e w ⟨xc, Exc, h, rfl, hb, hs, K⟩
  replace H := H.add_all K
  clear K
  have HBxc : Hid (BDr Exc xc) := Lib.hid hb
  have Zxc : BBig xc := hb.2
  have HSxc := Lib.hid hs
  clear hb hs
  go_wp2_with (first
    | go_skip
    | ((with_reducible refine at_box ?_); first | (refine wpList_box_H rfl rfl H rfl (by constructor) ?_; clear H; intro bQ w H))
    | ((with_reducible refine at_alloc ?_); first | ((with_reducible refine at_dst 10 ?_); refine wpList_alloc_H rfl rfl H ?_; clear H; intro b10 w H) | (refine wpList_alloc_H rfl rfl H ?_; clear H; intro bQ w H))
    | ((with_reducible refine at_load ?_); first | (refine wpList_load_H rfl rfl H rfl (by repeat constructor) ?_) | (refine wpList_loads_H rfl rfl H rfl (by repeat constructor) ?_))
    | ((with_reducible refine at_store ?_); first | (refine wpList_store_H rfl rfl H rfl rfl (by repeat constructor) ?_; clear H; intro w H)))
  go_at_call 12
  refine (bareResume_c xc h _ (HBxc.out.1 _ (H.get (e := Exc) (by repeat constructor))) Zxc).mono ?_
  rintro e w ⟨d2, rfl, hd2, K⟩
  have Hd2 := Lib.hid hd2; clear hd2
  replace H := H.add_all K
  clear K
  have Zd2 := bbig_D Hd2 (ch_sizeD _ _ _ _ (by rw [resF_size]; exact Nat.le_refl _) HSxc.out)
  go_wp2_with (first
    | go_skip
    | ((with_reducible refine at_box ?_); first | (refine wpList_box_H rfl rfl H rfl (by constructor) ?_; clear H; intro bQ w H))
    | ((with_reducible refine at_alloc ?_); first | ((with_reducible refine at_dst 12 ?_); refine wpList_alloc_H rfl rfl H ?_; clear H; intro b12 w H) | (refine wpList_alloc_H rfl rfl H ?_; clear H; intro bQ w H))
    | ((with_reducible refine at_load ?_); first | (refine wpList_load_H rfl rfl H rfl (by repeat constructor) ?_) | (refine wpList_loads_H rfl rfl H rfl (by repeat constructor) ?_))
    | ((with_reducible refine at_store ?_); first | (refine wpList_store_H rfl rfl H rfl rfl (by repeat constructor) ?_; clear H; intro w H)))
  go_at_call 13
  refine (specBareResume_c xc h _ (HBxc.out.1 _ (H.get (e := Exc) (by repeat constructor))) Zxc).mono ?_
  rintro e w ⟨w2, rfl, hw2, K⟩
  have Hw2 := Lib.hid hw2; clear hw2
  replace H := H.add_all K
  clear K
  have EQd2 : Hid ((d2.m == w2.m) = true) := Lib.hid (by rw [Hd2.out, Hw2.out] <;> simp)
  go_wp2_with (first
    | go_skip
    | ((with_reducible refine at_box ?_); first | (refine wpList_box_H rfl rfl H rfl (by constructor) ?_; clear H; intro bQ w H))
    | ((with_reducible refine at_alloc ?_); first | ((with_reducible refine at_dst 14 ?_); refine wpList_alloc_H rfl rfl H ?_; clear H; intro b14 w H) | (refine wpList_alloc_H rfl rfl H ?_; clear H; intro bQ w H))
    | ((with_reducible refine at_load ?_); first | (refine wpList_load_H rfl rfl H rfl (by repeat constructor) ?_) | (refine wpList_loads_H rfl rfl H rfl (by repeat constructor) ?_))
    | ((with_reducible refine at_store ?_); first | (refine wpList_store_H rfl rfl H rfl rfl (by repeat constructor) ?_; clear H; intro w H)))
  go_at_call 14
  refine (drawBareInject_c s _ ⟨R.1.at_ H, R.2⟩).mono ?_
  rintro e w ⟨xd, Exd, i, n, rfl, hb, hs, K⟩
  replace H := H.add_all K
  clear K
  have HBxd : Hid (BDr Exd xd) := Lib.hid hb
  have Zxd : BBig xd := hb.2
  have HSxd := Lib.hid hs
  clear hb hs
  go_wp2_with (first
    | go_skip
    | ((with_reducible refine at_box ?_); first | (refine wpList_box_H rfl rfl H rfl (by constructor) ?_; clear H; intro bQ w H))
    | ((with_reducible refine at_alloc ?_); first | ((with_reducible refine at_dst 16 ?_); refine wpList_alloc_H rfl rfl H ?_; clear H; intro b16 w H) | (refine wpList_alloc_H rfl rfl H ?_; clear H; intro bQ w H))
    | ((with_reducible refine at_load ?_); first | (refine wpList_load_H rfl rfl H rfl (by repeat constructor) ?_) | (refine wpList_loads_H rfl rfl H rfl (by repeat constructor) ?_))
    | ((with_reducible refine at_store ?_); first | (refine wpList_store_H rfl rfl H rfl rfl (by repeat constructor) ?_; clear H; intro w H)))
  go_at_call 15
  refine (bareInject_c xd i n _ (HBxd.out.1 _ (H.get (e := Exd) (by repeat constructor))) Zxd).mono ?_
  rintro e w ⟨d3, rfl, hd3, K⟩
  have Hd3 := Lib.hid hd3; clear hd3
  replace H := H.add_all K
  clear K
  have Zd3 := bbig_D Hd3 (ch_sizeD _ _ _ _ (Nat.le_refl _) HSxd.out)
  go_wp2_with (first
    | go_skip
    | ((with_reducible refine at_box ?_); first | (refine wpList_box_H rfl rfl H rfl (by constructor) ?_; clear H; intro bQ w H))
    | ((with_reducible refine at_alloc ?_); first | ((with_reducible refine at_dst 19 ?_); refine wpList_alloc_H rfl rfl H ?_; clear H; intro b19 w H) | (refine wpList_alloc_H rfl rfl H ?_; clear H; intro bQ w H))
    | ((with_reducible refine at_load ?_); first | (refine wpList_load_H rfl rfl H rfl (by repeat constructor) ?_) | (refine wpList_loads_H rfl rfl H rfl (by repeat constructor) ?_))
    | ((with_reducible refine at_store ?_); first | (refine wpList_store_H rfl rfl H rfl rfl (by repeat constructor) ?_; clear H; intro w H)))
  go_at_call 16
  refine (specBareInject_c xd i n _ (HBxd.out.1 _ (H.get (e := Exd) (by repeat constructor))) Zxd).mono ?_
  rintro e w ⟨w3, rfl, hw3, K⟩
  have Hw3 := Lib.hid hw3; clear hw3
  replace H := H.add_all K
  clear K
  have EQd3 : Hid ((d3.m == w3.m) = true) := Lib.hid (by rw [Hd3.out, Hw3.out] <;> simp)
  go_wp2_with (first
    | go_skip
    | ((with_reducible refine at_box ?_); first | (refine wpList_box_H rfl rfl H rfl (by constructor) ?_; clear H; intro bQ w H))
    | ((with_reducible refine at_alloc ?_); first | ((with_reducible refine at_dst 21 ?_); refine wpList_alloc_H rfl rfl H ?_; clear H; intro b21 w H) | (refine wpList_alloc_H rfl rfl H ?_; clear H; intro bQ w H))
    | ((with_reducible refine at_load ?_); first | (refine wpList_load_H rfl rfl H rfl (by repeat constructor) ?_) | (refine wpList_loads_H rfl rfl H rfl (by repeat constructor) ?_))
    | ((with_reducible refine at_store ?_); first | (refine wpList_store_H rfl rfl H rfl rfl (by repeat constructor) ?_; clear H; intro w H)))
  go_at_call 17
  refine (drawBareCtl_c s _ ⟨R.1.at_ H, R.2⟩).mono ?_
  rintro e w ⟨xe, Exe, j, c, rfl, hb, hs, K⟩
  replace H := H.add_all K
  clear K
  have HBxe : Hid (BDr Exe xe) := Lib.hid hb
  have Zxe : BBig xe := hb.2
  have HSxe := Lib.hid hs
  clear hb hs
  go_wp2_with (first
    | go_skip
    | ((with_reducible refine at_box ?_); first | (refine wpList_box_H rfl rfl H rfl (by constructor) ?_; clear H; intro bQ w H))
    | ((with_reducible refine at_alloc ?_); first | ((with_reducible refine at_dst 23 ?_); refine wpList_alloc_H rfl rfl H ?_; clear H; intro b23 w H) | ((with_reducible refine at_dst 25 ?_); refine wpList_alloc_H rfl rfl H ?_; clear H; intro b25 w H) | (refine wpList_alloc_H rfl rfl H ?_; clear H; intro bQ w H))
    | ((with_reducible refine at_load ?_); first | (refine wpList_load_H rfl rfl H rfl (by repeat constructor) ?_) | (refine wpList_loads_H rfl rfl H rfl (by repeat constructor) ?_))
    | ((with_reducible refine at_store ?_); first | (refine wpList_store_H rfl rfl H rfl rfl (by repeat constructor) ?_; clear H; intro w H)))
  go_at_call 18
  refine (bareCtl_c xe j c _ (HBxe.out.1 _ (H.get (e := Exe) (by repeat constructor))) Zxe).mono ?_
  rintro e w ⟨d4, rfl, hd4, K⟩
  have Hd4 := Lib.hid hd4; clear hd4
  replace H := H.add_all K
  clear K
  have Zd4 := bbig_D Hd4 (ch_sizeD _ _ _ _ (Nat.le_refl _) HSxe.out)
  go_wp2_with (first
    | go_skip
    | ((with_reducible refine at_box ?_); first | (refine wpList_box_H rfl rfl H rfl (by constructor) ?_; clear H; intro bQ w H))
    | ((with_reducible refine at_alloc ?_); first | ((with_reducible refine at_dst 26 ?_); refine wpList_alloc_H rfl rfl H ?_; clear H; intro b26 w H) | (refine wpList_alloc_H rfl rfl H ?_; clear H; intro bQ w H))
    | ((with_reducible refine at_load ?_); first | (refine wpList_load_H rfl rfl H rfl (by repeat constructor) ?_) | (refine wpList_loads_H rfl rfl H rfl (by repeat constructor) ?_))
    | ((with_reducible refine at_store ?_); first | (refine wpList_store_H rfl rfl H rfl rfl (by repeat constructor) ?_; clear H; intro w H)))
  go_at_call 19
  refine (specBareCtl_c xe j c _ (HBxe.out.1 _ (H.get (e := Exe) (by repeat constructor))) Zxe).mono ?_
  rintro e w ⟨w4, rfl, hw4, K⟩
  have Hw4 := Lib.hid hw4; clear hw4
  replace H := H.add_all K
  clear K
  have EQd4 : Hid ((d4.m == w4.m) = true) := Lib.hid (by rw [Hd4.out, Hw4.out] <;> simp)
  go_wp2_with (first
    | go_skip
    | ((with_reducible refine at_box ?_); first | (refine wpList_box_H rfl rfl H rfl (by constructor) ?_; clear H; intro bQ w H))
    | ((with_reducible refine at_alloc ?_); first | ((with_reducible refine at_dst 28 ?_); refine wpList_alloc_H rfl rfl H ?_; clear H; intro b28 w H) | (refine wpList_alloc_H rfl rfl H ?_; clear H; intro bQ w H))
    | ((with_reducible refine at_load ?_); first | (refine wpList_load_H rfl rfl H rfl (by repeat constructor) ?_) | (refine wpList_loads_H rfl rfl H rfl (by repeat constructor) ?_))
    | ((with_reducible refine at_store ?_); first | (refine wpList_store_H rfl rfl H rfl rfl (by repeat constructor) ?_; clear H; intro w H))
    | (go_at_call 20; ((with_reducible refine at_arg2 d1.val ?_); refine (lawBare_c d1 w1 _ (H.brd (b := d1) (by repeat constructor)) (H.brd (b := w1) (by repeat constructor)) Zd1).mono ?_; rintro e w ⟨he, K⟩; rw [EQd1.out] at he; subst he; replace H := H.add_all K; clear K))
    | (go_at_call 20; ((with_reducible refine at_arg2 d2.val ?_); refine (lawBare_c d2 w2 _ (H.brd (b := d2) (by repeat constructor)) (H.brd (b := w2) (by repeat constructor)) Zd2).mono ?_; rintro e w ⟨he, K⟩; rw [EQd2.out] at he; subst he; replace H := H.add_all K; clear K))
    | (go_at_call 20; ((with_reducible refine at_arg2 d3.val ?_); refine (lawBare_c d3 w3 _ (H.brd (b := d3) (by repeat constructor)) (H.brd (b := w3) (by repeat constructor)) Zd3).mono ?_; rintro e w ⟨he, K⟩; rw [EQd3.out] at he; subst he; replace H := H.add_all K; clear K))
    | (go_at_call 20; ((with_reducible refine at_arg2 d4.val ?_); refine (lawBare_c d4 w4 _ (H.brd (b := d4) (by repeat constructor)) (H.brd (b := w4) (by repeat constructor)) Zd4).mono ?_; rintro e w ⟨he, K⟩; rw [EQd4.out] at he; subst he; replace H := H.add_all K; clear K)))
  go_at_call 21
  refine (drawPlaces_c s _ (R.1.at_ H) R.2).mono ?_
  rintro e w ⟨p, rfl, hpl, hpb, K⟩
  replace H := H.add_all K
  clear K
  obtain ⟨p0, hp0e⟩ : ∃ p0, p.xs[0]? = some p0 := ⟨_, List.getElem?_eq_getElem (by omega)⟩
  have HP0 := Lib.hid hp0e
  have hpp0 := hpb p0 (List.mem_of_getElem? hp0e)
  have hp0 : 0 < p.xs.length := by omega
  clear hp0e hpl hpb
  obtain ⟨a, ha⟩ : ∃ a, a = p0.tmod 100 := ⟨_, rfl⟩
  have a0 : 0 ≤ a := by rw [ha]; exact Int.tmod_nonneg _ hpp0.1
  have a1 : a < 100 := by rw [ha]; exact Int.tmod_lt_of_pos _ (by decide)
  have Ea : Hid (p0.tmod 100 = a) := ha.symm
  have AL := anL_of a0 a1
  unfold anL at AL
  simp only [Bool.and_eq_true, decide_eq_true_eq, beq_iff_eq] at AL
  obtain ⟨N0, hN0⟩ : ∃ m, m = bareNewM [[⟨6, 3⟩, ⟨7, 0⟩]] := ⟨_, rfl⟩
  obtain ⟨N1, hN1⟩ : ∃ m, m = an0 := ⟨_, rfl⟩
  obtain ⟨N2, hN2⟩ : ∃ m, m = changedM an0 0 (ansC an0 0 a) (ansF an0 0 a) := ⟨_, rfl⟩
  rw [← hN2] at AL
  have S1 : Hid (stepM N0 0 = N1) := Lib.hid (by rw [hN0, hN1]; rfl)
  have S2 : Hid (changedM N1 0 (ansC N1 0 a) (ansF N1 0 a) = N2) := Lib.hid (by rw [hN1, hN2])
  rw [← hN0, ← hN1] at AL
  have S0 := Lib.hid hN0
  obtain ⟨⟨⟨⟨⟨⟨q0, q1⟩, q2⟩, q3⟩, q4⟩, q5⟩, q6⟩ := AL
  have Q0 : Hid (N0.size ≤ 4194304) := Lib.hid (by omega)
  have Q1 : Hid (N1.size ≤ 4194304) := Lib.hid (by omega)
  have Q4 : Hid (N2.size ≤ 4194304) := Lib.hid (by omega)
  have Q2 := Lib.hid q2
  have Q3 := Lib.hid q3
  have Q5 := Lib.hid q5
  have Q6 := Lib.hid q6
  clear ha hpp0 hN0 hN1 hN2 q0 q1 q2 q3 q4 q5 q6 a0 a1
  go_wp2_with (first
    | go_skip
    | ((with_reducible refine at_box ?_); first | (refine wpList_box_H rfl rfl H rfl (by constructor) ?_; clear H; intro bQ w H))
    | ((with_reducible refine at_alloc ?_); first | (refine wpList_alloc_H rfl rfl H ?_; clear H; intro bQ w H))
    | ((with_reducible refine at_load ?_); first | (refine wpList_load_H rfl rfl H rfl (by repeat constructor) ?_) | (refine wpList_loads_H rfl rfl H rfl (by repeat constructor) ?_))
    | ((with_reducible refine at_store ?_); first | (refine wpList_store_H rfl rfl H rfl rfl (by repeat constructor) ?_; clear H; intro w H))
    | ((with_reducible refine at_slice ?_); first | ((with_reducible refine at_dst 163 ?_); refine wpList_lit_H rfl rfl H ([⟨6, 3⟩, ⟨7, 0⟩] : List Ins) (by kernel_rfl) rfl (by decide) (by decide) ?_; clear H; intro bi w H) | ((with_reducible refine at_dst 164 ?_); refine wpList_one_H rfl rfl H (⟨some ⟨bi, 0, none⟩, 2, [⟨6, 3⟩, ⟨7, 0⟩]⟩ : Sl Ins) rfl CellsOf.slice rfl (by decide) ?_; clear H; intro bo w H)))
  go_at_call 23
  refine (specBareNew_c (⟨some ⟨bo, 0, none⟩, 1, [(⟨some ⟨bi, 0, none⟩, 2, [⟨6, 3⟩, ⟨7, 0⟩]⟩ : Sl Ins)]⟩ : Sl (Sl Ins)) _ (H.rd (s := (⟨some ⟨bo, 0, none⟩, 1, [(⟨some ⟨bi, 0, none⟩, 2, [⟨6, 3⟩, ⟨7, 0⟩]⟩ : Sl Ins)]⟩ : Sl (Sl Ins))) (by repeat constructor) h_len) (by intro x hx; rw [List.mem_singleton.1 hx]; exact H.rd (by repeat constructor) ins_len) (by intro x hx; rw [List.mem_singleton.1 hx]; simp) (by simp) (by simp)).mono ?_
  rintro e w ⟨n0, rfl, hn, K⟩
  have Hn0 : Hid (n0.m = N0) := Lib.hid (by rw [hn, S0.out]; rfl)
  clear hn
  replace H := H.add_all K
  clear K
  have Zn0 := bbig_D Hn0 Q0.out
  go_wp2_with (first
    | go_skip
    | ((with_reducible refine at_box ?_); first | (refine wpList_box_H rfl rfl H rfl (by constructor) ?_; clear H; intro bQ w H))
    | ((with_reducible refine at_alloc ?_); first | (refine wpList_alloc_H rfl rfl H ?_; clear H; intro bQ w H))
    | ((with_reducible refine at_load ?_); first | (refine wpList_load_H rfl rfl H rfl (by repeat constructor) ?_) | (refine wpList_loads_H rfl rfl H rfl (by repeat constructor) ?_))
    | ((with_reducible refine at_store ?_); first | (refine wpList_store_H rfl rfl H rfl rfl (by repeat constructor) ?_; clear H; intro w H)))
  go_at_call 22
  refine (specBareStep_c n0 0 _ (H.brd (b := n0) (by repeat constructor)) Zn0).mono ?_
  rintro e w ⟨n1, he, hy, K⟩
  have Hn1 : Hid (n1.m = N1) := Lib.hid (by rw [hy, Hn0.out]; exact S1.out)
  clear hy
  rw [Hn0.out] at he
  skip
  subst he
  replace H := H.add_all K
  clear K
  have Zn1 := bbig_D Hn1 Q1.out
  go_wp2_with (first
    | go_skip
    | ((with_reducible refine at_box ?_); first | (refine wpList_box_H rfl rfl H rfl (by constructor) ?_; clear H; intro bQ w H))
    | ((with_reducible refine at_alloc ?_); first | ((with_reducible refine at_dst 31 ?_); refine wpList_alloc_H rfl rfl H ?_; clear H; intro b31 w H) | (refine wpList_alloc_H rfl rfl H ?_; clear H; intro bQ w H))
    | ((with_reducible refine at_load ?_); first | (refine wpList_load_H rfl rfl H rfl (by repeat constructor) ?_) | (refine wpList_loads_H rfl rfl H rfl (by repeat constructor) ?_))
    | ((with_reducible refine at_store ?_); first | (refine wpList_store_H rfl rfl H rfl rfl (by repeat constructor) ?_; clear H; intro w H)))
  go_at_call 24
  refine (bareStep_c n1 0 _ (H.brd (b := n1) (by repeat constructor)) Zn1).mono ?_
  rintro e w ⟨n2, he, hy, K⟩
  have Hn2 : Hid (n2.m = stepM N1 0) := Lib.hid (by rw [hy, Hn1.out])
  clear hy
  rw [Hn1.out] at he
  rw [Q2.out] at he
  subst he
  replace H := H.add_all K
  clear K
  go_wp2_with (first
    | go_skip
    | ((with_reducible refine at_box ?_); first | (refine wpList_box_H rfl rfl H rfl (by constructor) ?_; clear H; intro bQ w H))
    | ((with_reducible refine at_alloc ?_); first | ((with_reducible refine at_dst 33 ?_); refine wpList_alloc_H rfl rfl H ?_; clear H; intro b33 w H) | (refine wpList_alloc_H rfl rfl H ?_; clear H; intro bQ w H))
    | ((with_reducible refine at_load ?_); first | (refine wpList_load_H rfl rfl H rfl (by repeat constructor) ?_) | (refine wpList_loads_H rfl rfl H rfl (by repeat constructor) ?_))
    | ((with_reducible refine at_store ?_); first | (refine wpList_store_H rfl rfl H rfl rfl (by repeat constructor) ?_; clear H; intro w H)))
  refine wp_cut (fun u a' w' => ∃ (tw : BV) (b35 : Nat), Hid (tw.m = N2) ∧ Hp W0 w' [.bare tw, .int p, .box b35 28 (barr tw).toList, .box b6 28 (barr d1).toList, .box b3 28 (barr xb).toList, .bare d1, Exb] ∧ a' = puts u [(175, n1.val), (176, (.slice p.A p.xs.length p.c)), (177, (.pointer (some ⟨ablk p.A, aoff p.A + 0 * 1, none⟩))), (178, (.int .i64 p0)), (179, (.int .i64 a)), (180, (.tuple #[tw.val, .bool true])), (174, (.tuple #[tw.val, .bool true])), (181, tw.val), (182, (.bool true)), (35, .pointer (some ⟨b35, 0, none⟩)), (36, (.bool true))]) ?_ ?_
  · refine wp_region_held (S := (fun w' => Rw w' b31 28 (barr n1) ∧ Rd icell 1 w' p)) (by kernel_rfl) ?_
    replace H := H.drew
    refine tkH (i := 0) rfl .here (yields_loads_R rfl rfl rfl (fun _ hS => hS.1) (by repeat constructor)) ⟨H.rw_ (by repeat constructor), H.rd (s := p) (by repeat constructor) int_len⟩ ?_
    (try go_frame)
    refine tkH (i := 1) rfl (.of rfl) (yields_val (v := (.slice p.A p.xs.length p.c)) rfl (fun _ => by go_simp)) ⟨H.rw_ (by repeat constructor), H.rd (s := p) (by repeat constructor) int_len⟩ ?_
    (try go_frame)
    refine tkH (i := 2) rfl (.of rfl) (yields_index_n rfl rfl (k := 0) p (fun _ hS => hS.2) rfl rfl rfl hp0) ⟨H.rw_ (by repeat constructor), H.rd (s := p) (by repeat constructor) int_len⟩ ?_
    (try go_frame)
    refine tkH (i := 3) rfl (.of rfl) (yields_load_rd rfl rfl p (fun _ hS => hS.2) rfl p0 HP0.out (by first | exact rfl | exact (Nat.add_zero _).symm) rfl) ⟨H.rw_ (by repeat constructor), H.rd (s := p) (by repeat constructor) int_len⟩ ?_
    (try go_frame)
    refine tkH (i := 4) rfl (.of rfl) (yields_val (v := (.int .i64 a)) rfl (fun _ => by (first | (go_simp; done) | (go_simp; rw [Ea.out]) | (rw [← Ea.out]; go_simp; done) | (go_simp; omega) | (go_simp; simpa using Ea.out)))) ⟨H.rw_ (by repeat constructor), H.rd (s := p) (by repeat constructor) int_len⟩ ?_
    (try go_frame)
    refine anyH_2 (i := 5) (j := 9) (by kernel_rfl) ?_ ?_
    · refine wpOp_at rfl (.of rfl) rfl ?_
      refine wp_call_H Tryz.f9 rfl rfl Tryz.func9 (by kernel_rfl) rfl rfl (made_H (val := fun d : BV => .tuple #[d.val, .bool true]) H (((bareAnswer_c n1 0 a _ (H.brd (b := n1) (by repeat constructor)) Zn1).mono fun e w' ⟨d, he, hm, K⟩ => ⟨d, by rw [he, Hn1.out, Q3.out], hm, K⟩))) ?_
      clear H
      rintro _ w ⟨tw, rfl, HT, H⟩
      refine ⟨⟨H.rw_ (by repeat constructor), H.rd (s := p) (by repeat constructor) int_len⟩, ?_⟩
      (try go_frame)
      refine tkH (i := 6) rfl (.of rfl) (yields_val (v := (.tuple #[tw.val, .bool true])) rfl (fun _ => by go_simp)) ⟨H.rw_ (by repeat constructor), H.rd (s := p) (by repeat constructor) int_len⟩ ?_
      (try go_frame)
      refine tkH (i := 7) rfl (.of rfl) (yields_val (v := tw.val) rfl (fun _ => by go_simp)) ⟨H.rw_ (by repeat constructor), H.rd (s := p) (by repeat constructor) int_len⟩ ?_
      (try go_frame)
      refine tkH (i := 8) rfl (.of rfl) (yields_val (v := (.bool true)) rfl (fun _ => by go_simp)) ⟨H.rw_ (by repeat constructor), H.rd (s := p) (by repeat constructor) int_len⟩ ?_
      (try go_frame)
      refine anyH_1 (i := 9) (by kernel_rfl) ?_
      refine wpOp_at rfl (.of rfl) rfl ?_
      refine wp_alloc_H rfl H ?_
      clear H
      intro b35 w H
      refine ⟨⟨H.rw_ (by repeat constructor), H.rd (s := p) (by repeat constructor) int_len⟩, ?_⟩
      (try go_frame)
      refine anyH_1 (i := 10) (by kernel_rfl) ?_
      refine wpOp_at rfl (.of rfl) rfl ?_
      refine wp_store_H rfl H rfl rfl (by repeat constructor) ?_
      clear H
      intro w H
      refine ⟨⟨H.rw_ (by repeat constructor), H.rd (s := p) (by repeat constructor) int_len⟩, ?_⟩
      (try go_frame)
      refine tkH (i := 11) rfl (.of rfl) (yields_val (v := (.bool true)) rfl (fun _ => by go_simp)) ⟨H.rw_ (by repeat constructor), H.rd (s := p) (by repeat constructor) int_len⟩ ?_
      (try go_frame)
      refine wpAnyH_done (by kernel_rfl) ?_ _
      exact ⟨rfl, tw, b35, Lib.hid (by rw [HT.out, Hn1.out]; exact S2.out), H.pick (.cons (by repeat constructor) (.cons (by repeat constructor) (.cons (by repeat constructor) (.cons (by repeat constructor) (.cons (by repeat constructor) (.cons (by repeat constructor) (.cons (by repeat constructor) .nil))))))), by first | (simp only [puts_cons, puts_nil, Act.put, List.setIfInBounds_toArray, List.set_cons_succ, List.set_cons_zero]; done) | (simp only [puts_cons, puts_nil, Act.put, List.setIfInBounds_toArray, List.set_cons_succ, List.set_cons_zero]; rfl)⟩
    · refine wpOp_at rfl (.of rfl) rfl ?_
      refine wp_alloc_H rfl H ?_
      clear H
      intro b35 w H
      refine ⟨⟨H.rw_ (by repeat constructor), H.rd (s := p) (by repeat constructor) int_len⟩, ?_⟩
      (try go_frame)
      refine anyH_1 (i := 5) (by kernel_rfl) ?_
      refine wpOp_at rfl (.of rfl) rfl ?_
      refine wp_call_H Tryz.f9 rfl rfl Tryz.func9 (by kernel_rfl) rfl rfl (made_H (val := fun d : BV => .tuple #[d.val, .bool true]) H (((bareAnswer_c n1 0 a _ (H.brd (b := n1) (by repeat constructor)) Zn1).mono fun e w' ⟨d, he, hm, K⟩ => ⟨d, by rw [he, Hn1.out, Q3.out], hm, K⟩))) ?_
      clear H
      rintro _ w ⟨tw, rfl, HT, H⟩
      refine ⟨⟨H.rw_ (by repeat constructor), H.rd (s := p) (by repeat constructor) int_len⟩, ?_⟩
      (try go_frame)
      refine tkH (i := 6) rfl (.of rfl) (yields_val (v := (.tuple #[tw.val, .bool true])) rfl (fun _ => by go_simp)) ⟨H.rw_ (by repeat constructor), H.rd (s := p) (by repeat constructor) int_len⟩ ?_
      (try go_frame)
      refine tkH (i := 7) rfl (.of rfl) (yields_val (v := tw.val) rfl (fun _ => by go_simp)) ⟨H.rw_ (by repeat constructor), H.rd (s := p) (by repeat constructor) int_len⟩ ?_
      (try go_frame)
      refine tkH (i := 8) rfl (.of rfl) (yields_val (v := (.bool true)) rfl (fun _ => by go_simp)) ⟨H.rw_ (by repeat constructor), H.rd (s := p) (by repeat constructor) int_len⟩ ?_
      (try go_frame)
      refine anyH_1 (i := 10) (by kernel_rfl) ?_
      refine wpOp_at rfl (.of rfl) rfl ?_
      refine wp_store_H rfl H rfl rfl (by repeat constructor) ?_
      clear H
      intro w H
      refine ⟨⟨H.rw_ (by repeat constructor), H.rd (s := p) (by repeat constructor) int_len⟩, ?_⟩
      (try go_frame)
      refine tkH (i := 11) rfl (.of rfl) (yields_val (v := (.bool true)) rfl (fun _ => by go_simp)) ⟨H.rw_ (by repeat constructor), H.rd (s := p) (by repeat constructor) int_len⟩ ?_
      (try go_frame)
      refine wpAnyH_done (by kernel_rfl) ?_ _
      exact ⟨rfl, tw, b35, Lib.hid (by rw [HT.out, Hn1.out]; exact S2.out), H.pick (.cons (by repeat constructor) (.cons (by repeat constructor) (.cons (by repeat constructor) (.cons (by repeat constructor) (.cons (by repeat constructor) (.cons (by repeat constructor) (.cons (by repeat constructor) .nil))))))), by first | (simp only [puts_cons, puts_nil, Act.put, List.setIfInBounds_toArray, List.set_cons_succ, List.set_cons_zero]; done) | (simp only [puts_cons, puts_nil, Act.put, List.setIfInBounds_toArray, List.set_cons_succ, List.set_cons_zero]; rfl)⟩
  clear H
  rintro u w ⟨tw, b35, HTW, H, rfl⟩
  simp only [puts_cons, puts_nil, Act.put, List.setIfInBounds_toArray, List.set_cons_succ, List.set_cons_zero]
  have Ztw := bbig_D HTW Q4.out
  go_wp2_with (first
    | go_skip
    | ((with_reducible refine at_box ?_); first | (refine wpList_box_H rfl rfl H rfl (by constructor) ?_; clear H; intro bQ w H))
    | ((with_reducible refine at_alloc ?_); first | (refine wpList_alloc_H rfl rfl H ?_; clear H; intro bQ w H))
    | ((with_reducible refine at_load ?_); first | (refine wpList_load_H rfl rfl H rfl (by repeat constructor) ?_) | (refine wpList_loads_H rfl rfl H rfl (by repeat constructor) ?_))
    | ((with_reducible refine at_store ?_); first | (refine wpList_store_H rfl rfl H rfl rfl (by repeat constructor) ?_; clear H; intro w H)))
  obtain ⟨ok, hok⟩ : ∃ ok, chOkM xb.m g (ansC xb.m g v) = ok := ⟨_, rfl⟩
  rw [hok]
  cases ok
  · have EX : Hid (d1.m = xb.m) := Lib.hid (by rw [Hd1.out]; unfold changedM; rw [hok]; simp)
    clear hok
    refine wp_cut (fun u a' w' => ∃ (g1 g2 : GV), Hid True ∧ Hp W0 w' [.int p] ∧ a' = puts u [(183, (.bool false)), (184, (.bool false)), (185, d1.val), (186, xb.val), (187, (.bool true)), (188, (.bool true)), (189, (.bool true)), (190, (.bool false)), (191, (.bool true)), (192, (.bool true)), (193, undef), (194, undef), (195, undef), (196, undef), (197, undef), (198, undef), (199, (.bool true)), (200, (.bool true)), (201, undef), (202, undef), (203, undef), (204, undef), (205, undef), (206, undef), (207, (.bool true)), (208, (.bool true)), (209, (.bool true)), (210, (.bool false)), (211, (.bool true)), (212, (.bool true)), (213, (.bool true)), (214, (.bool true)), (215, (.bool true)), (216, (.bool true)), (217, tw.val), (218, g1.val), (219, (.int .i64 g1.a)), (220, (.slice p.A p.xs.length p.c)), (221, (.pointer (some ⟨ablk p.A, aoff p.A + 0 * 1, none⟩))), (222, (.int .i64 p0)), (223, (.int .i64 a)), (224, (.bool true)), (225, (.bool true)), (226, (.bool true)), (227, tw.val), (228, g2.val), (229, (.int .i64 g2.pc)), (230, (.bool true)), (231, (.bool true)), (2, (.bool true))]) ?_ ?_
    · refine wp_region_held (S := (fun w' => Rw w' b3 28 (barr xb) ∧ (Rw w' b6 28 (barr d1) ∧ (Rw w' b35 28 (barr tw) ∧ ((Rd GV.cells 15 w' d1.gs ∧ Rd icell 1 w' p)))))) (by kernel_rfl) ?_
      replace H := H.drew
      refine tkH (i := 0) rfl .here (yields_val (v := (.bool false)) rfl (fun _ => by go_simp)) ⟨H.rw_ (by repeat constructor), H.rw_ (by repeat constructor), H.rw_ (by repeat constructor), (H.brd (b := d1) (by repeat constructor)).gs, H.rd (s := p) (by repeat constructor) int_len⟩ ?_
      (try go_frame)
      refine tkH (i := 1) rfl (.of rfl) (yields_val (v := (.bool false)) rfl (fun _ => by go_simp)) ⟨H.rw_ (by repeat constructor), H.rw_ (by repeat constructor), H.rw_ (by repeat constructor), (H.brd (b := d1) (by repeat constructor)).gs, H.rd (s := p) (by repeat constructor) int_len⟩ ?_
      (try go_frame)
      refine tkH (i := 2) rfl (.of rfl) (yields_loads_R rfl rfl rfl (fun _ hS => hS.2.1) (by repeat constructor)) ⟨H.rw_ (by repeat constructor), H.rw_ (by repeat constructor), H.rw_ (by repeat constructor), (H.brd (b := d1) (by repeat constructor)).gs, H.rd (s := p) (by repeat constructor) int_len⟩ ?_
      (try go_frame)
      refine tkH (i := 3) rfl (.of rfl) (yields_loads_R rfl rfl rfl (fun _ hS => hS.1) (by repeat constructor)) ⟨H.rw_ (by repeat constructor), H.rw_ (by repeat constructor), H.rw_ (by repeat constructor), (H.brd (b := d1) (by repeat constructor)).gs, H.rd (s := p) (by repeat constructor) int_len⟩ ?_
      (try go_frame)
      refine anyH_1 (i := 4) (by kernel_rfl) ?_
      refine wpOp_at rfl (.of rfl) rfl ?_
      refine wp_call_H Tryz.f20 rfl rfl Tryz.func20 (by kernel_rfl) rfl rfl (val_eqD (v' := .bool true) (val_H H (lawBare_c d1 xb _ (H.brd (b := d1) (by repeat constructor)) (HBxb.out.1 _ (H.get (e := Exb) (by repeat constructor))) Zd1)) (by rw [EX.out] <;> simp)) ?_
      clear H
      rintro _ w ⟨rfl, H⟩
      refine ⟨⟨H.rw_ (by repeat constructor), H.rw_ (by repeat constructor), H.rw_ (by repeat constructor), (H.brd (b := d1) (by repeat constructor)).gs, H.rd (s := p) (by repeat constructor) int_len⟩, ?_⟩
      (try go_frame)
      refine tkH (i := 5) rfl (.of rfl) (yields_val (v := (.bool true)) rfl (fun _ => by go_simp)) ⟨H.rw_ (by repeat constructor), H.rw_ (by repeat constructor), H.rw_ (by repeat constructor), (H.brd (b := d1) (by repeat constructor)).gs, H.rd (s := p) (by repeat constructor) int_len⟩ ?_
      (try go_frame)
      refine tkH (i := 6) rfl (.of rfl) (yields_val (v := (.bool true)) rfl (fun _ => by go_simp)) ⟨H.rw_ (by repeat constructor), H.rw_ (by repeat constructor), H.rw_ (by repeat constructor), (H.brd (b := d1) (by repeat constructor)).gs, H.rd (s := p) (by repeat constructor) int_len⟩ ?_
      (try go_frame)
      refine tkH (i := 7) rfl (.of rfl) (yields_val (v := (.bool false)) rfl (fun _ => by go_simp)) ⟨H.rw_ (by repeat constructor), H.rw_ (by repeat constructor), H.rw_ (by repeat constructor), (H.brd (b := d1) (by repeat constructor)).gs, H.rd (s := p) (by repeat constructor) int_len⟩ ?_
      (try go_frame)
      refine tkH (i := 8) rfl (.of rfl) (yields_val (v := (.bool true)) rfl (fun _ => by go_simp)) ⟨H.rw_ (by repeat constructor), H.rw_ (by repeat constructor), H.rw_ (by repeat constructor), (H.brd (b := d1) (by repeat constructor)).gs, H.rd (s := p) (by repeat constructor) int_len⟩ ?_
      (try go_frame)
      refine tkH (i := 9) rfl (.of rfl) (yields_val (v := (.bool true)) rfl (fun _ => by go_simp)) ⟨H.rw_ (by repeat constructor), H.rw_ (by repeat constructor), H.rw_ (by repeat constructor), (H.brd (b := d1) (by repeat constructor)).gs, H.rd (s := p) (by repeat constructor) int_len⟩ ?_
      (try go_frame)
      refine tkH (i := 10) rfl (.of rfl) (.inr ⟨rfl, rfl⟩) ⟨H.rw_ (by repeat constructor), H.rw_ (by repeat constructor), H.rw_ (by repeat constructor), (H.brd (b := d1) (by repeat constructor)).gs, H.rd (s := p) (by repeat constructor) int_len⟩ ?_
      (try go_frame)
      refine tkH (i := 11) rfl (.of rfl) (.inr ⟨rfl, rfl⟩) ⟨H.rw_ (by repeat constructor), H.rw_ (by repeat constructor), H.rw_ (by repeat constructor), (H.brd (b := d1) (by repeat constructor)).gs, H.rd (s := p) (by repeat constructor) int_len⟩ ?_
      (try go_frame)
      refine tkH (i := 12) rfl (.of rfl) (.inr ⟨rfl, rfl⟩) ⟨H.rw_ (by repeat constructor), H.rw_ (by repeat constructor), H.rw_ (by repeat constructor), (H.brd (b := d1) (by repeat constructor)).gs, H.rd (s := p) (by repeat constructor) int_len⟩ ?_
      (try go_frame)
      refine tkH (i := 13) rfl (.of rfl) (.inr ⟨rfl, rfl⟩) ⟨H.rw_ (by repeat constructor), H.rw_ (by repeat constructor), H.rw_ (by repeat constructor), (H.brd (b := d1) (by repeat constructor)).gs, H.rd (s := p) (by repeat constructor) int_len⟩ ?_
      (try go_frame)
      refine tkH (i := 14) rfl (.of rfl) (.inr ⟨rfl, rfl⟩) ⟨H.rw_ (by repeat constructor), H.rw_ (by repeat constructor), H.rw_ (by repeat constructor), (H.brd (b := d1) (by repeat constructor)).gs, H.rd (s := p) (by repeat constructor) int_len⟩ ?_
      (try go_frame)
      refine tkH (i := 15) rfl (.of rfl) (.inr ⟨rfl, rfl⟩) ⟨H.rw_ (by repeat constructor), H.rw_ (by repeat constructor), H.rw_ (by repeat constructor), (H.brd (b := d1) (by repeat constructor)).gs, H.rd (s := p) (by repeat constructor) int_len⟩ ?_
      (try go_frame)
      refine tkH (i := 16) rfl (.of rfl) (yields_val (v := (.bool true)) rfl (fun _ => by go_simp)) ⟨H.rw_ (by repeat constructor), H.rw_ (by repeat constructor), H.rw_ (by repeat constructor), (H.brd (b := d1) (by repeat constructor)).gs, H.rd (s := p) (by repeat constructor) int_len⟩ ?_
      (try go_frame)
      refine tkH (i := 17) rfl (.of rfl) (yields_val (v := (.bool true)) rfl (fun _ => by go_simp)) ⟨H.rw_ (by repeat constructor), H.rw_ (by repeat constructor), H.rw_ (by repeat constructor), (H.brd (b := d1) (by repeat constructor)).gs, H.rd (s := p) (by repeat constructor) int_len⟩ ?_
      (try go_frame)
      refine tkH (i := 18) rfl (.of rfl) (.inr ⟨rfl, rfl⟩) ⟨H.rw_ (by repeat constructor), H.rw_ (by repeat constructor), H.rw_ (by repeat constructor), (H.brd (b := d1) (by repeat constructor)).gs, H.rd (s := p) (by repeat constructor) int_len⟩ ?_
      (try go_frame)
      refine tkH (i := 19) rfl (.of rfl) (.inr ⟨rfl, rfl⟩) ⟨H.rw_ (by repeat constructor), H.rw_ (by repeat constructor), H.rw_ (by repeat constructor), (H.brd (b := d1) (by repeat constructor)).gs, H.rd (s := p) (by repeat constructor) int_len⟩ ?_
      (try go_frame)
      refine tkH (i := 20) rfl (.of rfl) (.inr ⟨rfl, rfl⟩) ⟨H.rw_ (by repeat constructor), H.rw_ (by repeat constructor), H.rw_ (by repeat constructor), (H.brd (b := d1) (by repeat constructor)).gs, H.rd (s := p) (by repeat constructor) int_len⟩ ?_
      (try go_frame)
      refine tkH (i := 21) rfl (.of rfl) (.inr ⟨rfl, rfl⟩) ⟨H.rw_ (by repeat constructor), H.rw_ (by repeat constructor), H.rw_ (by repeat constructor), (H.brd (b := d1) (by repeat constructor)).gs, H.rd (s := p) (by repeat constructor) int_len⟩ ?_
      (try go_frame)
      refine tkH (i := 22) rfl (.of rfl) (.inr ⟨rfl, rfl⟩) ⟨H.rw_ (by repeat constructor), H.rw_ (by repeat constructor), H.rw_ (by repeat constructor), (H.brd (b := d1) (by repeat constructor)).gs, H.rd (s := p) (by repeat constructor) int_len⟩ ?_
      (try go_frame)
      refine tkH (i := 23) rfl (.of rfl) (.inr ⟨rfl, rfl⟩) ⟨H.rw_ (by repeat constructor), H.rw_ (by repeat constructor), H.rw_ (by repeat constructor), (H.brd (b := d1) (by repeat constructor)).gs, H.rd (s := p) (by repeat constructor) int_len⟩ ?_
      (try go_frame)
      refine tkH (i := 24) rfl (.of rfl) (yields_val (v := (.bool true)) rfl (fun _ => by go_simp)) ⟨H.rw_ (by repeat constructor), H.rw_ (by repeat constructor), H.rw_ (by repeat constructor), (H.brd (b := d1) (by repeat constructor)).gs, H.rd (s := p) (by repeat constructor) int_len⟩ ?_
      (try go_frame)
      refine tkH (i := 25) rfl (.of rfl) (yields_val (v := (.bool true)) rfl (fun _ => by go_simp)) ⟨H.rw_ (by repeat constructor), H.rw_ (by repeat constructor), H.rw_ (by repeat constructor), (H.brd (b := d1) (by repeat constructor)).gs, H.rd (s := p) (by repeat constructor) int_len⟩ ?_
      (try go_frame)
      refine tkH (i := 26) rfl (.of rfl) (yields_val (v := (.bool true)) rfl (fun _ => by go_simp)) ⟨H.rw_ (by repeat constructor), H.rw_ (by repeat constructor), H.rw_ (by repeat constructor), (H.brd (b := d1) (by repeat constructor)).gs, H.rd (s := p) (by repeat constructor) int_len⟩ ?_
      (try go_frame)
      refine tkH (i := 27) rfl (.of rfl) (yields_val (v := (.bool false)) rfl (fun _ => by go_simp)) ⟨H.rw_ (by repeat constructor), H.rw_ (by repeat constructor), H.rw_ (by repeat constructor), (H.brd (b := d1) (by repeat constructor)).gs, H.rd (s := p) (by repeat constructor) int_len⟩ ?_
      (try go_frame)
      refine tkH (i := 28) rfl (.of rfl) (yields_val (v := (.bool true)) rfl (fun _ => by go_simp)) ⟨H.rw_ (by repeat constructor), H.rw_ (by repeat constructor), H.rw_ (by repeat constructor), (H.brd (b := d1) (by repeat constructor)).gs, H.rd (s := p) (by repeat constructor) int_len⟩ ?_
      (try go_frame)
      refine tkH (i := 29) rfl (.of rfl) (yields_val (v := (.bool true)) rfl (fun _ => by go_simp)) ⟨H.rw_ (by repeat constructor), H.rw_ (by repeat constructor), H.rw_ (by repeat constructor), (H.brd (b := d1) (by repeat constructor)).gs, H.rd (s := p) (by repeat constructor) int_len⟩ ?_
      (try go_frame)
      refine tkH (i := 30) rfl (.of rfl) (yields_val (v := (.bool true)) rfl (fun _ => by go_simp)) ⟨H.rw_ (by repeat constructor), H.rw_ (by repeat constructor), H.rw_ (by repeat constructor), (H.brd (b := d1) (by repeat constructor)).gs, H.rd (s := p) (by repeat constructor) int_len⟩ ?_
      (try go_frame)
      refine tkH (i := 31) rfl (.of rfl) (yields_val (v := (.bool true)) rfl (fun _ => by go_simp)) ⟨H.rw_ (by repeat constructor), H.rw_ (by repeat constructor), H.rw_ (by repeat constructor), (H.brd (b := d1) (by repeat constructor)).gs, H.rd (s := p) (by repeat constructor) int_len⟩ ?_
      (try go_frame)
      refine tkH (i := 32) rfl (.of rfl) (yields_val (v := (.bool true)) rfl (fun _ => by go_simp)) ⟨H.rw_ (by repeat constructor), H.rw_ (by repeat constructor), H.rw_ (by repeat constructor), (H.brd (b := d1) (by repeat constructor)).gs, H.rd (s := p) (by repeat constructor) int_len⟩ ?_
      (try go_frame)
      refine tkH (i := 33) rfl (.of rfl) (yields_val (v := (.bool true)) rfl (fun _ => by go_simp)) ⟨H.rw_ (by repeat constructor), H.rw_ (by repeat constructor), H.rw_ (by repeat constructor), (H.brd (b := d1) (by repeat constructor)).gs, H.rd (s := p) (by repeat constructor) int_len⟩ ?_
      (try go_frame)
      refine tkH (i := 34) rfl (.of rfl) (yields_loads_R rfl rfl rfl (fun _ hS => hS.2.2.1) (by repeat constructor)) ⟨H.rw_ (by repeat constructor), H.rw_ (by repeat constructor), H.rw_ (by repeat constructor), (H.brd (b := d1) (by repeat constructor)).gs, H.rd (s := p) (by repeat constructor) int_len⟩ ?_
      (try go_frame)
      refine tkH (i := 37) rfl (.of rfl) (yields_val (v := (.slice p.A p.xs.length p.c)) rfl (fun _ => by go_simp)) ⟨H.rw_ (by repeat constructor), H.rw_ (by repeat constructor), H.rw_ (by repeat constructor), (H.brd (b := d1) (by repeat constructor)).gs, H.rd (s := p) (by repeat constructor) int_len⟩ ?_
      (try go_frame)
      refine tkH (i := 38) rfl (.of rfl) (yields_index_n rfl rfl (k := 0) p (fun _ hS => hS.2.2.2.2) rfl rfl rfl hp0) ⟨H.rw_ (by repeat constructor), H.rw_ (by repeat constructor), H.rw_ (by repeat constructor), (H.brd (b := d1) (by repeat constructor)).gs, H.rd (s := p) (by repeat constructor) int_len⟩ ?_
      (try go_frame)
      refine tkH (i := 39) rfl (.of rfl) (yields_load_rd rfl rfl p (fun _ hS => hS.2.2.2.2) rfl p0 HP0.out (by first | exact rfl | exact (Nat.add_zero _).symm) rfl) ⟨H.rw_ (by repeat constructor), H.rw_ (by repeat constructor), H.rw_ (by repeat constructor), (H.brd (b := d1) (by repeat constructor)).gs, H.rd (s := p) (by repeat constructor) int_len⟩ ?_
      (try go_frame)
      refine tkH (i := 40) rfl (.of rfl) (yields_val (v := (.int .i64 a)) rfl (fun _ => by (first | (go_simp; done) | (go_simp; rw [Ea.out]) | (rw [← Ea.out]; go_simp; done) | (go_simp; omega) | (go_simp; simpa using Ea.out)))) ⟨H.rw_ (by repeat constructor), H.rw_ (by repeat constructor), H.rw_ (by repeat constructor), (H.brd (b := d1) (by repeat constructor)).gs, H.rd (s := p) (by repeat constructor) int_len⟩ ?_
      (try go_frame)
      refine anyH_1 (i := 35) (by kernel_rfl) ?_
      refine wpOp_at rfl (.of rfl) rfl ?_
      refine wp_call_H Tryz.f26 rfl rfl Tryz.func26 (by kernel_rfl) rfl rfl (made_H (val := fun d : GV => d.val) H (guestOfD_c tw 0 _ (H.brd (b := tw) (by repeat constructor)) Ztw)) ?_
      clear H
      rintro _ w ⟨g1, rfl, Hg1, H⟩
      have Gg1 : Hid ((g1.a == a) = true) := Lib.hid (by have h := congrArg MG.a Hg1.out; rw [HTW.out, Q5.out] at h; have h2 : g1.a = a := h; rw [h2]; simp)
      refine ⟨⟨H.rw_ (by repeat constructor), H.rw_ (by repeat constructor), H.rw_ (by repeat constructor), (H.brd (b := d1) (by repeat constructor)).gs, H.rd (s := p) (by repeat constructor) int_len⟩, ?_⟩
      (try go_frame)
      refine tkH (i := 36) rfl (.of rfl) (yields_val (v := (.int .i64 g1.a)) rfl (fun _ => by go_simp)) ⟨H.rw_ (by repeat constructor), H.rw_ (by repeat constructor), H.rw_ (by repeat constructor), (H.brd (b := d1) (by repeat constructor)).gs, H.rd (s := p) (by repeat constructor) int_len⟩ ?_
      (try go_frame)
      refine tkH (i := 41) rfl (.of rfl) (yields_val (v := (.bool true)) rfl (fun _ => by (first | (go_simp; done) | (go_simp; rw [Gg1.out]) | (rw [← Gg1.out]; go_simp; done) | (go_simp; omega) | (go_simp; simpa using Gg1.out)))) ⟨H.rw_ (by repeat constructor), H.rw_ (by repeat constructor), H.rw_ (by repeat constructor), (H.brd (b := d1) (by repeat constructor)).gs, H.rd (s := p) (by repeat constructor) int_len⟩ ?_
      (try go_frame)
      refine tkH (i := 42) rfl (.of rfl) (yields_val (v := (.bool true)) rfl (fun _ => by go_simp)) ⟨H.rw_ (by repeat constructor), H.rw_ (by repeat constructor), H.rw_ (by repeat constructor), (H.brd (b := d1) (by repeat constructor)).gs, H.rd (s := p) (by repeat constructor) int_len⟩ ?_
      (try go_frame)
      refine tkH (i := 43) rfl (.of rfl) (yields_val (v := (.bool true)) rfl (fun _ => by go_simp)) ⟨H.rw_ (by repeat constructor), H.rw_ (by repeat constructor), H.rw_ (by repeat constructor), (H.brd (b := d1) (by repeat constructor)).gs, H.rd (s := p) (by repeat constructor) int_len⟩ ?_
      (try go_frame)
      refine tkH (i := 44) rfl (.of rfl) (yields_loads_R rfl rfl rfl (fun _ hS => hS.2.2.1) (by repeat constructor)) ⟨H.rw_ (by repeat constructor), H.rw_ (by repeat constructor), H.rw_ (by repeat constructor), (H.brd (b := d1) (by repeat constructor)).gs, H.rd (s := p) (by repeat constructor) int_len⟩ ?_
      (try go_frame)
      refine anyH_1 (i := 45) (by kernel_rfl) ?_
      refine wpOp_at rfl (.of rfl) rfl ?_
      refine wp_call_H Tryz.f26 rfl rfl Tryz.func26 (by kernel_rfl) rfl rfl (made_H (val := fun d : GV => d.val) H (guestOfD_c tw 0 _ (H.brd (b := tw) (by repeat constructor)) Ztw)) ?_
      clear H
      rintro _ w ⟨g2, rfl, Hg2, H⟩
      have Gg2 : Hid ((g2.pc == 1) = true) := Lib.hid (by have h := congrArg MG.pc Hg2.out; rw [HTW.out, Q6.out] at h; have h2 : g2.pc = 1 := h; rw [h2]; simp)
      refine ⟨⟨H.rw_ (by repeat constructor), H.rw_ (by repeat constructor), H.rw_ (by repeat constructor), (H.brd (b := d1) (by repeat constructor)).gs, H.rd (s := p) (by repeat constructor) int_len⟩, ?_⟩
      (try go_frame)
      refine tkH (i := 46) rfl (.of rfl) (yields_val (v := (.int .i64 g2.pc)) rfl (fun _ => by go_simp)) ⟨H.rw_ (by repeat constructor), H.rw_ (by repeat constructor), H.rw_ (by repeat constructor), (H.brd (b := d1) (by repeat constructor)).gs, H.rd (s := p) (by repeat constructor) int_len⟩ ?_
      (try go_frame)
      refine tkH (i := 47) rfl (.of rfl) (yields_val (v := (.bool true)) rfl (fun _ => by (first | (go_simp; done) | (go_simp; rw [Gg2.out]) | (rw [← Gg2.out]; go_simp; done) | (go_simp; omega) | (go_simp; simpa using Gg2.out)))) ⟨H.rw_ (by repeat constructor), H.rw_ (by repeat constructor), H.rw_ (by repeat constructor), (H.brd (b := d1) (by repeat constructor)).gs, H.rd (s := p) (by repeat constructor) int_len⟩ ?_
      (try go_frame)
      refine tkH (i := 48) rfl (.of rfl) (yields_val (v := (.bool true)) rfl (fun _ => by go_simp)) ⟨H.rw_ (by repeat constructor), H.rw_ (by repeat constructor), H.rw_ (by repeat constructor), (H.brd (b := d1) (by repeat constructor)).gs, H.rd (s := p) (by repeat constructor) int_len⟩ ?_
      (try go_frame)
      refine tkH (i := 49) rfl (.of rfl) (yields_val (v := (.bool true)) rfl (fun _ => by go_simp)) ⟨H.rw_ (by repeat constructor), H.rw_ (by repeat constructor), H.rw_ (by repeat constructor), (H.brd (b := d1) (by repeat constructor)).gs, H.rd (s := p) (by repeat constructor) int_len⟩ ?_
      (try go_frame)
      refine wpAnyH_done (by kernel_rfl) ?_ _
      exact ⟨rfl, g1, g2, Lib.hid trivial, H.pick (.cons (by repeat constructor) .nil), by first | (simp only [puts_cons, puts_nil, Act.put, List.setIfInBounds_toArray, List.set_cons_succ, List.set_cons_zero]; done) | (simp only [puts_cons, puts_nil, Act.put, List.setIfInBounds_toArray, List.set_cons_succ, List.set_cons_zero]; rfl)⟩
    clear H
    rintro u w ⟨g1, g2, _, H, rfl⟩
    simp only [puts_cons, puts_nil, Act.put, List.setIfInBounds_toArray, List.set_cons_succ, List.set_cons_zero]
    go_wp2_with (first
      | go_skip
      | ((with_reducible refine at_box ?_); first | (refine wpList_box_H rfl rfl H rfl (by constructor) ?_; clear H; intro bQ w H))
      | ((with_reducible refine at_alloc ?_); first | (refine wpList_alloc_H rfl rfl H ?_; clear H; intro bQ w H))
      | ((with_reducible refine at_load ?_); first | (refine wpList_load_H rfl rfl H rfl (by repeat constructor) ?_) | (refine wpList_loads_H rfl rfl H rfl (by repeat constructor) ?_))
      | ((with_reducible refine at_store ?_); first | (refine wpList_store_H rfl rfl H rfl rfl (by repeat constructor) ?_; clear H; intro w H)))
    go_ret
    exact ⟨rfl, H.below⟩
  · have hm : hasM xb.m g = true := by
      have h := hok
      unfold chOkM at h
      simp only [Bool.and_eq_true] at h
      exact h.1.2
    have hg0 : 0 ≤ g ∧ g < (xb.gs.xs.length : Int) := by simpa [hasM, hasB, BV.m, gsOf] using hm
    obtain ⟨k, rfl⟩ := Int.eq_ofNat_of_zero_le hg0.1
    have hd := Hd1.out
    unfold changedM at hd
    rw [if_pos hok] at hd
    unfold withGuestM at hd
    rw [if_pos hm] at hd
    have hgs := congrArg MB.guests hd
    have hlen : d1.gs.xs.length = xb.gs.xs.length := by have h := congrArg List.length hgs; simpa [BV.m, gsOf] using h
    have hk : k < d1.gs.xs.length := by rw [hlen]; omega
    obtain ⟨y1, hy1⟩ : ∃ y, d1.gs.xs[k]? = some y := ⟨_, List.getElem?_eq_getElem hk⟩
    have HY1 := Lib.hid hy1
    have hym : y1.m = ansF xb.m (k : Int) v (gAtM xb.m (k : Int)) := by
      have h : d1.m.guests[k]? = some y1.m := by simp [BV.m, gsOf, hy1]
      have h2 : k < xb.m.guests.length := by simp [BV.m, gsOf]; omega
      rw [hgs] at h
      simp [h2] at h
      exact h.symm
    have hfx := ans_facts xb.m (k : Int) v (gAtM xb.m (k : Int))
    rw [← hym] at hfx
    obtain ⟨hal, hh⟩ : ∃ b, (gAtM xb.m (k : Int)).halted = b := ⟨_, rfl⟩
    rw [hh] at hfx
    clear hok hm hg0 hd hgs hlen hy1 hym hh
    cases hal
    · have CR : Hid (canRunM y1.m = true) := Lib.hid hfx.1
      clear hfx
      refine wp_cut (fun u a' w' => ∃ (g1 g2 : GV), Hid True ∧ Hp W0 w' [.int p] ∧ a' = puts u [(183, (.bool true)), (184, (.bool true)), (185, undef), (186, undef), (187, undef), (188, (.bool true)), (189, (.bool true)), (190, (.bool true)), (191, (.bool false)), (192, (.bool false)), (193, (.pointer (some ⟨b6, 1, none⟩))), (194, (.slice d1.gs.A d1.gs.xs.length d1.gs.c)), (195, (.int .i64 (k : Int))), (196, (.pointer (some ⟨ablk d1.gs.A, aoff d1.gs.A + k * 15, none⟩))), (197, y1.val), (198, (.bool true)), (199, (.bool true)), (200, (.bool true)), (201, undef), (202, undef), (203, undef), (204, undef), (205, undef), (206, undef), (207, (.bool true)), (208, (.bool true)), (209, (.bool true)), (210, (.bool false)), (211, (.bool true)), (212, (.bool true)), (213, (.bool true)), (214, (.bool true)), (215, (.bool true)), (216, (.bool true)), (217, tw.val), (218, g1.val), (219, (.int .i64 g1.a)), (220, (.slice p.A p.xs.length p.c)), (221, (.pointer (some ⟨ablk p.A, aoff p.A + 0 * 1, none⟩))), (222, (.int .i64 p0)), (223, (.int .i64 a)), (224, (.bool true)), (225, (.bool true)), (226, (.bool true)), (227, tw.val), (228, g2.val), (229, (.int .i64 g2.pc)), (230, (.bool true)), (231, (.bool true)), (2, (.bool true))]) ?_ ?_
      · refine wp_region_held (S := (fun w' => Rw w' b3 28 (barr xb) ∧ (Rw w' b6 28 (barr d1) ∧ (Rw w' b35 28 (barr tw) ∧ ((Rd GV.cells 15 w' d1.gs ∧ Rd icell 1 w' p)))))) (by kernel_rfl) ?_
        replace H := H.drew
        refine tkH (i := 0) rfl .here (yields_val (v := (.bool true)) rfl (fun _ => by go_simp)) ⟨H.rw_ (by repeat constructor), H.rw_ (by repeat constructor), H.rw_ (by repeat constructor), (H.brd (b := d1) (by repeat constructor)).gs, H.rd (s := p) (by repeat constructor) int_len⟩ ?_
        (try go_frame)
        refine tkH (i := 1) rfl (.of rfl) (yields_val (v := (.bool true)) rfl (fun _ => by go_simp)) ⟨H.rw_ (by repeat constructor), H.rw_ (by repeat constructor), H.rw_ (by repeat constructor), (H.brd (b := d1) (by repeat constructor)).gs, H.rd (s := p) (by repeat constructor) int_len⟩ ?_
        (try go_frame)
        refine tkH (i := 2) rfl (.of rfl) (.inr ⟨rfl, rfl⟩) ⟨H.rw_ (by repeat constructor), H.rw_ (by repeat constructor), H.rw_ (by repeat constructor), (H.brd (b := d1) (by repeat constructor)).gs, H.rd (s := p) (by repeat constructor) int_len⟩ ?_
        (try go_frame)
        refine tkH (i := 3) rfl (.of rfl) (.inr ⟨rfl, rfl⟩) ⟨H.rw_ (by repeat constructor), H.rw_ (by repeat constructor), H.rw_ (by repeat constructor), (H.brd (b := d1) (by repeat constructor)).gs, H.rd (s := p) (by repeat constructor) int_len⟩ ?_
        (try go_frame)
        refine tkH (i := 4) rfl (.of rfl) (.inr ⟨rfl, rfl⟩) ⟨H.rw_ (by repeat constructor), H.rw_ (by repeat constructor), H.rw_ (by repeat constructor), (H.brd (b := d1) (by repeat constructor)).gs, H.rd (s := p) (by repeat constructor) int_len⟩ ?_
        (try go_frame)
        refine tkH (i := 5) rfl (.of rfl) (yields_val (v := (.bool true)) rfl (fun _ => by go_simp)) ⟨H.rw_ (by repeat constructor), H.rw_ (by repeat constructor), H.rw_ (by repeat constructor), (H.brd (b := d1) (by repeat constructor)).gs, H.rd (s := p) (by repeat constructor) int_len⟩ ?_
        (try go_frame)
        refine tkH (i := 6) rfl (.of rfl) (yields_val (v := (.bool true)) rfl (fun _ => by go_simp)) ⟨H.rw_ (by repeat constructor), H.rw_ (by repeat constructor), H.rw_ (by repeat constructor), (H.brd (b := d1) (by repeat constructor)).gs, H.rd (s := p) (by repeat constructor) int_len⟩ ?_
        (try go_frame)
        refine tkH (i := 7) rfl (.of rfl) (yields_val (v := (.bool true)) rfl (fun _ => by go_simp)) ⟨H.rw_ (by repeat constructor), H.rw_ (by repeat constructor), H.rw_ (by repeat constructor), (H.brd (b := d1) (by repeat constructor)).gs, H.rd (s := p) (by repeat constructor) int_len⟩ ?_
        (try go_frame)
        refine tkH (i := 8) rfl (.of rfl) (yields_val (v := (.bool false)) rfl (fun _ => by go_simp)) ⟨H.rw_ (by repeat constructor), H.rw_ (by repeat constructor), H.rw_ (by repeat constructor), (H.brd (b := d1) (by repeat constructor)).gs, H.rd (s := p) (by repeat constructor) int_len⟩ ?_
        (try go_frame)
        refine tkH (i := 9) rfl (.of rfl) (yields_val (v := (.bool false)) rfl (fun _ => by go_simp)) ⟨H.rw_ (by repeat constructor), H.rw_ (by repeat constructor), H.rw_ (by repeat constructor), (H.brd (b := d1) (by repeat constructor)).gs, H.rd (s := p) (by repeat constructor) int_len⟩ ?_
        (try go_frame)
        refine tkH (i := 10) rfl (.of rfl) (yields_val (v := (.pointer (some ⟨b6, 1, none⟩))) rfl (fun _ => by go_simp)) ⟨H.rw_ (by repeat constructor), H.rw_ (by repeat constructor), H.rw_ (by repeat constructor), (H.brd (b := d1) (by repeat constructor)).gs, H.rd (s := p) (by repeat constructor) int_len⟩ ?_
        (try go_frame)
        refine tkH (i := 11) rfl (.of rfl) (yields_load1_R rfl rfl rfl (fun _ hS => hS.2.1) rfl) ⟨H.rw_ (by repeat constructor), H.rw_ (by repeat constructor), H.rw_ (by repeat constructor), (H.brd (b := d1) (by repeat constructor)).gs, H.rd (s := p) (by repeat constructor) int_len⟩ ?_
        (try go_frame)
        refine tkH (i := 12) rfl (.of rfl) (yields_val (v := (.int .i64 (k : Int))) rfl (fun _ => by go_simp)) ⟨H.rw_ (by repeat constructor), H.rw_ (by repeat constructor), H.rw_ (by repeat constructor), (H.brd (b := d1) (by repeat constructor)).gs, H.rd (s := p) (by repeat constructor) int_len⟩ ?_
        (try go_frame)
        refine tkH (i := 13) rfl (.of rfl) (yields_index_n rfl rfl (k := k) d1.gs (fun _ hS => hS.2.2.2.1) rfl rfl rfl hk) ⟨H.rw_ (by repeat constructor), H.rw_ (by repeat constructor), H.rw_ (by repeat constructor), (H.brd (b := d1) (by repeat constructor)).gs, H.rd (s := p) (by repeat constructor) int_len⟩ ?_
        (try go_frame)
        refine tkH (i := 14) rfl (.of rfl) (yields_loads_rdd rfl rfl d1.gs (fun _ hS => hS.2.2.2.1) rfl y1 HY1.out (by first | exact rfl | exact (Nat.add_zero _).symm) (by repeat constructor)) ⟨H.rw_ (by repeat constructor), H.rw_ (by repeat constructor), H.rw_ (by repeat constructor), (H.brd (b := d1) (by repeat constructor)).gs, H.rd (s := p) (by repeat constructor) int_len⟩ ?_
        (try go_frame)
        refine anyH_1 (i := 15) (by kernel_rfl) ?_
        refine wpOp_at rfl (.of rfl) rfl ?_
        refine wp_call_H Tryz.f25 rfl rfl Tryz.func25 (by kernel_rfl) rfl rfl (val_eqD (v' := .bool true) (val_H H ((specCanRun_any y1 _).mono fun _ _ ⟨h, b⟩ => ⟨h, Hp.of_below b⟩)) (by rw [CR.out])) ?_
        clear H
        rintro _ w ⟨rfl, H⟩
        refine ⟨⟨H.rw_ (by repeat constructor), H.rw_ (by repeat constructor), H.rw_ (by repeat constructor), (H.brd (b := d1) (by repeat constructor)).gs, H.rd (s := p) (by repeat constructor) int_len⟩, ?_⟩
        (try go_frame)
        refine tkH (i := 16) rfl (.of rfl) (yields_val (v := (.bool true)) rfl (fun _ => by go_simp)) ⟨H.rw_ (by repeat constructor), H.rw_ (by repeat constructor), H.rw_ (by repeat constructor), (H.brd (b := d1) (by repeat constructor)).gs, H.rd (s := p) (by repeat constructor) int_len⟩ ?_
        (try go_frame)
        refine tkH (i := 17) rfl (.of rfl) (yields_val (v := (.bool true)) rfl (fun _ => by go_simp)) ⟨H.rw_ (by repeat constructor), H.rw_ (by repeat constructor), H.rw_ (by repeat constructor), (H.brd (b := d1) (by repeat constructor)).gs, H.rd (s := p) (by repeat constructor) int_len⟩ ?_
        (try go_frame)
        refine tkH (i := 18) rfl (.of rfl) (.inr ⟨rfl, rfl⟩) ⟨H.rw_ (by repeat constructor), H.rw_ (by repeat constructor), H.rw_ (by repeat constructor), (H.brd (b := d1) (by repeat constructor)).gs, H.rd (s := p) (by repeat constructor) int_len⟩ ?_
        (try go_frame)
        refine tkH (i := 19) rfl (.of rfl) (.inr ⟨rfl, rfl⟩) ⟨H.rw_ (by repeat constructor), H.rw_ (by repeat constructor), H.rw_ (by repeat constructor), (H.brd (b := d1) (by repeat constructor)).gs, H.rd (s := p) (by repeat constructor) int_len⟩ ?_
        (try go_frame)
        refine tkH (i := 20) rfl (.of rfl) (.inr ⟨rfl, rfl⟩) ⟨H.rw_ (by repeat constructor), H.rw_ (by repeat constructor), H.rw_ (by repeat constructor), (H.brd (b := d1) (by repeat constructor)).gs, H.rd (s := p) (by repeat constructor) int_len⟩ ?_
        (try go_frame)
        refine tkH (i := 21) rfl (.of rfl) (.inr ⟨rfl, rfl⟩) ⟨H.rw_ (by repeat constructor), H.rw_ (by repeat constructor), H.rw_ (by repeat constructor), (H.brd (b := d1) (by repeat constructor)).gs, H.rd (s := p) (by repeat constructor) int_len⟩ ?_
        (try go_frame)
        refine tkH (i := 22) rfl (.of rfl) (.inr ⟨rfl, rfl⟩) ⟨H.rw_ (by repeat constructor), H.rw_ (by repeat constructor), H.rw_ (by repeat constructor), (H.brd (b := d1) (by repeat constructor)).gs, H.rd (s := p) (by repeat constructor) int_len⟩ ?_
        (try go_frame)
        refine tkH (i := 23) rfl (.of rfl) (.inr ⟨rfl, rfl⟩) ⟨H.rw_ (by repeat constructor), H.rw_ (by repeat constructor), H.rw_ (by repeat constructor), (H.brd (b := d1) (by repeat constructor)).gs, H.rd (s := p) (by repeat constructor) int_len⟩ ?_
        (try go_frame)
        refine tkH (i := 24) rfl (.of rfl) (yields_val (v := (.bool true)) rfl (fun _ => by go_simp)) ⟨H.rw_ (by repeat constructor), H.rw_ (by repeat constructor), H.rw_ (by repeat constructor), (H.brd (b := d1) (by repeat constructor)).gs, H.rd (s := p) (by repeat constructor) int_len⟩ ?_
        (try go_frame)
        refine tkH (i := 25) rfl (.of rfl) (yields_val (v := (.bool true)) rfl (fun _ => by go_simp)) ⟨H.rw_ (by repeat constructor), H.rw_ (by repeat constructor), H.rw_ (by repeat constructor), (H.brd (b := d1) (by repeat constructor)).gs, H.rd (s := p) (by repeat constructor) int_len⟩ ?_
        (try go_frame)
        refine tkH (i := 26) rfl (.of rfl) (yields_val (v := (.bool true)) rfl (fun _ => by go_simp)) ⟨H.rw_ (by repeat constructor), H.rw_ (by repeat constructor), H.rw_ (by repeat constructor), (H.brd (b := d1) (by repeat constructor)).gs, H.rd (s := p) (by repeat constructor) int_len⟩ ?_
        (try go_frame)
        refine tkH (i := 27) rfl (.of rfl) (yields_val (v := (.bool false)) rfl (fun _ => by go_simp)) ⟨H.rw_ (by repeat constructor), H.rw_ (by repeat constructor), H.rw_ (by repeat constructor), (H.brd (b := d1) (by repeat constructor)).gs, H.rd (s := p) (by repeat constructor) int_len⟩ ?_
        (try go_frame)
        refine tkH (i := 28) rfl (.of rfl) (yields_val (v := (.bool true)) rfl (fun _ => by go_simp)) ⟨H.rw_ (by repeat constructor), H.rw_ (by repeat constructor), H.rw_ (by repeat constructor), (H.brd (b := d1) (by repeat constructor)).gs, H.rd (s := p) (by repeat constructor) int_len⟩ ?_
        (try go_frame)
        refine tkH (i := 29) rfl (.of rfl) (yields_val (v := (.bool true)) rfl (fun _ => by go_simp)) ⟨H.rw_ (by repeat constructor), H.rw_ (by repeat constructor), H.rw_ (by repeat constructor), (H.brd (b := d1) (by repeat constructor)).gs, H.rd (s := p) (by repeat constructor) int_len⟩ ?_
        (try go_frame)
        refine tkH (i := 30) rfl (.of rfl) (yields_val (v := (.bool true)) rfl (fun _ => by go_simp)) ⟨H.rw_ (by repeat constructor), H.rw_ (by repeat constructor), H.rw_ (by repeat constructor), (H.brd (b := d1) (by repeat constructor)).gs, H.rd (s := p) (by repeat constructor) int_len⟩ ?_
        (try go_frame)
        refine tkH (i := 31) rfl (.of rfl) (yields_val (v := (.bool true)) rfl (fun _ => by go_simp)) ⟨H.rw_ (by repeat constructor), H.rw_ (by repeat constructor), H.rw_ (by repeat constructor), (H.brd (b := d1) (by repeat constructor)).gs, H.rd (s := p) (by repeat constructor) int_len⟩ ?_
        (try go_frame)
        refine tkH (i := 32) rfl (.of rfl) (yields_val (v := (.bool true)) rfl (fun _ => by go_simp)) ⟨H.rw_ (by repeat constructor), H.rw_ (by repeat constructor), H.rw_ (by repeat constructor), (H.brd (b := d1) (by repeat constructor)).gs, H.rd (s := p) (by repeat constructor) int_len⟩ ?_
        (try go_frame)
        refine tkH (i := 33) rfl (.of rfl) (yields_val (v := (.bool true)) rfl (fun _ => by go_simp)) ⟨H.rw_ (by repeat constructor), H.rw_ (by repeat constructor), H.rw_ (by repeat constructor), (H.brd (b := d1) (by repeat constructor)).gs, H.rd (s := p) (by repeat constructor) int_len⟩ ?_
        (try go_frame)
        refine tkH (i := 34) rfl (.of rfl) (yields_loads_R rfl rfl rfl (fun _ hS => hS.2.2.1) (by repeat constructor)) ⟨H.rw_ (by repeat constructor), H.rw_ (by repeat constructor), H.rw_ (by repeat constructor), (H.brd (b := d1) (by repeat constructor)).gs, H.rd (s := p) (by repeat constructor) int_len⟩ ?_
        (try go_frame)
        refine tkH (i := 37) rfl (.of rfl) (yields_val (v := (.slice p.A p.xs.length p.c)) rfl (fun _ => by go_simp)) ⟨H.rw_ (by repeat constructor), H.rw_ (by repeat constructor), H.rw_ (by repeat constructor), (H.brd (b := d1) (by repeat constructor)).gs, H.rd (s := p) (by repeat constructor) int_len⟩ ?_
        (try go_frame)
        refine tkH (i := 38) rfl (.of rfl) (yields_index_n rfl rfl (k := 0) p (fun _ hS => hS.2.2.2.2) rfl rfl rfl hp0) ⟨H.rw_ (by repeat constructor), H.rw_ (by repeat constructor), H.rw_ (by repeat constructor), (H.brd (b := d1) (by repeat constructor)).gs, H.rd (s := p) (by repeat constructor) int_len⟩ ?_
        (try go_frame)
        refine tkH (i := 39) rfl (.of rfl) (yields_load_rd rfl rfl p (fun _ hS => hS.2.2.2.2) rfl p0 HP0.out (by first | exact rfl | exact (Nat.add_zero _).symm) rfl) ⟨H.rw_ (by repeat constructor), H.rw_ (by repeat constructor), H.rw_ (by repeat constructor), (H.brd (b := d1) (by repeat constructor)).gs, H.rd (s := p) (by repeat constructor) int_len⟩ ?_
        (try go_frame)
        refine tkH (i := 40) rfl (.of rfl) (yields_val (v := (.int .i64 a)) rfl (fun _ => by (first | (go_simp; done) | (go_simp; rw [Ea.out]) | (rw [← Ea.out]; go_simp; done) | (go_simp; omega) | (go_simp; simpa using Ea.out)))) ⟨H.rw_ (by repeat constructor), H.rw_ (by repeat constructor), H.rw_ (by repeat constructor), (H.brd (b := d1) (by repeat constructor)).gs, H.rd (s := p) (by repeat constructor) int_len⟩ ?_
        (try go_frame)
        refine anyH_1 (i := 35) (by kernel_rfl) ?_
        refine wpOp_at rfl (.of rfl) rfl ?_
        refine wp_call_H Tryz.f26 rfl rfl Tryz.func26 (by kernel_rfl) rfl rfl (made_H (val := fun d : GV => d.val) H (guestOfD_c tw 0 _ (H.brd (b := tw) (by repeat constructor)) Ztw)) ?_
        clear H
        rintro _ w ⟨g1, rfl, Hg1, H⟩
        have Gg1 : Hid ((g1.a == a) = true) := Lib.hid (by have h := congrArg MG.a Hg1.out; rw [HTW.out, Q5.out] at h; have h2 : g1.a = a := h; rw [h2]; simp)
        refine ⟨⟨H.rw_ (by repeat constructor), H.rw_ (by repeat constructor), H.rw_ (by repeat constructor), (H.brd (b := d1) (by repeat constructor)).gs, H.rd (s := p) (by repeat constructor) int_len⟩, ?_⟩
        (try go_frame)
        refine tkH (i := 36) rfl (.of rfl) (yields_val (v := (.int .i64 g1.a)) rfl (fun _ => by go_simp)) ⟨H.rw_ (by repeat constructor), H.rw_ (by repeat constructor), H.rw_ (by repeat constructor), (H.brd (b := d1) (by repeat constructor)).gs, H.rd (s := p) (by repeat constructor) int_len⟩ ?_
        (try go_frame)
        refine tkH (i := 41) rfl (.of rfl) (yields_val (v := (.bool true)) rfl (fun _ => by (first | (go_simp; done) | (go_simp; rw [Gg1.out]) | (rw [← Gg1.out]; go_simp; done) | (go_simp; omega) | (go_simp; simpa using Gg1.out)))) ⟨H.rw_ (by repeat constructor), H.rw_ (by repeat constructor), H.rw_ (by repeat constructor), (H.brd (b := d1) (by repeat constructor)).gs, H.rd (s := p) (by repeat constructor) int_len⟩ ?_
        (try go_frame)
        refine tkH (i := 42) rfl (.of rfl) (yields_val (v := (.bool true)) rfl (fun _ => by go_simp)) ⟨H.rw_ (by repeat constructor), H.rw_ (by repeat constructor), H.rw_ (by repeat constructor), (H.brd (b := d1) (by repeat constructor)).gs, H.rd (s := p) (by repeat constructor) int_len⟩ ?_
        (try go_frame)
        refine tkH (i := 43) rfl (.of rfl) (yields_val (v := (.bool true)) rfl (fun _ => by go_simp)) ⟨H.rw_ (by repeat constructor), H.rw_ (by repeat constructor), H.rw_ (by repeat constructor), (H.brd (b := d1) (by repeat constructor)).gs, H.rd (s := p) (by repeat constructor) int_len⟩ ?_
        (try go_frame)
        refine tkH (i := 44) rfl (.of rfl) (yields_loads_R rfl rfl rfl (fun _ hS => hS.2.2.1) (by repeat constructor)) ⟨H.rw_ (by repeat constructor), H.rw_ (by repeat constructor), H.rw_ (by repeat constructor), (H.brd (b := d1) (by repeat constructor)).gs, H.rd (s := p) (by repeat constructor) int_len⟩ ?_
        (try go_frame)
        refine anyH_1 (i := 45) (by kernel_rfl) ?_
        refine wpOp_at rfl (.of rfl) rfl ?_
        refine wp_call_H Tryz.f26 rfl rfl Tryz.func26 (by kernel_rfl) rfl rfl (made_H (val := fun d : GV => d.val) H (guestOfD_c tw 0 _ (H.brd (b := tw) (by repeat constructor)) Ztw)) ?_
        clear H
        rintro _ w ⟨g2, rfl, Hg2, H⟩
        have Gg2 : Hid ((g2.pc == 1) = true) := Lib.hid (by have h := congrArg MG.pc Hg2.out; rw [HTW.out, Q6.out] at h; have h2 : g2.pc = 1 := h; rw [h2]; simp)
        refine ⟨⟨H.rw_ (by repeat constructor), H.rw_ (by repeat constructor), H.rw_ (by repeat constructor), (H.brd (b := d1) (by repeat constructor)).gs, H.rd (s := p) (by repeat constructor) int_len⟩, ?_⟩
        (try go_frame)
        refine tkH (i := 46) rfl (.of rfl) (yields_val (v := (.int .i64 g2.pc)) rfl (fun _ => by go_simp)) ⟨H.rw_ (by repeat constructor), H.rw_ (by repeat constructor), H.rw_ (by repeat constructor), (H.brd (b := d1) (by repeat constructor)).gs, H.rd (s := p) (by repeat constructor) int_len⟩ ?_
        (try go_frame)
        refine tkH (i := 47) rfl (.of rfl) (yields_val (v := (.bool true)) rfl (fun _ => by (first | (go_simp; done) | (go_simp; rw [Gg2.out]) | (rw [← Gg2.out]; go_simp; done) | (go_simp; omega) | (go_simp; simpa using Gg2.out)))) ⟨H.rw_ (by repeat constructor), H.rw_ (by repeat constructor), H.rw_ (by repeat constructor), (H.brd (b := d1) (by repeat constructor)).gs, H.rd (s := p) (by repeat constructor) int_len⟩ ?_
        (try go_frame)
        refine tkH (i := 48) rfl (.of rfl) (yields_val (v := (.bool true)) rfl (fun _ => by go_simp)) ⟨H.rw_ (by repeat constructor), H.rw_ (by repeat constructor), H.rw_ (by repeat constructor), (H.brd (b := d1) (by repeat constructor)).gs, H.rd (s := p) (by repeat constructor) int_len⟩ ?_
        (try go_frame)
        refine tkH (i := 49) rfl (.of rfl) (yields_val (v := (.bool true)) rfl (fun _ => by go_simp)) ⟨H.rw_ (by repeat constructor), H.rw_ (by repeat constructor), H.rw_ (by repeat constructor), (H.brd (b := d1) (by repeat constructor)).gs, H.rd (s := p) (by repeat constructor) int_len⟩ ?_
        (try go_frame)
        refine wpAnyH_done (by kernel_rfl) ?_ _
        exact ⟨rfl, g1, g2, Lib.hid trivial, H.pick (.cons (by repeat constructor) .nil), by first | (simp only [puts_cons, puts_nil, Act.put, List.setIfInBounds_toArray, List.set_cons_succ, List.set_cons_zero]; done) | (simp only [puts_cons, puts_nil, Act.put, List.setIfInBounds_toArray, List.set_cons_succ, List.set_cons_zero]; rfl)⟩
      clear H
      rintro u w ⟨g1, g2, _, H, rfl⟩
      simp only [puts_cons, puts_nil, Act.put, List.setIfInBounds_toArray, List.set_cons_succ, List.set_cons_zero]
      go_wp2_with (first
        | go_skip
        | ((with_reducible refine at_box ?_); first | (refine wpList_box_H rfl rfl H rfl (by constructor) ?_; clear H; intro bQ w H))
        | ((with_reducible refine at_alloc ?_); first | (refine wpList_alloc_H rfl rfl H ?_; clear H; intro bQ w H))
        | ((with_reducible refine at_load ?_); first | (refine wpList_load_H rfl rfl H rfl (by repeat constructor) ?_) | (refine wpList_loads_H rfl rfl H rfl (by repeat constructor) ?_))
        | ((with_reducible refine at_store ?_); first | (refine wpList_store_H rfl rfl H rfl rfl (by repeat constructor) ?_; clear H; intro w H)))
      go_ret
      exact ⟨rfl, H.below⟩
    · have CR : Hid (canRunM y1.m = false) := Lib.hid hfx.1
      have HAL : Hid (y1.halted = true) := Lib.hid hfx.2
      clear hfx
      refine wp_cut (fun u a' w' => ∃ (g1 g2 : GV), Hid True ∧ Hp W0 w' [.int p] ∧ a' = puts u [(183, (.bool true)), (184, (.bool true)), (185, undef), (186, undef), (187, undef), (188, (.bool true)), (189, (.bool true)), (190, (.bool true)), (191, (.bool false)), (192, (.bool false)), (193, (.pointer (some ⟨b6, 1, none⟩))), (194, (.slice d1.gs.A d1.gs.xs.length d1.gs.c)), (195, (.int .i64 (k : Int))), (196, (.pointer (some ⟨ablk d1.gs.A, aoff d1.gs.A + k * 15, none⟩))), (197, y1.val), (198, (.bool false)), (199, (.bool false)), (200, (.bool false)), (201, (.pointer (some ⟨b6, 1, none⟩))), (202, (.slice d1.gs.A d1.gs.xs.length d1.gs.c)), (203, (.int .i64 (k : Int))), (204, (.pointer (some ⟨ablk d1.gs.A, aoff d1.gs.A + k * 15, none⟩))), (205, (.pointer (some ⟨ablk d1.gs.A, aoff d1.gs.A + k * 15 + 13, none⟩))), (206, (.bool y1.halted)), (207, (.bool true)), (208, (.bool true)), (209, (.bool true)), (210, (.bool false)), (211, (.bool true)), (212, (.bool true)), (213, (.bool true)), (214, (.bool true)), (215, (.bool true)), (216, (.bool true)), (217, tw.val), (218, g1.val), (219, (.int .i64 g1.a)), (220, (.slice p.A p.xs.length p.c)), (221, (.pointer (some ⟨ablk p.A, aoff p.A + 0 * 1, none⟩))), (222, (.int .i64 p0)), (223, (.int .i64 a)), (224, (.bool true)), (225, (.bool true)), (226, (.bool true)), (227, tw.val), (228, g2.val), (229, (.int .i64 g2.pc)), (230, (.bool true)), (231, (.bool true)), (2, (.bool true))]) ?_ ?_
      · refine wp_region_held (S := (fun w' => Rw w' b3 28 (barr xb) ∧ (Rw w' b6 28 (barr d1) ∧ (Rw w' b35 28 (barr tw) ∧ ((Rd GV.cells 15 w' d1.gs ∧ Rd icell 1 w' p)))))) (by kernel_rfl) ?_
        replace H := H.drew
        refine tkH (i := 0) rfl .here (yields_val (v := (.bool true)) rfl (fun _ => by go_simp)) ⟨H.rw_ (by repeat constructor), H.rw_ (by repeat constructor), H.rw_ (by repeat constructor), (H.brd (b := d1) (by repeat constructor)).gs, H.rd (s := p) (by repeat constructor) int_len⟩ ?_
        (try go_frame)
        refine tkH (i := 1) rfl (.of rfl) (yields_val (v := (.bool true)) rfl (fun _ => by go_simp)) ⟨H.rw_ (by repeat constructor), H.rw_ (by repeat constructor), H.rw_ (by repeat constructor), (H.brd (b := d1) (by repeat constructor)).gs, H.rd (s := p) (by repeat constructor) int_len⟩ ?_
        (try go_frame)
        refine tkH (i := 2) rfl (.of rfl) (.inr ⟨rfl, rfl⟩) ⟨H.rw_ (by repeat constructor), H.rw_ (by repeat constructor), H.rw_ (by repeat constructor), (H.brd (b := d1) (by repeat constructor)).gs, H.rd (s := p) (by repeat constructor) int_len⟩ ?_
        (try go_frame)
        refine tkH (i := 3) rfl (.of rfl) (.inr ⟨rfl, rfl⟩) ⟨H.rw_ (by repeat constructor), H.rw_ (by repeat constructor), H.rw_ (by repeat constructor), (H.brd (b := d1) (by repeat constructor)).gs, H.rd (s := p) (by repeat constructor) int_len⟩ ?_
        (try go_frame)
        refine tkH (i := 4) rfl (.of rfl) (.inr ⟨rfl, rfl⟩) ⟨H.rw_ (by repeat constructor), H.rw_ (by repeat constructor), H.rw_ (by repeat constructor), (H.brd (b := d1) (by repeat constructor)).gs, H.rd (s := p) (by repeat constructor) int_len⟩ ?_
        (try go_frame)
        refine tkH (i := 5) rfl (.of rfl) (yields_val (v := (.bool true)) rfl (fun _ => by go_simp)) ⟨H.rw_ (by repeat constructor), H.rw_ (by repeat constructor), H.rw_ (by repeat constructor), (H.brd (b := d1) (by repeat constructor)).gs, H.rd (s := p) (by repeat constructor) int_len⟩ ?_
        (try go_frame)
        refine tkH (i := 6) rfl (.of rfl) (yields_val (v := (.bool true)) rfl (fun _ => by go_simp)) ⟨H.rw_ (by repeat constructor), H.rw_ (by repeat constructor), H.rw_ (by repeat constructor), (H.brd (b := d1) (by repeat constructor)).gs, H.rd (s := p) (by repeat constructor) int_len⟩ ?_
        (try go_frame)
        refine tkH (i := 7) rfl (.of rfl) (yields_val (v := (.bool true)) rfl (fun _ => by go_simp)) ⟨H.rw_ (by repeat constructor), H.rw_ (by repeat constructor), H.rw_ (by repeat constructor), (H.brd (b := d1) (by repeat constructor)).gs, H.rd (s := p) (by repeat constructor) int_len⟩ ?_
        (try go_frame)
        refine tkH (i := 8) rfl (.of rfl) (yields_val (v := (.bool false)) rfl (fun _ => by go_simp)) ⟨H.rw_ (by repeat constructor), H.rw_ (by repeat constructor), H.rw_ (by repeat constructor), (H.brd (b := d1) (by repeat constructor)).gs, H.rd (s := p) (by repeat constructor) int_len⟩ ?_
        (try go_frame)
        refine tkH (i := 9) rfl (.of rfl) (yields_val (v := (.bool false)) rfl (fun _ => by go_simp)) ⟨H.rw_ (by repeat constructor), H.rw_ (by repeat constructor), H.rw_ (by repeat constructor), (H.brd (b := d1) (by repeat constructor)).gs, H.rd (s := p) (by repeat constructor) int_len⟩ ?_
        (try go_frame)
        refine tkH (i := 10) rfl (.of rfl) (yields_val (v := (.pointer (some ⟨b6, 1, none⟩))) rfl (fun _ => by go_simp)) ⟨H.rw_ (by repeat constructor), H.rw_ (by repeat constructor), H.rw_ (by repeat constructor), (H.brd (b := d1) (by repeat constructor)).gs, H.rd (s := p) (by repeat constructor) int_len⟩ ?_
        (try go_frame)
        refine tkH (i := 11) rfl (.of rfl) (yields_load1_R rfl rfl rfl (fun _ hS => hS.2.1) rfl) ⟨H.rw_ (by repeat constructor), H.rw_ (by repeat constructor), H.rw_ (by repeat constructor), (H.brd (b := d1) (by repeat constructor)).gs, H.rd (s := p) (by repeat constructor) int_len⟩ ?_
        (try go_frame)
        refine tkH (i := 12) rfl (.of rfl) (yields_val (v := (.int .i64 (k : Int))) rfl (fun _ => by go_simp)) ⟨H.rw_ (by repeat constructor), H.rw_ (by repeat constructor), H.rw_ (by repeat constructor), (H.brd (b := d1) (by repeat constructor)).gs, H.rd (s := p) (by repeat constructor) int_len⟩ ?_
        (try go_frame)
        refine tkH (i := 13) rfl (.of rfl) (yields_index_n rfl rfl (k := k) d1.gs (fun _ hS => hS.2.2.2.1) rfl rfl rfl hk) ⟨H.rw_ (by repeat constructor), H.rw_ (by repeat constructor), H.rw_ (by repeat constructor), (H.brd (b := d1) (by repeat constructor)).gs, H.rd (s := p) (by repeat constructor) int_len⟩ ?_
        (try go_frame)
        refine tkH (i := 14) rfl (.of rfl) (yields_loads_rdd rfl rfl d1.gs (fun _ hS => hS.2.2.2.1) rfl y1 HY1.out (by first | exact rfl | exact (Nat.add_zero _).symm) (by repeat constructor)) ⟨H.rw_ (by repeat constructor), H.rw_ (by repeat constructor), H.rw_ (by repeat constructor), (H.brd (b := d1) (by repeat constructor)).gs, H.rd (s := p) (by repeat constructor) int_len⟩ ?_
        (try go_frame)
        refine anyH_1 (i := 15) (by kernel_rfl) ?_
        refine wpOp_at rfl (.of rfl) rfl ?_
        refine wp_call_H Tryz.f25 rfl rfl Tryz.func25 (by kernel_rfl) rfl rfl (val_eqD (v' := .bool false) (val_H H ((specCanRun_any y1 _).mono fun _ _ ⟨h, b⟩ => ⟨h, Hp.of_below b⟩)) (by rw [CR.out])) ?_
        clear H
        rintro _ w ⟨rfl, H⟩
        refine ⟨⟨H.rw_ (by repeat constructor), H.rw_ (by repeat constructor), H.rw_ (by repeat constructor), (H.brd (b := d1) (by repeat constructor)).gs, H.rd (s := p) (by repeat constructor) int_len⟩, ?_⟩
        (try go_frame)
        refine tkH (i := 16) rfl (.of rfl) (yields_val (v := (.bool false)) rfl (fun _ => by go_simp)) ⟨H.rw_ (by repeat constructor), H.rw_ (by repeat constructor), H.rw_ (by repeat constructor), (H.brd (b := d1) (by repeat constructor)).gs, H.rd (s := p) (by repeat constructor) int_len⟩ ?_
        (try go_frame)
        refine tkH (i := 17) rfl (.of rfl) (yields_val (v := (.bool false)) rfl (fun _ => by go_simp)) ⟨H.rw_ (by repeat constructor), H.rw_ (by repeat constructor), H.rw_ (by repeat constructor), (H.brd (b := d1) (by repeat constructor)).gs, H.rd (s := p) (by repeat constructor) int_len⟩ ?_
        (try go_frame)
        refine tkH (i := 18) rfl (.of rfl) (yields_val (v := (.pointer (some ⟨b6, 1, none⟩))) rfl (fun _ => by go_simp)) ⟨H.rw_ (by repeat constructor), H.rw_ (by repeat constructor), H.rw_ (by repeat constructor), (H.brd (b := d1) (by repeat constructor)).gs, H.rd (s := p) (by repeat constructor) int_len⟩ ?_
        (try go_frame)
        refine tkH (i := 19) rfl (.of rfl) (yields_load1_R rfl rfl rfl (fun _ hS => hS.2.1) rfl) ⟨H.rw_ (by repeat constructor), H.rw_ (by repeat constructor), H.rw_ (by repeat constructor), (H.brd (b := d1) (by repeat constructor)).gs, H.rd (s := p) (by repeat constructor) int_len⟩ ?_
        (try go_frame)
        refine tkH (i := 20) rfl (.of rfl) (yields_val (v := (.int .i64 (k : Int))) rfl (fun _ => by go_simp)) ⟨H.rw_ (by repeat constructor), H.rw_ (by repeat constructor), H.rw_ (by repeat constructor), (H.brd (b := d1) (by repeat constructor)).gs, H.rd (s := p) (by repeat constructor) int_len⟩ ?_
        (try go_frame)
        refine tkH (i := 21) rfl (.of rfl) (yields_index_n rfl rfl (k := k) d1.gs (fun _ hS => hS.2.2.2.1) rfl rfl rfl hk) ⟨H.rw_ (by repeat constructor), H.rw_ (by repeat constructor), H.rw_ (by repeat constructor), (H.brd (b := d1) (by repeat constructor)).gs, H.rd (s := p) (by repeat constructor) int_len⟩ ?_
        (try go_frame)
        refine tkH (i := 22) rfl (.of rfl) (yields_val (v := (.pointer (some ⟨ablk d1.gs.A, aoff d1.gs.A + k * 15 + 13, none⟩))) rfl (fun _ => by go_simp)) ⟨H.rw_ (by repeat constructor), H.rw_ (by repeat constructor), H.rw_ (by repeat constructor), (H.brd (b := d1) (by repeat constructor)).gs, H.rd (s := p) (by repeat constructor) int_len⟩ ?_
        (try go_frame)
        refine tkH (i := 23) rfl (.of rfl) (yields_load_rd rfl rfl d1.gs (fun _ hS => hS.2.2.2.1) rfl y1 HY1.out (by first | exact rfl | exact (Nat.add_zero _).symm) rfl) ⟨H.rw_ (by repeat constructor), H.rw_ (by repeat constructor), H.rw_ (by repeat constructor), (H.brd (b := d1) (by repeat constructor)).gs, H.rd (s := p) (by repeat constructor) int_len⟩ ?_
        (try go_frame)
        refine tkH (i := 24) rfl (.of rfl) (yields_val (v := (.bool true)) rfl (fun _ => by (first | (go_simp; done) | (go_simp; rw [HAL.out]) | (rw [← HAL.out]; go_simp; done) | (go_simp; omega) | (go_simp; simpa using HAL.out)))) ⟨H.rw_ (by repeat constructor), H.rw_ (by repeat constructor), H.rw_ (by repeat constructor), (H.brd (b := d1) (by repeat constructor)).gs, H.rd (s := p) (by repeat constructor) int_len⟩ ?_
        (try go_frame)
        refine tkH (i := 25) rfl (.of rfl) (yields_val (v := (.bool true)) rfl (fun _ => by go_simp)) ⟨H.rw_ (by repeat constructor), H.rw_ (by repeat constructor), H.rw_ (by repeat constructor), (H.brd (b := d1) (by repeat constructor)).gs, H.rd (s := p) (by repeat constructor) int_len⟩ ?_
        (try go_frame)
        refine tkH (i := 26) rfl (.of rfl) (yields_val (v := (.bool true)) rfl (fun _ => by go_simp)) ⟨H.rw_ (by repeat constructor), H.rw_ (by repeat constructor), H.rw_ (by repeat constructor), (H.brd (b := d1) (by repeat constructor)).gs, H.rd (s := p) (by repeat constructor) int_len⟩ ?_
        (try go_frame)
        refine tkH (i := 27) rfl (.of rfl) (yields_val (v := (.bool false)) rfl (fun _ => by go_simp)) ⟨H.rw_ (by repeat constructor), H.rw_ (by repeat constructor), H.rw_ (by repeat constructor), (H.brd (b := d1) (by repeat constructor)).gs, H.rd (s := p) (by repeat constructor) int_len⟩ ?_
        (try go_frame)
        refine tkH (i := 28) rfl (.of rfl) (yields_val (v := (.bool true)) rfl (fun _ => by go_simp)) ⟨H.rw_ (by repeat constructor), H.rw_ (by repeat constructor), H.rw_ (by repeat constructor), (H.brd (b := d1) (by repeat constructor)).gs, H.rd (s := p) (by repeat constructor) int_len⟩ ?_
        (try go_frame)
        refine tkH (i := 29) rfl (.of rfl) (yields_val (v := (.bool true)) rfl (fun _ => by go_simp)) ⟨H.rw_ (by repeat constructor), H.rw_ (by repeat constructor), H.rw_ (by repeat constructor), (H.brd (b := d1) (by repeat constructor)).gs, H.rd (s := p) (by repeat constructor) int_len⟩ ?_
        (try go_frame)
        refine tkH (i := 30) rfl (.of rfl) (yields_val (v := (.bool true)) rfl (fun _ => by go_simp)) ⟨H.rw_ (by repeat constructor), H.rw_ (by repeat constructor), H.rw_ (by repeat constructor), (H.brd (b := d1) (by repeat constructor)).gs, H.rd (s := p) (by repeat constructor) int_len⟩ ?_
        (try go_frame)
        refine tkH (i := 31) rfl (.of rfl) (yields_val (v := (.bool true)) rfl (fun _ => by go_simp)) ⟨H.rw_ (by repeat constructor), H.rw_ (by repeat constructor), H.rw_ (by repeat constructor), (H.brd (b := d1) (by repeat constructor)).gs, H.rd (s := p) (by repeat constructor) int_len⟩ ?_
        (try go_frame)
        refine tkH (i := 32) rfl (.of rfl) (yields_val (v := (.bool true)) rfl (fun _ => by go_simp)) ⟨H.rw_ (by repeat constructor), H.rw_ (by repeat constructor), H.rw_ (by repeat constructor), (H.brd (b := d1) (by repeat constructor)).gs, H.rd (s := p) (by repeat constructor) int_len⟩ ?_
        (try go_frame)
        refine tkH (i := 33) rfl (.of rfl) (yields_val (v := (.bool true)) rfl (fun _ => by go_simp)) ⟨H.rw_ (by repeat constructor), H.rw_ (by repeat constructor), H.rw_ (by repeat constructor), (H.brd (b := d1) (by repeat constructor)).gs, H.rd (s := p) (by repeat constructor) int_len⟩ ?_
        (try go_frame)
        refine tkH (i := 34) rfl (.of rfl) (yields_loads_R rfl rfl rfl (fun _ hS => hS.2.2.1) (by repeat constructor)) ⟨H.rw_ (by repeat constructor), H.rw_ (by repeat constructor), H.rw_ (by repeat constructor), (H.brd (b := d1) (by repeat constructor)).gs, H.rd (s := p) (by repeat constructor) int_len⟩ ?_
        (try go_frame)
        refine tkH (i := 37) rfl (.of rfl) (yields_val (v := (.slice p.A p.xs.length p.c)) rfl (fun _ => by go_simp)) ⟨H.rw_ (by repeat constructor), H.rw_ (by repeat constructor), H.rw_ (by repeat constructor), (H.brd (b := d1) (by repeat constructor)).gs, H.rd (s := p) (by repeat constructor) int_len⟩ ?_
        (try go_frame)
        refine tkH (i := 38) rfl (.of rfl) (yields_index_n rfl rfl (k := 0) p (fun _ hS => hS.2.2.2.2) rfl rfl rfl hp0) ⟨H.rw_ (by repeat constructor), H.rw_ (by repeat constructor), H.rw_ (by repeat constructor), (H.brd (b := d1) (by repeat constructor)).gs, H.rd (s := p) (by repeat constructor) int_len⟩ ?_
        (try go_frame)
        refine tkH (i := 39) rfl (.of rfl) (yields_load_rd rfl rfl p (fun _ hS => hS.2.2.2.2) rfl p0 HP0.out (by first | exact rfl | exact (Nat.add_zero _).symm) rfl) ⟨H.rw_ (by repeat constructor), H.rw_ (by repeat constructor), H.rw_ (by repeat constructor), (H.brd (b := d1) (by repeat constructor)).gs, H.rd (s := p) (by repeat constructor) int_len⟩ ?_
        (try go_frame)
        refine tkH (i := 40) rfl (.of rfl) (yields_val (v := (.int .i64 a)) rfl (fun _ => by (first | (go_simp; done) | (go_simp; rw [Ea.out]) | (rw [← Ea.out]; go_simp; done) | (go_simp; omega) | (go_simp; simpa using Ea.out)))) ⟨H.rw_ (by repeat constructor), H.rw_ (by repeat constructor), H.rw_ (by repeat constructor), (H.brd (b := d1) (by repeat constructor)).gs, H.rd (s := p) (by repeat constructor) int_len⟩ ?_
        (try go_frame)
        refine anyH_1 (i := 35) (by kernel_rfl) ?_
        refine wpOp_at rfl (.of rfl) rfl ?_
        refine wp_call_H Tryz.f26 rfl rfl Tryz.func26 (by kernel_rfl) rfl rfl (made_H (val := fun d : GV => d.val) H (guestOfD_c tw 0 _ (H.brd (b := tw) (by repeat constructor)) Ztw)) ?_
        clear H
        rintro _ w ⟨g1, rfl, Hg1, H⟩
        have Gg1 : Hid ((g1.a == a) = true) := Lib.hid (by have h := congrArg MG.a Hg1.out; rw [HTW.out, Q5.out] at h; have h2 : g1.a = a := h; rw [h2]; simp)
        refine ⟨⟨H.rw_ (by repeat constructor), H.rw_ (by repeat constructor), H.rw_ (by repeat constructor), (H.brd (b := d1) (by repeat constructor)).gs, H.rd (s := p) (by repeat constructor) int_len⟩, ?_⟩
        (try go_frame)
        refine tkH (i := 36) rfl (.of rfl) (yields_val (v := (.int .i64 g1.a)) rfl (fun _ => by go_simp)) ⟨H.rw_ (by repeat constructor), H.rw_ (by repeat constructor), H.rw_ (by repeat constructor), (H.brd (b := d1) (by repeat constructor)).gs, H.rd (s := p) (by repeat constructor) int_len⟩ ?_
        (try go_frame)
        refine tkH (i := 41) rfl (.of rfl) (yields_val (v := (.bool true)) rfl (fun _ => by (first | (go_simp; done) | (go_simp; rw [Gg1.out]) | (rw [← Gg1.out]; go_simp; done) | (go_simp; omega) | (go_simp; simpa using Gg1.out)))) ⟨H.rw_ (by repeat constructor), H.rw_ (by repeat constructor), H.rw_ (by repeat constructor), (H.brd (b := d1) (by repeat constructor)).gs, H.rd (s := p) (by repeat constructor) int_len⟩ ?_
        (try go_frame)
        refine tkH (i := 42) rfl (.of rfl) (yields_val (v := (.bool true)) rfl (fun _ => by go_simp)) ⟨H.rw_ (by repeat constructor), H.rw_ (by repeat constructor), H.rw_ (by repeat constructor), (H.brd (b := d1) (by repeat constructor)).gs, H.rd (s := p) (by repeat constructor) int_len⟩ ?_
        (try go_frame)
        refine tkH (i := 43) rfl (.of rfl) (yields_val (v := (.bool true)) rfl (fun _ => by go_simp)) ⟨H.rw_ (by repeat constructor), H.rw_ (by repeat constructor), H.rw_ (by repeat constructor), (H.brd (b := d1) (by repeat constructor)).gs, H.rd (s := p) (by repeat constructor) int_len⟩ ?_
        (try go_frame)
        refine tkH (i := 44) rfl (.of rfl) (yields_loads_R rfl rfl rfl (fun _ hS => hS.2.2.1) (by repeat constructor)) ⟨H.rw_ (by repeat constructor), H.rw_ (by repeat constructor), H.rw_ (by repeat constructor), (H.brd (b := d1) (by repeat constructor)).gs, H.rd (s := p) (by repeat constructor) int_len⟩ ?_
        (try go_frame)
        refine anyH_1 (i := 45) (by kernel_rfl) ?_
        refine wpOp_at rfl (.of rfl) rfl ?_
        refine wp_call_H Tryz.f26 rfl rfl Tryz.func26 (by kernel_rfl) rfl rfl (made_H (val := fun d : GV => d.val) H (guestOfD_c tw 0 _ (H.brd (b := tw) (by repeat constructor)) Ztw)) ?_
        clear H
        rintro _ w ⟨g2, rfl, Hg2, H⟩
        have Gg2 : Hid ((g2.pc == 1) = true) := Lib.hid (by have h := congrArg MG.pc Hg2.out; rw [HTW.out, Q6.out] at h; have h2 : g2.pc = 1 := h; rw [h2]; simp)
        refine ⟨⟨H.rw_ (by repeat constructor), H.rw_ (by repeat constructor), H.rw_ (by repeat constructor), (H.brd (b := d1) (by repeat constructor)).gs, H.rd (s := p) (by repeat constructor) int_len⟩, ?_⟩
        (try go_frame)
        refine tkH (i := 46) rfl (.of rfl) (yields_val (v := (.int .i64 g2.pc)) rfl (fun _ => by go_simp)) ⟨H.rw_ (by repeat constructor), H.rw_ (by repeat constructor), H.rw_ (by repeat constructor), (H.brd (b := d1) (by repeat constructor)).gs, H.rd (s := p) (by repeat constructor) int_len⟩ ?_
        (try go_frame)
        refine tkH (i := 47) rfl (.of rfl) (yields_val (v := (.bool true)) rfl (fun _ => by (first | (go_simp; done) | (go_simp; rw [Gg2.out]) | (rw [← Gg2.out]; go_simp; done) | (go_simp; omega) | (go_simp; simpa using Gg2.out)))) ⟨H.rw_ (by repeat constructor), H.rw_ (by repeat constructor), H.rw_ (by repeat constructor), (H.brd (b := d1) (by repeat constructor)).gs, H.rd (s := p) (by repeat constructor) int_len⟩ ?_
        (try go_frame)
        refine tkH (i := 48) rfl (.of rfl) (yields_val (v := (.bool true)) rfl (fun _ => by go_simp)) ⟨H.rw_ (by repeat constructor), H.rw_ (by repeat constructor), H.rw_ (by repeat constructor), (H.brd (b := d1) (by repeat constructor)).gs, H.rd (s := p) (by repeat constructor) int_len⟩ ?_
        (try go_frame)
        refine tkH (i := 49) rfl (.of rfl) (yields_val (v := (.bool true)) rfl (fun _ => by go_simp)) ⟨H.rw_ (by repeat constructor), H.rw_ (by repeat constructor), H.rw_ (by repeat constructor), (H.brd (b := d1) (by repeat constructor)).gs, H.rd (s := p) (by repeat constructor) int_len⟩ ?_
        (try go_frame)
        refine wpAnyH_done (by kernel_rfl) ?_ _
        exact ⟨rfl, g1, g2, Lib.hid trivial, H.pick (.cons (by repeat constructor) .nil), by first | (simp only [puts_cons, puts_nil, Act.put, List.setIfInBounds_toArray, List.set_cons_succ, List.set_cons_zero]; done) | (simp only [puts_cons, puts_nil, Act.put, List.setIfInBounds_toArray, List.set_cons_succ, List.set_cons_zero]; rfl)⟩
      clear H
      rintro u w ⟨g1, g2, _, H, rfl⟩
      simp only [puts_cons, puts_nil, Act.put, List.setIfInBounds_toArray, List.set_cons_succ, List.set_cons_zero]
      go_wp2_with (first
        | go_skip
        | ((with_reducible refine at_box ?_); first | (refine wpList_box_H rfl rfl H rfl (by constructor) ?_; clear H; intro bQ w H))
        | ((with_reducible refine at_alloc ?_); first | (refine wpList_alloc_H rfl rfl H ?_; clear H; intro bQ w H))
        | ((with_reducible refine at_load ?_); first | (refine wpList_load_H rfl rfl H rfl (by repeat constructor) ?_) | (refine wpList_loads_H rfl rfl H rfl (by repeat constructor) ?_))
        | ((with_reducible refine at_store ?_); first | (refine wpList_store_H rfl rfl H rfl rfl (by repeat constructor) ?_; clear H; intro w H)))
      go_ret
      exact ⟨rfl, H.below⟩
end Go.Proofs.YtaafnenmdombiaaGreat
