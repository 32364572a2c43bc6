/- Walk of the law FnRuling. No condition but that the argument lies in memory. -/
import Derived.Maps.RangeWalk
import Derived.Test.YtaafnenmdombiaaGreatDf
import Derived.Test.YtaafnenmdombiaaGreatSb
import Derived.Test.YtaafnenmdombiaaGreatBzb
import Derived.Test.YtaafnenmdombiaaGreatBn
import Derived.Test.YtaafnenmdombiaaGreatRul
namespace Go.Proofs.YtaafnenmdombiaaGreat
set_option linter.unusedSimpArgs false
set_option linter.unusedVariables false
open Go.RowKit
attribute [local go_sem ↓] Go.wp_at_zero Go.wp_at_succ
@[go_sem] theorem run_field_bare1 (v0 v1 v2 v3 : Value) (w : World) : (Instr.field 28 (.agg #[v0, v1, v2, v3]) 1).run Tryz.prog w = .ok v1 w := by kernel_rfl
theorem val_eqD {P : Program} {f : FuncId} {args : Array Value} {w0 w : World} {L : List En} {v v' : Value} (h : Calls P f args w (fun e w' => ∃ u, e = .returned u ∧ (u = v ∧ Hp w0 w' L))) (e : v = v') : Calls P f args w (fun e w' => ∃ u, e = .returned u ∧ (u = v' ∧ Hp w0 w' L)) := e ▸ h
theorem bbig_D {d : BV} {m : MB} (e : Hid (d.m = m)) (h : m.size ≤ 4194304) : BBig d := by have := e.out; unfold BBig; rw [this]; exact h
theorem wgD_size (m : MB) (g : Int) (x : MG) : (withGuestM m g x).size ≤ m.size + x.size := by
  unfold withGuestM; split
  · have h : ∀ (l : List MG) (k : Nat), ((l.set k x).map MG.size).sum ≤ (l.map MG.size).sum + x.size := by
      intro l
      induction l with
      | nil => intro k; simp
      | cons y l ih => intro k; cases k with
        | zero => simp; omega
        | succ k => have := ih k; simp only [List.set_cons_succ, List.map_cons, List.sum_cons]; omega
    have h1 := h m.guests g.toNat
    unfold MB.size gsSize
    simp only [List.length_set]
    omega
  · omega
@[go_sem] theorem run_field_gst4 (v0 v1 v2 v3 v4 v5 v6 v7 v8 v9 v10 v11 v12 v13 v14 : Value) (w : World) : (Instr.field 53 (.agg #[v0, v1, v2, v3, v4, v5, v6, v7, v8, v9, v10, v11, v12, v13, v14]) 4).run Tryz.prog w = .ok v4 w := by kernel_rfl
section
variable {P : Program} {ops : Array Oper} {S : World → Prop} {o : Oper} {a : Act} {α : Type} {enc : α → List Value} {sz : Nat}
theorem yields_loads_rdd (hw : Region.wanted o (yielded ops a.tmps) = true) {ty : TypeId} {x : Operand} (ho : o.op = .load ty x) (s : Sl α) (hR : ∀ w, S w → Rd enc sz w s) {q : Nat} (hx : a.eval x = .pointer (some ⟨ablk s.A, q, none⟩)) {n : Nat} [hT : TyA P ty n] {k : Nat} (y : α) (hk : s.xs[k]? = some y) {j : Nat} (hq : q = aoff s.A + k * sz + j) {vs : List Value} (hv : GetsAt (enc y) j n vs) :
    YieldsIf P ops S o (.agg vs.toArray) a := by
  subst hq
  refine .inl ⟨hw, fun w hS => ?_⟩
  have hr : (Instr.loadAt ty (a.eval x)).run P w = .ok (.agg vs.toArray) w := by rw [hx]; exact run_loads_rd (hR w hS) hT hk hv
  unfold execOp
  simp only [ho, Sem.run_bind, Sem.run_pure, Result.andThen_ok, hr]
end
theorem ch_sizeD (m : MB) (g : Int) (c : Bool) (F : MG → MG) (h : (F (gAtM m g)).size ≤ (gAtM m g).size) (hm : m.size ≤ 1000) : (changedM m g c F).size ≤ 4194304 := by
  unfold changedM; split
  · have h1 := wgD_size m g (F (gAtM m g)); have h2 := gAtM_size m g; omega
  · omega
@[go_sem] theorem run_field_gst1 (v0 v1 v2 v3 v4 v5 v6 v7 v8 v9 v10 v11 v12 v13 v14 : Value) (w : World) : (Instr.field 53 (.agg #[v0, v1, v2, v3, v4, v5, v6, v7, v8, v9, v10, v11, v12, v13, v14]) 1).run Tryz.prog w = .ok v1 w := by kernel_rfl
@[go_sem] theorem run_field_gst2 (v0 v1 v2 v3 v4 v5 v6 v7 v8 v9 v10 v11 v12 v13 v14 : Value) (w : World) : (Instr.field 53 (.agg #[v0, v1, v2, v3, v4, v5, v6, v7, v8, v9, v10, v11, v12, v13, v14]) 2).run Tryz.prog w = .ok v2 w := by kernel_rfl
set_option maxRecDepth 100000 in
set_option maxHeartbeats 4000000 in
theorem guestOfD_c (B : BV) (g : Int) (W0 : World) (R : BRd W0 B) (Z : BBig B) : Calls Tryz.prog 26 #[B.val, .int .i64 g] W0 fun e w' => ∃ d : GV, e = .returned d.val ∧ d.m = gAtM B.m g ∧ Hp W0 w' [.gst d] := by
  have H := Hp.start W0
  go_enter Tryz.func26, Tryz.ntmps26
  go_wp2_with (first
    | go_skip
    | ((with_reducible refine at_box ?_); first | (refine wpList_box_H rfl rfl H rfl (by constructor) ?_; clear H; intro bX w H))
    | ((with_reducible refine at_alloc ?_); first | (refine wpList_alloc_H rfl rfl H ?_; clear H; intro bA w H))
    | ((with_reducible refine at_load ?_); first | (refine wpList_load_H rfl rfl H rfl (by repeat constructor) ?_) | (refine wpList_loads_H rfl rfl H rfl (by repeat constructor) ?_))
    | ((with_reducible refine at_store ?_); first | (refine wpList_store_H rfl rfl H rfl rfl (by repeat constructor) ?_; clear H; intro w H))
    | (go_at_call 41; refine (specGuestAt_c B g _ (R.at_ H) Z).mono ?_; rintro e w ⟨d, rfl, x1, K⟩; have HD := Lib.hid x1; clear x1; replace H := H.add_all K; clear K))
  refine bodyPost_ret (results_H rfl H rfl (by repeat constructor)) rfl ⟨d, rfl, HD.out, H.pick (.cons (by repeat constructor) .nil)⟩
set_option maxRecDepth 100000 in
set_option maxHeartbeats 20000000 in
theorem walk_fnRuling (s : Sl Int) (W0 : World) (ra : Rd u8cell 1 W0 s ∧ s.xs.length ≤ maxLen) : Calls Tryz.prog 4 #[.slice s.A s.xs.length s.c] W0 fun e w' => e = .returned (.bool true) ∧ Below W0.heap.size W0 w' := by
  obtain ⟨R0, _⟩ := ra
  have R := R0
  have H := Hp.start W0
  by_cases hbig : 1048576 < s.xs.length
  · have hb : decide (1048576 < s.xs.length) = true := decide_eq_true hbig
    have HB := Lib.hid hb; clear hb
    go_enter Tryz.func4, Tryz.ntmps4
    go_wp2_with (first
      | go_skip
      | ((with_reducible refine at_box ?_); first | (refine wpList_box_H rfl rfl H rfl (by constructor) ?_; clear H; intro bQ w H))
      | ((with_reducible refine at_alloc ?_); first | (refine wpList_alloc_H rfl rfl H ?_; clear H; intro b w H))
      | ((with_reducible refine at_load ?_); first | (refine wpList_load_H rfl rfl H rfl (by repeat constructor) ?_) | (refine wpList_loads_H rfl rfl H rfl (by repeat constructor) ?_))
      | ((with_reducible refine at_store ?_); first | (refine wpList_store_H rfl rfl H rfl rfl (by repeat constructor) ?_; clear H; intro w H)))
    go_at_call 7
    refine (big_c s _).mono ?_
    rintro e w ⟨he, K⟩
    rw [HB.out] at he
    subst he
    replace H := H.add_all K
    clear K
    go_wp2_with (first
      | go_skip
      | ((with_reducible refine at_box ?_); first | (refine wpList_box_H rfl rfl H rfl (by constructor) ?_; clear H; intro bQ w H))
      | ((with_reducible refine at_alloc ?_); first | (refine wpList_alloc_H rfl rfl H ?_; clear H; intro b w H))
      | ((with_reducible refine at_load ?_); first | (refine wpList_load_H rfl rfl H rfl (by repeat constructor) ?_) | (refine wpList_loads_H rfl rfl H rfl (by repeat constructor) ?_))
      | ((with_reducible refine at_store ?_); first | (refine wpList_store_H rfl rfl H rfl rfl (by repeat constructor) ?_; clear H; intro w H)))
    go_ret
    exact ⟨rfl, H.below⟩
  have hb : decide (1048576 < s.xs.length) = false := decide_eq_false hbig
  have HB := Lib.hid hb; clear hb
  have Z : s.xs.length ≤ 1048576 := by omega
  clear hbig
  go_enter Tryz.func4, Tryz.ntmps4
  go_wp2_with (first
    | go_skip
    | ((with_reducible refine at_box ?_); first | (refine wpList_box_H rfl rfl H rfl (by constructor) ?_; clear H; intro bQ w H))
    | ((with_reducible refine at_alloc ?_); first | (refine wpList_alloc_H rfl rfl H ?_; clear H; intro b w H))
    | ((with_reducible refine at_load ?_); first | (refine wpList_load_H rfl rfl H rfl (by repeat constructor) ?_) | (refine wpList_loads_H rfl rfl H rfl (by repeat constructor) ?_))
    | ((with_reducible refine at_store ?_); first | (refine wpList_store_H rfl rfl H rfl rfl (by repeat constructor) ?_; clear H; intro w H)))
  go_at_call 7
  refine (big_c s _).mono ?_
  rintro e w ⟨he, K⟩
  rw [HB.out] at he
  subst he
  replace H := H.add_all K
  clear K
  clear R
  have R : Rd u8cell 1 W0 s ∧ s.xs.length ≤ 1048576 := ⟨R0, Z⟩
  clear R0 Z
  go_wp2_with (first
    | go_skip
    | ((with_reducible refine at_box ?_); first | (refine wpList_box_H rfl rfl H rfl (by constructor) ?_; clear H; intro bQ w H))
    | ((with_reducible refine at_alloc ?_); first | (refine wpList_alloc_H rfl rfl H ?_; clear H; intro b w H))
    | ((with_reducible refine at_load ?_); first | (refine wpList_load_H rfl rfl H rfl (by repeat constructor) ?_) | (refine wpList_loads_H rfl rfl H rfl (by repeat constructor) ?_))
    | ((with_reducible refine at_store ?_); first | (refine wpList_store_H rfl rfl H rfl rfl (by repeat constructor) ?_; clear H; intro w H)))
  go_at_call 27
  refine (drawBareSet_c s _ ⟨R.1.at_ H, R.2⟩).mono ?_
  rintro e w ⟨xb, Exb, g, p, c, rfl, hb, hs, K⟩
  replace H := H.add_all K
  clear K
  have HBxb : Hid (BDr Exb xb) := Lib.hid hb
  have Zxb : BBig xb := hb.2
  have HSxb := Lib.hid hs
  clear hb hs
  go_wp2_with (first
    | go_skip
    | ((with_reducible refine at_box ?_); first | (refine wpList_box_H rfl rfl H rfl (by constructor) ?_; clear H; intro bQ w H))
    | ((with_reducible refine at_alloc ?_); first | ((with_reducible refine at_dst 3 ?_); refine wpList_alloc_H rfl rfl H ?_; clear H; intro b3 w H) | ((with_reducible refine at_dst 6 ?_); refine wpList_alloc_H rfl rfl H ?_; clear H; intro b6 w H) | (refine wpList_alloc_H rfl rfl H ?_; clear H; intro bQ w H))
    | ((with_reducible refine at_load ?_); first | (refine wpList_load_H rfl rfl H rfl (by repeat constructor) ?_) | (refine wpList_loads_H rfl rfl H rfl (by repeat constructor) ?_))
    | ((with_reducible refine at_store ?_); first | (refine wpList_store_H rfl rfl H rfl rfl (by repeat constructor) ?_; clear H; intro w H)))
  go_at_call 28
  refine (bareSet_c xb g p c _ (HBxb.out.1 _ (H.get (e := Exb) (by repeat constructor))) Zxb).mono ?_
  rintro e w ⟨d1, rfl, hd1, K⟩
  have Hd1 := Lib.hid hd1; clear hd1
  replace H := H.add_all K
  clear K
  have Zd1 := bbig_D Hd1 (ch_sizeD _ _ _ _ (by rw [setG_size]; exact Nat.le_refl _) HSxb.out)
  go_wp2_with (first
    | go_skip
    | ((with_reducible refine at_box ?_); first | (refine wpList_box_H rfl rfl H rfl (by constructor) ?_; clear H; intro bQ w H))
    | ((with_reducible refine at_alloc ?_); first | ((with_reducible refine at_dst 7 ?_); refine wpList_alloc_H rfl rfl H ?_; clear H; intro b7 w H) | (refine wpList_alloc_H rfl rfl H ?_; clear H; intro bQ w H))
    | ((with_reducible refine at_load ?_); first | (refine wpList_load_H rfl rfl H rfl (by repeat constructor) ?_) | (refine wpList_loads_H rfl rfl H rfl (by repeat constructor) ?_))
    | ((with_reducible refine at_store ?_); first | (refine wpList_store_H rfl rfl H rfl rfl (by repeat constructor) ?_; clear H; intro w H)))
  go_at_call 29
  refine (specBareSet_c xb g p c _ (HBxb.out.1 _ (H.get (e := Exb) (by repeat constructor))) Zxb).mono ?_
  rintro e w ⟨w1, rfl, hw1, K⟩
  have Hw1 := Lib.hid hw1; clear hw1
  replace H := H.add_all K
  clear K
  have EQd1 : Hid ((d1.m == w1.m) = true) := Lib.hid (by rw [Hd1.out, Hw1.out] <;> simp)
  go_wp2_with (first
    | go_skip
    | ((with_reducible refine at_box ?_); first | (refine wpList_box_H rfl rfl H rfl (by constructor) ?_; clear H; intro bQ w H))
    | ((with_reducible refine at_alloc ?_); first | ((with_reducible refine at_dst 9 ?_); refine wpList_alloc_H rfl rfl H ?_; clear H; intro b9 w H) | (refine wpList_alloc_H rfl rfl H ?_; clear H; intro bQ w H))
    | ((with_reducible refine at_load ?_); first | (refine wpList_load_H rfl rfl H rfl (by repeat constructor) ?_) | (refine wpList_loads_H rfl rfl H rfl (by repeat constructor) ?_))
    | ((with_reducible refine at_store ?_); first | (refine wpList_store_H rfl rfl H rfl rfl (by repeat constructor) ?_; clear H; intro w H)))
  go_at_call 30
  refine (drawBareFlush_c s _ ⟨R.1.at_ H, R.2⟩).mono ?_
  rintro e w ⟨xc, Exc, hh, qq, rfl, hb, hs, K⟩
  replace H := H.add_all K
  clear K
  have HBxc : Hid (BDr Exc xc) := Lib.hid hb
  have Zxc : BBig xc := hb.2
  have HSxc := Lib.hid hs
  clear hb hs
  go_wp2_with (first
    | go_skip
    | ((with_reducible refine at_box ?_); first | (refine wpList_box_H rfl rfl H rfl (by constructor) ?_; clear H; intro bQ w H))
    | ((with_reducible refine at_alloc ?_); first | ((with_reducible refine at_dst 11 ?_); refine wpList_alloc_H rfl rfl H ?_; clear H; intro b11 w H) | (refine wpList_alloc_H rfl rfl H ?_; clear H; intro bQ w H))
    | ((with_reducible refine at_load ?_); first | (refine wpList_load_H rfl rfl H rfl (by repeat constructor) ?_) | (refine wpList_loads_H rfl rfl H rfl (by repeat constructor) ?_))
    | ((with_reducible refine at_store ?_); first | (refine wpList_store_H rfl rfl H rfl rfl (by repeat constructor) ?_; clear H; intro w H)))
  go_at_call 31
  refine (bareFlush_c xc hh qq _ (HBxc.out.1 _ (H.get (e := Exc) (by repeat constructor))) Zxc).mono ?_
  rintro e w ⟨d2, rfl, hd2, K⟩
  have Hd2 := Lib.hid hd2; clear hd2
  replace H := H.add_all K
  clear K
  have Zd2 := bbig_D Hd2 (ch_sizeD _ _ _ _ (by rw [flushG_size]; exact Nat.le_refl _) HSxc.out)
  go_wp2_with (first
    | go_skip
    | ((with_reducible refine at_box ?_); first | (refine wpList_box_H rfl rfl H rfl (by constructor) ?_; clear H; intro bQ w H))
    | ((with_reducible refine at_alloc ?_); first | ((with_reducible refine at_dst 14 ?_); refine wpList_alloc_H rfl rfl H ?_; clear H; intro b14 w H) | (refine wpList_alloc_H rfl rfl H ?_; clear H; intro bQ w H))
    | ((with_reducible refine at_load ?_); first | (refine wpList_load_H rfl rfl H rfl (by repeat constructor) ?_) | (refine wpList_loads_H rfl rfl H rfl (by repeat constructor) ?_))
    | ((with_reducible refine at_store ?_); first | (refine wpList_store_H rfl rfl H rfl rfl (by repeat constructor) ?_; clear H; intro w H)))
  go_at_call 32
  refine (specBareFlush_c xc hh qq _ (HBxc.out.1 _ (H.get (e := Exc) (by repeat constructor))) Zxc).mono ?_
  rintro e w ⟨w2, rfl, hw2, K⟩
  have Hw2 := Lib.hid hw2; clear hw2
  replace H := H.add_all K
  clear K
  have EQd2 : Hid ((d2.m == w2.m) = true) := Lib.hid (by rw [Hd2.out, Hw2.out] <;> simp)
  go_wp2_with (first
    | go_skip
    | ((with_reducible refine at_box ?_); first | (refine wpList_box_H rfl rfl H rfl (by constructor) ?_; clear H; intro bQ w H))
    | ((with_reducible refine at_alloc ?_); first | ((with_reducible refine at_dst 16 ?_); refine wpList_alloc_H rfl rfl H ?_; clear H; intro b16 w H) | (refine wpList_alloc_H rfl rfl H ?_; clear H; intro bQ w H))
    | ((with_reducible refine at_load ?_); first | (refine wpList_load_H rfl rfl H rfl (by repeat constructor) ?_) | (refine wpList_loads_H rfl rfl H rfl (by repeat constructor) ?_))
    | ((with_reducible refine at_store ?_); first | (refine wpList_store_H rfl rfl H rfl rfl (by repeat constructor) ?_; clear H; intro w H))
    | (go_at_call 20; ((with_reducible refine at_arg2 d1.val ?_); refine (lawBare_c d1 w1 _ (H.brd (b := d1) (by repeat constructor)) (H.brd (b := w1) (by repeat constructor)) Zd1).mono ?_; rintro e w ⟨he, K⟩; rw [EQd1.out] at he; subst he; replace H := H.add_all K; clear K))
    | (go_at_call 20; ((with_reducible refine at_arg2 d2.val ?_); refine (lawBare_c d2 w2 _ (H.brd (b := d2) (by repeat constructor)) (H.brd (b := w2) (by repeat constructor)) Zd2).mono ?_; rintro e w ⟨he, K⟩; rw [EQd2.out] at he; subst he; replace H := H.add_all K; clear K)))
  obtain ⟨ok, hok⟩ : ∃ ok, chOkM xb.m g (hasB p 4 && slotOkM 8 c) = ok := ⟨_, rfl⟩
  rw [hok]
  obtain ⟨did, hdid⟩ : ∃ did, chOkM xc.m hh (hasB qq 4) = did := ⟨_, rfl⟩
  rw [hdid]
  have HDID := Lib.hid hdid
  clear hdid
  obtain ⟨N0, hN0⟩ : ∃ m, m = ru0 := ⟨_, rfl⟩
  obtain ⟨N1, hN1⟩ : ∃ m, m = ru1 := ⟨_, rfl⟩
  obtain ⟨N2, hN2⟩ : ∃ m, m = ru2 := ⟨_, rfl⟩
  have hrf := ru_facts
  rw [← hN0, ← hN1, ← hN2] at hrf
  obtain ⟨z0, z1, z2, q3, q5⟩ := hrf
  have S0 := Lib.hid hN0
  have S1 : Hid (changedM N0 0 (hasB 1 4 && slotOkM 8 ⟨5, 3⟩) (setG 1 ⟨5, 3⟩) = N1) := Lib.hid (by rw [hN0, hN1]; rfl)
  have S2 : Hid (changedM N1 0 (hasB 1 4) (flushG 1) = N2) := Lib.hid (by rw [hN1, hN2]; rfl)
  have Q0 : Hid (N0.size ≤ 4194304) := Lib.hid (by omega)
  have Q1 : Hid (N1.size ≤ 4194304) := Lib.hid (by omega)
  have Q2 : Hid (N2.size ≤ 4194304) := Lib.hid (by omega)
  have Q3 := Lib.hid q3
  have Q5 := Lib.hid q5
  clear hN0 hN1 hN2 z0 z1 z2 q3 q5
  refine wp_cut (fun u a' w' => ∃ (v89 : Value) (v90 : Value) (v91 : Value) (v92 : Value) (v93 : Value) (v94 : Value) (v95 : Value) (v96 : Value) (v97 : Value) (v98 : Value) (v99 : Value) (v100 : Value) (v101 : Value) (v102 : Value) (v103 : Value) (v104 : Value) (v105 : Value) (v106 : Value) (v107 : Value) (v108 : Value) (v109 : Value) (v110 : Value) (v111 : Value) (v112 : Value) (v113 : Value) (v114 : Value) (v115 : Value) (v116 : Value) (v117 : Value), Hid True ∧ Hp W0 w' [.box b11 28 (barr xc).toList, .box b14 28 (barr d2).toList, .bare d2, Exc] ∧ a' = puts u [(89, v89), (90, v90), (91, v91), (92, v92), (93, v93), (94, v94), (95, v95), (96, v96), (97, v97), (98, v98), (99, v99), (100, v100), (101, v101), (102, v102), (103, v103), (104, v104), (105, v105), (106, v106), (107, v107), (108, v108), (109, v109), (110, v110), (111, v111), (112, v112), (113, v113), (114, v114), (115, v115), (116, v116), (117, v117), (118, ((.bool false)))]) ?_ ?_
  · cases ok
    · skip
      clear hok
      refine wp_region_held (S := (fun w' => Rw w' b3 28 (barr xb) ∧ (Rw w' b6 56 #[.int .i64 c.page, .int .i64 c.rights] ∧ (Rw w' b7 28 (barr d1))))) (by kernel_rfl) ?_
      replace H := H.drew
      refine tkH (i := 0) rfl .here (yields_val (v := (.bool false)) rfl (fun _ => by go_simp)) ⟨H.rw_ (by repeat constructor), H.rw_ (by repeat constructor), H.rw_ (by repeat constructor)⟩ ?_
      (try go_frame)
      refine tkH (i := 1) rfl (.of rfl) (yields_val (v := (.bool false)) rfl (fun _ => by go_simp)) ⟨H.rw_ (by repeat constructor), H.rw_ (by repeat constructor), H.rw_ (by repeat constructor)⟩ ?_
      (try go_frame)
      refine tkH (i := 2) rfl (.of rfl) (.inr ⟨rfl, rfl⟩) ⟨H.rw_ (by repeat constructor), H.rw_ (by repeat constructor), H.rw_ (by repeat constructor)⟩ ?_
      (try go_frame)
      refine tkH (i := 3) rfl (.of rfl) (.inr ⟨rfl, rfl⟩) ⟨H.rw_ (by repeat constructor), H.rw_ (by repeat constructor), H.rw_ (by repeat constructor)⟩ ?_
      (try go_frame)
      refine tkH (i := 4) rfl (.of rfl) (.inr ⟨rfl, rfl⟩) ⟨H.rw_ (by repeat constructor), H.rw_ (by repeat constructor), H.rw_ (by repeat constructor)⟩ ?_
      (try go_frame)
      refine tkH (i := 5) rfl (.of rfl) (.inr ⟨rfl, rfl⟩) ⟨H.rw_ (by repeat constructor), H.rw_ (by repeat constructor), H.rw_ (by repeat constructor)⟩ ?_
      (try go_frame)
      refine tkH (i := 6) rfl (.of rfl) (.inr ⟨rfl, rfl⟩) ⟨H.rw_ (by repeat constructor), H.rw_ (by repeat constructor), H.rw_ (by repeat constructor)⟩ ?_
      (try go_frame)
      refine tkH (i := 7) rfl (.of rfl) (.inr ⟨rfl, rfl⟩) ⟨H.rw_ (by repeat constructor), H.rw_ (by repeat constructor), H.rw_ (by repeat constructor)⟩ ?_
      (try go_frame)
      refine tkH (i := 8) rfl (.of rfl) (.inr ⟨rfl, rfl⟩) ⟨H.rw_ (by repeat constructor), H.rw_ (by repeat constructor), H.rw_ (by repeat constructor)⟩ ?_
      (try go_frame)
      refine tkH (i := 9) rfl (.of rfl) (.inr ⟨rfl, rfl⟩) ⟨H.rw_ (by repeat constructor), H.rw_ (by repeat constructor), H.rw_ (by repeat constructor)⟩ ?_
      (try go_frame)
      refine tkH (i := 10) rfl (.of rfl) (.inr ⟨rfl, rfl⟩) ⟨H.rw_ (by repeat constructor), H.rw_ (by repeat constructor), H.rw_ (by repeat constructor)⟩ ?_
      (try go_frame)
      refine tkH (i := 11) rfl (.of rfl) (.inr ⟨rfl, rfl⟩) ⟨H.rw_ (by repeat constructor), H.rw_ (by repeat constructor), H.rw_ (by repeat constructor)⟩ ?_
      (try go_frame)
      refine tkH (i := 12) rfl (.of rfl) (.inr ⟨rfl, rfl⟩) ⟨H.rw_ (by repeat constructor), H.rw_ (by repeat constructor), H.rw_ (by repeat constructor)⟩ ?_
      (try go_frame)
      refine tkH (i := 13) rfl (.of rfl) (.inr ⟨rfl, rfl⟩) ⟨H.rw_ (by repeat constructor), H.rw_ (by repeat constructor), H.rw_ (by repeat constructor)⟩ ?_
      (try go_frame)
      refine tkH (i := 14) rfl (.of rfl) (.inr ⟨rfl, rfl⟩) ⟨H.rw_ (by repeat constructor), H.rw_ (by repeat constructor), H.rw_ (by repeat constructor)⟩ ?_
      (try go_frame)
      refine tkH (i := 15) rfl (.of rfl) (.inr ⟨rfl, rfl⟩) ⟨H.rw_ (by repeat constructor), H.rw_ (by repeat constructor), H.rw_ (by repeat constructor)⟩ ?_
      (try go_frame)
      refine tkH (i := 16) rfl (.of rfl) (.inr ⟨rfl, rfl⟩) ⟨H.rw_ (by repeat constructor), H.rw_ (by repeat constructor), H.rw_ (by repeat constructor)⟩ ?_
      (try go_frame)
      refine tkH (i := 17) rfl (.of rfl) (.inr ⟨rfl, rfl⟩) ⟨H.rw_ (by repeat constructor), H.rw_ (by repeat constructor), H.rw_ (by repeat constructor)⟩ ?_
      (try go_frame)
      refine tkH (i := 18) rfl (.of rfl) (.inr ⟨rfl, rfl⟩) ⟨H.rw_ (by repeat constructor), H.rw_ (by repeat constructor), H.rw_ (by repeat constructor)⟩ ?_
      (try go_frame)
      refine tkH (i := 19) rfl (.of rfl) (.inr ⟨rfl, rfl⟩) ⟨H.rw_ (by repeat constructor), H.rw_ (by repeat constructor), H.rw_ (by repeat constructor)⟩ ?_
      (try go_frame)
      refine tkH (i := 20) rfl (.of rfl) (.inr ⟨rfl, rfl⟩) ⟨H.rw_ (by repeat constructor), H.rw_ (by repeat constructor), H.rw_ (by repeat constructor)⟩ ?_
      (try go_frame)
      refine tkH (i := 21) rfl (.of rfl) (.inr ⟨rfl, rfl⟩) ⟨H.rw_ (by repeat constructor), H.rw_ (by repeat constructor), H.rw_ (by repeat constructor)⟩ ?_
      (try go_frame)
      refine tkH (i := 22) rfl (.of rfl) (.inr ⟨rfl, rfl⟩) ⟨H.rw_ (by repeat constructor), H.rw_ (by repeat constructor), H.rw_ (by repeat constructor)⟩ ?_
      (try go_frame)
      refine tkH (i := 23) rfl (.of rfl) (.inr ⟨rfl, rfl⟩) ⟨H.rw_ (by repeat constructor), H.rw_ (by repeat constructor), H.rw_ (by repeat constructor)⟩ ?_
      (try go_frame)
      refine tkH (i := 24) rfl (.of rfl) (.inr ⟨rfl, rfl⟩) ⟨H.rw_ (by repeat constructor), H.rw_ (by repeat constructor), H.rw_ (by repeat constructor)⟩ ?_
      (try go_frame)
      refine tkH (i := 25) rfl (.of rfl) (.inr ⟨rfl, rfl⟩) ⟨H.rw_ (by repeat constructor), H.rw_ (by repeat constructor), H.rw_ (by repeat constructor)⟩ ?_
      (try go_frame)
      refine tkH (i := 26) rfl (.of rfl) (.inr ⟨rfl, rfl⟩) ⟨H.rw_ (by repeat constructor), H.rw_ (by repeat constructor), H.rw_ (by repeat constructor)⟩ ?_
      (try go_frame)
      refine tkH (i := 27) rfl (.of rfl) (.inr ⟨rfl, rfl⟩) ⟨H.rw_ (by repeat constructor), H.rw_ (by repeat constructor), H.rw_ (by repeat constructor)⟩ ?_
      (try go_frame)
      refine tkH (i := 28) rfl (.of rfl) (.inr ⟨rfl, rfl⟩) ⟨H.rw_ (by repeat constructor), H.rw_ (by repeat constructor), H.rw_ (by repeat constructor)⟩ ?_
      (try go_frame)
      refine tkH (i := 29) rfl (.of rfl) (yields_val (v := (.bool false)) rfl (fun _ => by go_simp)) ⟨H.rw_ (by repeat constructor), H.rw_ (by repeat constructor), H.rw_ (by repeat constructor)⟩ ?_
      (try go_frame)
      refine wpAnyH_done (by kernel_rfl) ?_ _
      exact ⟨rfl, ((.bool false)), ((.bool false)), (undef), (undef), (undef), (undef), (undef), (undef), (undef), (undef), (undef), (undef), (undef), (undef), (undef), (undef), (undef), (undef), (undef), (undef), (undef), (undef), (undef), (undef), (undef), (undef), (undef), (undef), (undef), Lib.hid trivial, H.pick (.cons (by repeat constructor) (.cons (by repeat constructor) (.cons (by repeat constructor) (.cons (by repeat constructor) .nil)))), by first | (simp only [puts_cons, puts_nil, Act.put, List.setIfInBounds_toArray, List.set_cons_succ, List.set_cons_zero]; done) | (simp only [puts_cons, puts_nil, Act.put, List.setIfInBounds_toArray, List.set_cons_succ, List.set_cons_zero]; rfl)⟩
    · skip
      obtain ⟨k, q, y1, y0, rfl, rfl, a0, a1, hl, hw⟩ := set_facts Hd1.out hok
      have hk0 := (List.getElem?_eq_some_iff.1 a0).1
      have hk1 := (List.getElem?_eq_some_iff.1 a1).1
      have hqw := (List.getElem?_eq_some_iff.1 hw).1
      have K0 := Lib.hid a0
      have K1 := Lib.hid a1
      have HL := Lib.hid hl
      have HW := Lib.hid hw
      have M0 : Hid (y0 ∈ xb.gs.xs) := Lib.hid (List.mem_of_getElem? a0)
      have M1 : Hid (y1 ∈ d1.gs.xs) := Lib.hid (List.mem_of_getElem? a1)
      have ZL1 : y1.live.xs.length ≤ 4194304 := (Zd1.gsi y1 M1.out).2.2.1
      clear a0 a1 hl hw hok
      refine wp_region_held (S := (fun w' => Rw w' b3 28 (barr xb) ∧ (Rw w' b6 56 #[.int .i64 c.page, .int .i64 c.rights] ∧ (Rw w' b7 28 (barr d1) ∧ ((Rd GV.cells 15 w' d1.gs ∧ (Rd Slot.cells 2 w' y1.live ∧ (Rd Slot.cells 2 w' y1.written ∧ (Rd GV.cells 15 w' xb.gs ∧ Rd Slot.cells 2 w' y0.live))))))))) (by kernel_rfl) ?_
      replace H := H.drew
      refine tkH (i := 0) rfl .here (yields_val (v := (.bool true)) rfl (fun _ => by go_simp)) ⟨H.rw_ (by repeat constructor), H.rw_ (by repeat constructor), H.rw_ (by repeat constructor), (H.brd (b := d1) (by repeat constructor)).gs, ((H.brd (b := d1) (by repeat constructor)).gsi y1 M1.out).live, ((H.brd (b := d1) (by repeat constructor)).gsi y1 M1.out).written, (HBxb.out.1 _ (H.get (e := Exb) (by repeat constructor))).gs, ((HBxb.out.1 _ (H.get (e := Exb) (by repeat constructor))).gsi y0 M0.out).live⟩ ?_
      (try go_frame)
      refine tkH (i := 1) rfl (.of rfl) (yields_val (v := (.bool true)) rfl (fun _ => by go_simp)) ⟨H.rw_ (by repeat constructor), H.rw_ (by repeat constructor), H.rw_ (by repeat constructor), (H.brd (b := d1) (by repeat constructor)).gs, ((H.brd (b := d1) (by repeat constructor)).gsi y1 M1.out).live, ((H.brd (b := d1) (by repeat constructor)).gsi y1 M1.out).written, (HBxb.out.1 _ (H.get (e := Exb) (by repeat constructor))).gs, ((HBxb.out.1 _ (H.get (e := Exb) (by repeat constructor))).gsi y0 M0.out).live⟩ ?_
      (try go_frame)
      refine tkH (i := 2) rfl (.of rfl) (yields_val (v := (.pointer (some ⟨b7, 1, none⟩))) rfl (fun _ => by go_simp)) ⟨H.rw_ (by repeat constructor), H.rw_ (by repeat constructor), H.rw_ (by repeat constructor), (H.brd (b := d1) (by repeat constructor)).gs, ((H.brd (b := d1) (by repeat constructor)).gsi y1 M1.out).live, ((H.brd (b := d1) (by repeat constructor)).gsi y1 M1.out).written, (HBxb.out.1 _ (H.get (e := Exb) (by repeat constructor))).gs, ((HBxb.out.1 _ (H.get (e := Exb) (by repeat constructor))).gsi y0 M0.out).live⟩ ?_
      (try go_frame)
      refine tkH (i := 3) rfl (.of rfl) (yields_load1_R rfl rfl rfl (fun _ hS => hS.2.2.1) rfl) ⟨H.rw_ (by repeat constructor), H.rw_ (by repeat constructor), H.rw_ (by repeat constructor), (H.brd (b := d1) (by repeat constructor)).gs, ((H.brd (b := d1) (by repeat constructor)).gsi y1 M1.out).live, ((H.brd (b := d1) (by repeat constructor)).gsi y1 M1.out).written, (HBxb.out.1 _ (H.get (e := Exb) (by repeat constructor))).gs, ((HBxb.out.1 _ (H.get (e := Exb) (by repeat constructor))).gsi y0 M0.out).live⟩ ?_
      (try go_frame)
      refine tkH (i := 4) rfl (.of rfl) (yields_val (v := (.int .i64 (k : Int))) rfl (fun _ => by go_simp)) ⟨H.rw_ (by repeat constructor), H.rw_ (by repeat constructor), H.rw_ (by repeat constructor), (H.brd (b := d1) (by repeat constructor)).gs, ((H.brd (b := d1) (by repeat constructor)).gsi y1 M1.out).live, ((H.brd (b := d1) (by repeat constructor)).gsi y1 M1.out).written, (HBxb.out.1 _ (H.get (e := Exb) (by repeat constructor))).gs, ((HBxb.out.1 _ (H.get (e := Exb) (by repeat constructor))).gsi y0 M0.out).live⟩ ?_
      (try go_frame)
      refine tkH (i := 5) rfl (.of rfl) (yields_index_n rfl rfl (k := k) d1.gs (fun _ hS => hS.2.2.2.1) rfl rfl rfl hk1) ⟨H.rw_ (by repeat constructor), H.rw_ (by repeat constructor), H.rw_ (by repeat constructor), (H.brd (b := d1) (by repeat constructor)).gs, ((H.brd (b := d1) (by repeat constructor)).gsi y1 M1.out).live, ((H.brd (b := d1) (by repeat constructor)).gsi y1 M1.out).written, (HBxb.out.1 _ (H.get (e := Exb) (by repeat constructor))).gs, ((HBxb.out.1 _ (H.get (e := Exb) (by repeat constructor))).gsi y0 M0.out).live⟩ ?_
      (try go_frame)
      refine tkH (i := 6) rfl (.of rfl) (yields_val (v := (.pointer (some ⟨ablk d1.gs.A, aoff d1.gs.A + k * 15 + 4, none⟩))) rfl (fun _ => by go_simp)) ⟨H.rw_ (by repeat constructor), H.rw_ (by repeat constructor), H.rw_ (by repeat constructor), (H.brd (b := d1) (by repeat constructor)).gs, ((H.brd (b := d1) (by repeat constructor)).gsi y1 M1.out).live, ((H.brd (b := d1) (by repeat constructor)).gsi y1 M1.out).written, (HBxb.out.1 _ (H.get (e := Exb) (by repeat constructor))).gs, ((HBxb.out.1 _ (H.get (e := Exb) (by repeat constructor))).gsi y0 M0.out).live⟩ ?_
      (try go_frame)
      refine tkH (i := 7) rfl (.of rfl) (yields_load_rd rfl rfl d1.gs (fun _ hS => hS.2.2.2.1) rfl y1 K1.out (by first | exact rfl | exact (Nat.add_zero _).symm) rfl) ⟨H.rw_ (by repeat constructor), H.rw_ (by repeat constructor), H.rw_ (by repeat constructor), (H.brd (b := d1) (by repeat constructor)).gs, ((H.brd (b := d1) (by repeat constructor)).gsi y1 M1.out).live, ((H.brd (b := d1) (by repeat constructor)).gsi y1 M1.out).written, (HBxb.out.1 _ (H.get (e := Exb) (by repeat constructor))).gs, ((HBxb.out.1 _ (H.get (e := Exb) (by repeat constructor))).gsi y0 M0.out).live⟩ ?_
      (try go_frame)
      refine tkH (i := 8) rfl (.of rfl) (yields_val (v := (.pointer (some ⟨b3, 1, none⟩))) rfl (fun _ => by go_simp)) ⟨H.rw_ (by repeat constructor), H.rw_ (by repeat constructor), H.rw_ (by repeat constructor), (H.brd (b := d1) (by repeat constructor)).gs, ((H.brd (b := d1) (by repeat constructor)).gsi y1 M1.out).live, ((H.brd (b := d1) (by repeat constructor)).gsi y1 M1.out).written, (HBxb.out.1 _ (H.get (e := Exb) (by repeat constructor))).gs, ((HBxb.out.1 _ (H.get (e := Exb) (by repeat constructor))).gsi y0 M0.out).live⟩ ?_
      (try go_frame)
      refine tkH (i := 9) rfl (.of rfl) (yields_load1_R rfl rfl rfl (fun _ hS => hS.1) rfl) ⟨H.rw_ (by repeat constructor), H.rw_ (by repeat constructor), H.rw_ (by repeat constructor), (H.brd (b := d1) (by repeat constructor)).gs, ((H.brd (b := d1) (by repeat constructor)).gsi y1 M1.out).live, ((H.brd (b := d1) (by repeat constructor)).gsi y1 M1.out).written, (HBxb.out.1 _ (H.get (e := Exb) (by repeat constructor))).gs, ((HBxb.out.1 _ (H.get (e := Exb) (by repeat constructor))).gsi y0 M0.out).live⟩ ?_
      (try go_frame)
      refine tkH (i := 10) rfl (.of rfl) (yields_val (v := (.int .i64 (k : Int))) rfl (fun _ => by go_simp)) ⟨H.rw_ (by repeat constructor), H.rw_ (by repeat constructor), H.rw_ (by repeat constructor), (H.brd (b := d1) (by repeat constructor)).gs, ((H.brd (b := d1) (by repeat constructor)).gsi y1 M1.out).live, ((H.brd (b := d1) (by repeat constructor)).gsi y1 M1.out).written, (HBxb.out.1 _ (H.get (e := Exb) (by repeat constructor))).gs, ((HBxb.out.1 _ (H.get (e := Exb) (by repeat constructor))).gsi y0 M0.out).live⟩ ?_
      (try go_frame)
      refine tkH (i := 11) rfl (.of rfl) (yields_index_n rfl rfl (k := k) xb.gs (fun _ hS => hS.2.2.2.2.2.2.1) rfl rfl rfl hk0) ⟨H.rw_ (by repeat constructor), H.rw_ (by repeat constructor), H.rw_ (by repeat constructor), (H.brd (b := d1) (by repeat constructor)).gs, ((H.brd (b := d1) (by repeat constructor)).gsi y1 M1.out).live, ((H.brd (b := d1) (by repeat constructor)).gsi y1 M1.out).written, (HBxb.out.1 _ (H.get (e := Exb) (by repeat constructor))).gs, ((HBxb.out.1 _ (H.get (e := Exb) (by repeat constructor))).gsi y0 M0.out).live⟩ ?_
      (try go_frame)
      refine tkH (i := 12) rfl (.of rfl) (yields_val (v := (.pointer (some ⟨ablk xb.gs.A, aoff xb.gs.A + k * 15 + 4, none⟩))) rfl (fun _ => by go_simp)) ⟨H.rw_ (by repeat constructor), H.rw_ (by repeat constructor), H.rw_ (by repeat constructor), (H.brd (b := d1) (by repeat constructor)).gs, ((H.brd (b := d1) (by repeat constructor)).gsi y1 M1.out).live, ((H.brd (b := d1) (by repeat constructor)).gsi y1 M1.out).written, (HBxb.out.1 _ (H.get (e := Exb) (by repeat constructor))).gs, ((HBxb.out.1 _ (H.get (e := Exb) (by repeat constructor))).gsi y0 M0.out).live⟩ ?_
      (try go_frame)
      refine tkH (i := 13) rfl (.of rfl) (yields_load_rd rfl rfl xb.gs (fun _ hS => hS.2.2.2.2.2.2.1) rfl y0 K0.out (by first | exact rfl | exact (Nat.add_zero _).symm) rfl) ⟨H.rw_ (by repeat constructor), H.rw_ (by repeat constructor), H.rw_ (by repeat constructor), (H.brd (b := d1) (by repeat constructor)).gs, ((H.brd (b := d1) (by repeat constructor)).gsi y1 M1.out).live, ((H.brd (b := d1) (by repeat constructor)).gsi y1 M1.out).written, (HBxb.out.1 _ (H.get (e := Exb) (by repeat constructor))).gs, ((HBxb.out.1 _ (H.get (e := Exb) (by repeat constructor))).gsi y0 M0.out).live⟩ ?_
      (try go_frame)
      refine anyH_1 (i := 14) (by kernel_rfl) ?_
      refine wpOp_at rfl (.of rfl) rfl ?_
      refine wp_call_H Tryz.f33 rfl rfl Tryz.func33 (by kernel_rfl) rfl rfl (val_eqD (v' := .bool true) (val_H H ((lawSlots_c y1.live y0.live _ ((H.brd (b := d1) (by repeat constructor)).gsi y1 M1.out).live ((HBxb.out.1 _ (H.get (e := Exb) (by repeat constructor))).gsi y0 M0.out).live ZL1).mono fun _ _ ⟨h, b⟩ => ⟨h, Hp.of_below b⟩)) (by rw [HL.out] <;> simp)) ?_
      clear H
      rintro _ w ⟨rfl, H⟩
      refine ⟨⟨H.rw_ (by repeat constructor), H.rw_ (by repeat constructor), H.rw_ (by repeat constructor), (H.brd (b := d1) (by repeat constructor)).gs, ((H.brd (b := d1) (by repeat constructor)).gsi y1 M1.out).live, ((H.brd (b := d1) (by repeat constructor)).gsi y1 M1.out).written, (HBxb.out.1 _ (H.get (e := Exb) (by repeat constructor))).gs, ((HBxb.out.1 _ (H.get (e := Exb) (by repeat constructor))).gsi y0 M0.out).live⟩, ?_⟩
      (try go_frame)
      refine tkH (i := 15) rfl (.of rfl) (yields_val (v := (.bool false)) rfl (fun _ => by go_simp)) ⟨H.rw_ (by repeat constructor), H.rw_ (by repeat constructor), H.rw_ (by repeat constructor), (H.brd (b := d1) (by repeat constructor)).gs, ((H.brd (b := d1) (by repeat constructor)).gsi y1 M1.out).live, ((H.brd (b := d1) (by repeat constructor)).gsi y1 M1.out).written, (HBxb.out.1 _ (H.get (e := Exb) (by repeat constructor))).gs, ((HBxb.out.1 _ (H.get (e := Exb) (by repeat constructor))).gsi y0 M0.out).live⟩ ?_
      (try go_frame)
      refine tkH (i := 16) rfl (.of rfl) (yields_val (v := (.bool false)) rfl (fun _ => by go_simp)) ⟨H.rw_ (by repeat constructor), H.rw_ (by repeat constructor), H.rw_ (by repeat constructor), (H.brd (b := d1) (by repeat constructor)).gs, ((H.brd (b := d1) (by repeat constructor)).gsi y1 M1.out).live, ((H.brd (b := d1) (by repeat constructor)).gsi y1 M1.out).written, (HBxb.out.1 _ (H.get (e := Exb) (by repeat constructor))).gs, ((HBxb.out.1 _ (H.get (e := Exb) (by repeat constructor))).gsi y0 M0.out).live⟩ ?_
      (try go_frame)
      refine tkH (i := 17) rfl (.of rfl) (yields_val (v := (.pointer (some ⟨b7, 1, none⟩))) rfl (fun _ => by go_simp)) ⟨H.rw_ (by repeat constructor), H.rw_ (by repeat constructor), H.rw_ (by repeat constructor), (H.brd (b := d1) (by repeat constructor)).gs, ((H.brd (b := d1) (by repeat constructor)).gsi y1 M1.out).live, ((H.brd (b := d1) (by repeat constructor)).gsi y1 M1.out).written, (HBxb.out.1 _ (H.get (e := Exb) (by repeat constructor))).gs, ((HBxb.out.1 _ (H.get (e := Exb) (by repeat constructor))).gsi y0 M0.out).live⟩ ?_
      (try go_frame)
      refine tkH (i := 18) rfl (.of rfl) (yields_load1_R rfl rfl rfl (fun _ hS => hS.2.2.1) rfl) ⟨H.rw_ (by repeat constructor), H.rw_ (by repeat constructor), H.rw_ (by repeat constructor), (H.brd (b := d1) (by repeat constructor)).gs, ((H.brd (b := d1) (by repeat constructor)).gsi y1 M1.out).live, ((H.brd (b := d1) (by repeat constructor)).gsi y1 M1.out).written, (HBxb.out.1 _ (H.get (e := Exb) (by repeat constructor))).gs, ((HBxb.out.1 _ (H.get (e := Exb) (by repeat constructor))).gsi y0 M0.out).live⟩ ?_
      (try go_frame)
      refine tkH (i := 19) rfl (.of rfl) (yields_val (v := (.int .i64 (k : Int))) rfl (fun _ => by go_simp)) ⟨H.rw_ (by repeat constructor), H.rw_ (by repeat constructor), H.rw_ (by repeat constructor), (H.brd (b := d1) (by repeat constructor)).gs, ((H.brd (b := d1) (by repeat constructor)).gsi y1 M1.out).live, ((H.brd (b := d1) (by repeat constructor)).gsi y1 M1.out).written, (HBxb.out.1 _ (H.get (e := Exb) (by repeat constructor))).gs, ((HBxb.out.1 _ (H.get (e := Exb) (by repeat constructor))).gsi y0 M0.out).live⟩ ?_
      (try go_frame)
      refine tkH (i := 20) rfl (.of rfl) (yields_index_n rfl rfl (k := k) d1.gs (fun _ hS => hS.2.2.2.1) rfl rfl rfl hk1) ⟨H.rw_ (by repeat constructor), H.rw_ (by repeat constructor), H.rw_ (by repeat constructor), (H.brd (b := d1) (by repeat constructor)).gs, ((H.brd (b := d1) (by repeat constructor)).gsi y1 M1.out).live, ((H.brd (b := d1) (by repeat constructor)).gsi y1 M1.out).written, (HBxb.out.1 _ (H.get (e := Exb) (by repeat constructor))).gs, ((HBxb.out.1 _ (H.get (e := Exb) (by repeat constructor))).gsi y0 M0.out).live⟩ ?_
      (try go_frame)
      refine tkH (i := 21) rfl (.of rfl) (yields_val (v := (.pointer (some ⟨ablk d1.gs.A, aoff d1.gs.A + k * 15 + 3, none⟩))) rfl (fun _ => by go_simp)) ⟨H.rw_ (by repeat constructor), H.rw_ (by repeat constructor), H.rw_ (by repeat constructor), (H.brd (b := d1) (by repeat constructor)).gs, ((H.brd (b := d1) (by repeat constructor)).gsi y1 M1.out).live, ((H.brd (b := d1) (by repeat constructor)).gsi y1 M1.out).written, (HBxb.out.1 _ (H.get (e := Exb) (by repeat constructor))).gs, ((HBxb.out.1 _ (H.get (e := Exb) (by repeat constructor))).gsi y0 M0.out).live⟩ ?_
      (try go_frame)
      refine tkH (i := 22) rfl (.of rfl) (yields_load_rd rfl rfl d1.gs (fun _ hS => hS.2.2.2.1) rfl y1 K1.out (by first | exact rfl | exact (Nat.add_zero _).symm) rfl) ⟨H.rw_ (by repeat constructor), H.rw_ (by repeat constructor), H.rw_ (by repeat constructor), (H.brd (b := d1) (by repeat constructor)).gs, ((H.brd (b := d1) (by repeat constructor)).gsi y1 M1.out).live, ((H.brd (b := d1) (by repeat constructor)).gsi y1 M1.out).written, (HBxb.out.1 _ (H.get (e := Exb) (by repeat constructor))).gs, ((HBxb.out.1 _ (H.get (e := Exb) (by repeat constructor))).gsi y0 M0.out).live⟩ ?_
      (try go_frame)
      refine tkH (i := 23) rfl (.of rfl) (yields_val (v := (.int .i64 (q : Int))) rfl (fun _ => by go_simp)) ⟨H.rw_ (by repeat constructor), H.rw_ (by repeat constructor), H.rw_ (by repeat constructor), (H.brd (b := d1) (by repeat constructor)).gs, ((H.brd (b := d1) (by repeat constructor)).gsi y1 M1.out).live, ((H.brd (b := d1) (by repeat constructor)).gsi y1 M1.out).written, (HBxb.out.1 _ (H.get (e := Exb) (by repeat constructor))).gs, ((HBxb.out.1 _ (H.get (e := Exb) (by repeat constructor))).gsi y0 M0.out).live⟩ ?_
      (try go_frame)
      refine tkH (i := 24) rfl (.of rfl) (yields_index_n rfl rfl (k := q) y1.written (fun _ hS => hS.2.2.2.2.2.1) rfl rfl rfl hqw) ⟨H.rw_ (by repeat constructor), H.rw_ (by repeat constructor), H.rw_ (by repeat constructor), (H.brd (b := d1) (by repeat constructor)).gs, ((H.brd (b := d1) (by repeat constructor)).gsi y1 M1.out).live, ((H.brd (b := d1) (by repeat constructor)).gsi y1 M1.out).written, (HBxb.out.1 _ (H.get (e := Exb) (by repeat constructor))).gs, ((HBxb.out.1 _ (H.get (e := Exb) (by repeat constructor))).gsi y0 M0.out).live⟩ ?_
      (try go_frame)
      refine tkH (i := 25) rfl (.of rfl) (yields_loads_rdd rfl rfl y1.written (fun _ hS => hS.2.2.2.2.2.1) rfl c HW.out (by first | exact rfl | exact (Nat.add_zero _).symm) (by repeat constructor)) ⟨H.rw_ (by repeat constructor), H.rw_ (by repeat constructor), H.rw_ (by repeat constructor), (H.brd (b := d1) (by repeat constructor)).gs, ((H.brd (b := d1) (by repeat constructor)).gsi y1 M1.out).live, ((H.brd (b := d1) (by repeat constructor)).gsi y1 M1.out).written, (HBxb.out.1 _ (H.get (e := Exb) (by repeat constructor))).gs, ((HBxb.out.1 _ (H.get (e := Exb) (by repeat constructor))).gsi y0 M0.out).live⟩ ?_
      (try go_frame)
      refine tkH (i := 26) rfl (.of rfl) (yields_loads_R rfl rfl rfl (fun _ hS => hS.2.1) (by repeat constructor)) ⟨H.rw_ (by repeat constructor), H.rw_ (by repeat constructor), H.rw_ (by repeat constructor), (H.brd (b := d1) (by repeat constructor)).gs, ((H.brd (b := d1) (by repeat constructor)).gsi y1 M1.out).live, ((H.brd (b := d1) (by repeat constructor)).gsi y1 M1.out).written, (HBxb.out.1 _ (H.get (e := Exb) (by repeat constructor))).gs, ((HBxb.out.1 _ (H.get (e := Exb) (by repeat constructor))).gsi y0 M0.out).live⟩ ?_
      (try go_frame)
      refine tkH (i := 27) rfl (.of rfl) (yields_val (v := (.bool false)) rfl (fun _ => by (first | (go_simp; done) | (go_simp; rw [bne_self_eq_false]) | (rw [← bne_self_eq_false]; go_simp; done) | (go_simp; omega) | (go_simp; simpa using bne_self_eq_false)))) ⟨H.rw_ (by repeat constructor), H.rw_ (by repeat constructor), H.rw_ (by repeat constructor), (H.brd (b := d1) (by repeat constructor)).gs, ((H.brd (b := d1) (by repeat constructor)).gsi y1 M1.out).live, ((H.brd (b := d1) (by repeat constructor)).gsi y1 M1.out).written, (HBxb.out.1 _ (H.get (e := Exb) (by repeat constructor))).gs, ((HBxb.out.1 _ (H.get (e := Exb) (by repeat constructor))).gsi y0 M0.out).live⟩ ?_
      (try go_frame)
      refine tkH (i := 28) rfl (.of rfl) (yields_val (v := (.bool false)) rfl (fun _ => by go_simp)) ⟨H.rw_ (by repeat constructor), H.rw_ (by repeat constructor), H.rw_ (by repeat constructor), (H.brd (b := d1) (by repeat constructor)).gs, ((H.brd (b := d1) (by repeat constructor)).gsi y1 M1.out).live, ((H.brd (b := d1) (by repeat constructor)).gsi y1 M1.out).written, (HBxb.out.1 _ (H.get (e := Exb) (by repeat constructor))).gs, ((HBxb.out.1 _ (H.get (e := Exb) (by repeat constructor))).gsi y0 M0.out).live⟩ ?_
      (try go_frame)
      refine tkH (i := 29) rfl (.of rfl) (yields_val (v := (.bool false)) rfl (fun _ => by go_simp)) ⟨H.rw_ (by repeat constructor), H.rw_ (by repeat constructor), H.rw_ (by repeat constructor), (H.brd (b := d1) (by repeat constructor)).gs, ((H.brd (b := d1) (by repeat constructor)).gsi y1 M1.out).live, ((H.brd (b := d1) (by repeat constructor)).gsi y1 M1.out).written, (HBxb.out.1 _ (H.get (e := Exb) (by repeat constructor))).gs, ((HBxb.out.1 _ (H.get (e := Exb) (by repeat constructor))).gsi y0 M0.out).live⟩ ?_
      (try go_frame)
      refine wpAnyH_done (by kernel_rfl) ?_ _
      exact ⟨rfl, ((.bool true)), ((.bool true)), ((.pointer (some ⟨b7, 1, none⟩))), ((.slice d1.gs.A d1.gs.xs.length d1.gs.c)), ((.int .i64 (k : Int))), ((.pointer (some ⟨ablk d1.gs.A, aoff d1.gs.A + k * 15, none⟩))), ((.pointer (some ⟨ablk d1.gs.A, aoff d1.gs.A + k * 15 + 4, none⟩))), ((.slice y1.live.A y1.live.xs.length y1.live.c)), ((.pointer (some ⟨b3, 1, none⟩))), ((.slice xb.gs.A xb.gs.xs.length xb.gs.c)), ((.int .i64 (k : Int))), ((.pointer (some ⟨ablk xb.gs.A, aoff xb.gs.A + k * 15, none⟩))), ((.pointer (some ⟨ablk xb.gs.A, aoff xb.gs.A + k * 15 + 4, none⟩))), ((.slice y0.live.A y0.live.xs.length y0.live.c)), ((.bool true)), ((.bool false)), ((.bool false)), ((.pointer (some ⟨b7, 1, none⟩))), ((.slice d1.gs.A d1.gs.xs.length d1.gs.c)), ((.int .i64 (k : Int))), ((.pointer (some ⟨ablk d1.gs.A, aoff d1.gs.A + k * 15, none⟩))), ((.pointer (some ⟨ablk d1.gs.A, aoff d1.gs.A + k * 15 + 3, none⟩))), ((.slice y1.written.A y1.written.xs.length y1.written.c)), ((.int .i64 (q : Int))), ((.pointer (some ⟨ablk y1.written.A, aoff y1.written.A + q * 2, none⟩))), (c.val), (c.val), ((.bool false)), ((.bool false)), Lib.hid trivial, H.pick (.cons (by repeat constructor) (.cons (by repeat constructor) (.cons (by repeat constructor) (.cons (by repeat constructor) .nil)))), by first | (simp only [puts_cons, puts_nil, Act.put, List.setIfInBounds_toArray, List.set_cons_succ, List.set_cons_zero]; done) | (simp only [puts_cons, puts_nil, Act.put, List.setIfInBounds_toArray, List.set_cons_succ, List.set_cons_zero]; rfl)⟩
  clear H
  rintro u w ⟨v89, v90, v91, v92, v93, v94, v95, v96, v97, v98, v99, v100, v101, v102, v103, v104, v105, v106, v107, v108, v109, v110, v111, v112, v113, v114, v115, v116, v117, _, H, rfl⟩
  simp only [puts_cons, puts_nil, Act.put, List.setIfInBounds_toArray, List.set_cons_succ, List.set_cons_zero]
  clear hok
  go_wp2_with (first
    | go_skip
    | ((with_reducible refine at_box ?_); first | (refine wpList_box_H rfl rfl H rfl (by constructor) ?_; clear H; intro bQ w H))
    | ((with_reducible refine at_alloc ?_); first | (refine wpList_alloc_H rfl rfl H ?_; clear H; intro bQ w H))
    | ((with_reducible refine at_load ?_); first | (refine wpList_load_H rfl rfl H rfl (by repeat constructor) ?_) | (refine wpList_loads_H rfl rfl H rfl (by repeat constructor) ?_))
    | ((with_reducible refine at_store ?_); first | (refine wpList_store_H rfl rfl H rfl rfl (by repeat constructor) ?_; clear H; intro w H))
    | ((with_reducible refine at_slice ?_); first | ((with_reducible refine at_dst 120 ?_); refine wpList_one_H rfl rfl H (⟨7, 0⟩ : Ins) rfl CellsOf.agg rfl (by decide) ?_; clear H; intro bi w H) | ((with_reducible refine at_dst 121 ?_); refine wpList_one_H rfl rfl H (⟨some ⟨bi, 0, none⟩, 1, [⟨7, 0⟩]⟩ : Sl Ins) rfl CellsOf.slice rfl (by decide) ?_; clear H; intro bo w H)))
  go_at_call 23
  refine (specBareNew_c (⟨some ⟨bo, 0, none⟩, 1, [(⟨some ⟨bi, 0, none⟩, 1, [⟨7, 0⟩]⟩ : Sl Ins)]⟩ : Sl (Sl Ins)) _ (H.rd (s := (⟨some ⟨bo, 0, none⟩, 1, [(⟨some ⟨bi, 0, none⟩, 1, [⟨7, 0⟩]⟩ : Sl Ins)]⟩ : Sl (Sl Ins))) (by repeat constructor) h_len) (by intro x hx; rw [List.mem_singleton.1 hx]; exact H.rd (by repeat constructor) ins_len) (by intro x hx; rw [List.mem_singleton.1 hx]; simp) (by simp) (by simp)).mono ?_
  rintro e w ⟨n0, rfl, hn, K⟩
  have Hn0 : Hid (n0.m = N0) := Lib.hid (by rw [hn, S0.out]; rfl)
  clear hn
  replace H := H.add_all K
  clear K
  have Zn0 := bbig_D Hn0 Q0.out
  go_wp2_with (first
    | go_skip
    | ((with_reducible refine at_box ?_); first | (refine wpList_box_H rfl rfl H rfl (by constructor) ?_; clear H; intro bQ w H))
    | ((with_reducible refine at_alloc ?_); first | ((with_reducible refine at_dst 18 ?_); refine wpList_alloc_H rfl rfl H ?_; clear H; intro b18 w H) | (refine wpList_alloc_H rfl rfl H ?_; clear H; intro bQ w H))
    | ((with_reducible refine at_load ?_); first | (refine wpList_load_H rfl rfl H rfl (by repeat constructor) ?_) | (refine wpList_loads_H rfl rfl H rfl (by repeat constructor) ?_))
    | ((with_reducible refine at_store ?_); first | (refine wpList_store_H rfl rfl H rfl rfl (by repeat constructor) ?_; clear H; intro w H)))
  go_at_call 28
  refine (bareSet_c n0 0 1 ⟨5, 3⟩ _ (H.brd (b := n0) (by repeat constructor)) Zn0).mono ?_
  rintro e w ⟨t1, he, hy, K⟩
  have Ht1 : Hid (t1.m = N1) := Lib.hid (by rw [hy, Hn0.out]; exact S1.out)
  clear hy
  rw [Hn0.out] at he
  generalize chOkM N0 0 (hasB 1 4 && slotOkM 8 ⟨5, 3⟩) = f20 at he
  subst he
  replace H := H.add_all K
  clear K
  have Zt1 := bbig_D Ht1 Q1.out
  go_wp2_with (first
    | go_skip
    | ((with_reducible refine at_box ?_); first | (refine wpList_box_H rfl rfl H rfl (by constructor) ?_; clear H; intro bQ w H))
    | ((with_reducible refine at_alloc ?_); first | ((with_reducible refine at_dst 19 ?_); refine wpList_alloc_H rfl rfl H ?_; clear H; intro b19 w H) | (refine wpList_alloc_H rfl rfl H ?_; clear H; intro bQ w H))
    | ((with_reducible refine at_load ?_); first | (refine wpList_load_H rfl rfl H rfl (by repeat constructor) ?_) | (refine wpList_loads_H rfl rfl H rfl (by repeat constructor) ?_))
    | ((with_reducible refine at_store ?_); first | (refine wpList_store_H rfl rfl H rfl rfl (by repeat constructor) ?_; clear H; intro w H)))
  go_at_call 31
  refine (bareFlush_c t1 0 1 _ (H.brd (b := t1) (by repeat constructor)) Zt1).mono ?_
  rintro e w ⟨t2, he, hy, K⟩
  have Ht2 : Hid (t2.m = N2) := Lib.hid (by rw [hy, Ht1.out]; exact S2.out)
  clear hy
  rw [Ht1.out] at he
  rw [Q3.out] at he
  subst he
  replace H := H.add_all K
  clear K
  have Zt2 := bbig_D Ht2 Q2.out
  cases did
  · skip
    have EX : Hid ((d2.m == xc.m) = true) := Lib.hid (by rw [Hd2.out]; unfold changedM; rw [HDID.out]; simp)
    go_wp2_with (first
      | go_skip
      | ((with_reducible refine at_box ?_); first | (refine wpList_box_H rfl rfl H rfl (by constructor) ?_; clear H; intro bQ w H))
      | ((with_reducible refine at_alloc ?_); first | ((with_reducible refine at_dst 21 ?_); refine wpList_alloc_H rfl rfl H ?_; clear H; intro b21 w H) | (refine wpList_alloc_H rfl rfl H ?_; clear H; intro bQ w H))
      | ((with_reducible refine at_load ?_); first | (refine wpList_load_H rfl rfl H rfl (by repeat constructor) ?_) | (refine wpList_loads_H rfl rfl H rfl (by repeat constructor) ?_))
      | ((with_reducible refine at_store ?_); first | (refine wpList_store_H rfl rfl H rfl rfl (by repeat constructor) ?_; clear H; intro w H))
      | (go_at_call 20; ((with_reducible refine at_arg2 d2.val ?_); refine (lawBare_c d2 xc _ (H.brd (b := d2) (by repeat constructor)) (HBxc.out.1 _ (H.get (e := Exc) (by repeat constructor))) Zd2).mono ?_; rintro e w ⟨he, K⟩; rw [EX.out] at he; subst he; replace H := H.add_all K; clear K)))
    go_at_call 26
    refine (guestOfD_c t2 0 _ (H.brd (b := t2) (by repeat constructor)) Zt2).mono ?_
    rintro e w ⟨g1, rfl, hg, K⟩
    have HG1 := Lib.hid hg
    have Zg1 : GBig g1 := size_big hg (Nat.le_trans (gAtM_size _ _) Zt2)
    have HSL : Hid (slotAtM g1.live.xs 1 = ⟨5, 3⟩) := Lib.hid (by
      have h := congrArg MG.live hg
      rw [Ht2.out] at h
      have h2 : g1.live.xs = (gAtM N2 0).live := h
      rw [h2]; exact Q5.out)
    clear hg
    replace H := H.add_all K
    clear K
    go_wp2_with (first
      | go_skip
      | ((with_reducible refine at_box ?_); first | (refine wpList_box_H rfl rfl H rfl (by constructor) ?_; clear H; intro bQ w H))
      | ((with_reducible refine at_alloc ?_); first | (refine wpList_alloc_H rfl rfl H ?_; clear H; intro bQ w H))
      | ((with_reducible refine at_load ?_); first | (refine wpList_load_H rfl rfl H rfl (by repeat constructor) ?_) | (refine wpList_loads_H rfl rfl H rfl (by repeat constructor) ?_))
      | ((with_reducible refine at_store ?_); first | (refine wpList_store_H rfl rfl H rfl rfl (by repeat constructor) ?_; clear H; intro w H)))
    go_at_call 34
    refine (specSlotAt_c g1.live 1 _ (H.grd1 (g := g1) (by repeat constructor)).live Zg1.2.2.1).mono ?_
    rintro e w ⟨he, K⟩
    rw [HSL.out] at he
    subst he
    replace H := H.add_all K
    clear K
    go_wp2_with (first
      | go_skip
      | ((with_reducible refine at_box ?_); first | (refine wpList_box_H rfl rfl H rfl (by constructor) ?_; clear H; intro bQ w H))
      | ((with_reducible refine at_alloc ?_); first | (refine wpList_alloc_H rfl rfl H ?_; clear H; intro bQ w H))
      | ((with_reducible refine at_load ?_); first | (refine wpList_load_H rfl rfl H rfl (by repeat constructor) ?_) | (refine wpList_loads_H rfl rfl H rfl (by repeat constructor) ?_))
      | ((with_reducible refine at_store ?_); first | (refine wpList_store_H rfl rfl H rfl rfl (by repeat constructor) ?_; clear H; intro w H)))
    go_ret
    exact ⟨rfl, H.below⟩
  · skip
    obtain ⟨k, q, y1, y0, rfl, rfl, a0, a1, hq4, l0, l1, lw, hne, heq⟩ := flush_facts Hd2.out HDID.out
    have hk0 := (List.getElem?_eq_some_iff.1 a0).1
    have hk1 := (List.getElem?_eq_some_iff.1 a1).1
    have K0 := Lib.hid a0
    have K1 := Lib.hid a1
    have HNE := Lib.hid hne
    have HEQ := Lib.hid heq
    have L0 := Lib.hid l0
    have L1 := Lib.hid l1
    have LW := Lib.hid lw
    have M0 : Hid (y0 ∈ xc.gs.xs) := Lib.hid (List.mem_of_getElem? a0)
    have M1 : Hid (y1 ∈ d2.gs.xs) := Lib.hid (List.mem_of_getElem? a1)
    clear a0 a1 l0 l1 lw hne heq
    go_wp2_with (first
      | go_skip
      | ((with_reducible refine at_box ?_); first | (refine wpList_box_H rfl rfl H rfl (by constructor) ?_; clear H; intro bQ w H))
      | ((with_reducible refine at_alloc ?_); first | ((with_reducible refine at_dst 21 ?_); refine wpList_alloc_H rfl rfl H ?_; clear H; intro b21 w H) | (refine wpList_alloc_H rfl rfl H ?_; clear H; intro bQ w H))
      | ((with_reducible refine at_load ?_); first | (refine wpList_load_H rfl rfl H rfl (by repeat constructor) ?_) | (refine wpList_loads_H rfl rfl H rfl (by repeat constructor) ?_))
      | ((with_reducible refine at_store ?_); first | (refine wpList_store_H rfl rfl H rfl rfl (by repeat constructor) ?_; clear H; intro w H)))
    go_loopw [23] (fun iv wr => ∃ i : Nat, i ≤ 4 ∧ iv = .int .i64 i ∧ Hp W0 wr [.bare d2, Exc, .box b14 28 (barr d2).toList, .box b11 28 (barr xc).toList, .bare t2, .box b21 28 (barr t2).toList]) (fun iv _ => 4 - (intOf iv).toNat)
    case atStart => exact ⟨0, by omega, rfl, H.pick (.cons (by repeat constructor) (.cons (by repeat constructor) (.cons (by repeat constructor) (.cons (by repeat constructor) (.cons (by repeat constructor) (.cons (by repeat constructor) .nil))))))⟩
    case round =>
      clear H
      obtain ⟨i, hi0, rfl, H⟩ := hrel
      by_cases hi : i < 4
      · obtain ⟨z, hz⟩ : ∃ z, y1.live.xs[i]? = some z := ⟨_, List.getElem?_eq_getElem (by rw [L1.out]; exact hi)⟩
        have HZ := Lib.hid hz
        have hi1 : i < y1.live.xs.length := by rw [L1.out]; exact hi
        have hi2 : i < y0.live.xs.length := by rw [L0.out]; exact hi
        clear hz
        by_cases hiq : i = q
        · subst hiq
          have HB2 : Hid (((i : Int) != (i : Int)) = false) := Lib.hid (by simp)
          go_wp2_with (first
            | go_skip
            | ((with_reducible refine at_box ?_); first | (refine wpList_box_H rfl rfl H rfl (by constructor) ?_; clear H; intro bQ w H))
            | ((with_reducible refine at_alloc ?_); first | (refine wpList_alloc_H rfl rfl H ?_; clear H; intro bQ w H))
            | ((with_reducible refine at_load ?_); first | (refine wpList_load_H rfl rfl H rfl (by repeat constructor) ?_) | (refine wpList_loads_H rfl rfl H rfl (by repeat constructor) ?_))
            | ((with_reducible refine at_store ?_); first | (refine wpList_store_H rfl rfl H rfl rfl (by repeat constructor) ?_; clear H; intro w H)))
          refine wp_cut (fun u a' w' => ∃ (_ : Unit), Hid True ∧ Hp W0 w' [.bare d2, Exc, .box b14 28 (barr d2).toList, .box b11 28 (barr xc).toList, .bare t2, .box b21 28 (barr t2).toList] ∧ a' = puts u [(154, (.int .i64 (i : Int))), (155, (.int .i64 (i : Int))), (156, (.bool false)), (157, (.bool false)), (158, undef), (159, undef), (160, undef), (161, undef), (162, undef), (163, undef), (164, undef), (165, undef), (166, undef), (167, undef), (168, undef), (169, undef), (170, undef), (171, undef), (172, undef), (173, undef), (174, undef), (175, undef), (176, undef), (177, (.bool false))]) ?_ ?_
          · refine wp_region_held (S := (fun w' => Rw w' b14 28 (barr d2) ∧ (Rw w' b11 28 (barr xc) ∧ ((Rd GV.cells 15 w' d2.gs ∧ (Rd Slot.cells 2 w' y1.live ∧ (Rd GV.cells 15 w' xc.gs ∧ (Rd Slot.cells 2 w' y0.live ∧ Rd Slot.cells 2 w' y0.written)))))))) (by kernel_rfl) ?_
            replace H := H.drew
            refine tkH (i := 0) rfl .here (yields_val (v := (.int .i64 (i : Int))) rfl (fun _ => by go_simp)) ⟨H.rw_ (by repeat constructor), H.rw_ (by repeat constructor), (H.brd (b := d2) (by repeat constructor)).gs, ((H.brd (b := d2) (by repeat constructor)).gsi y1 M1.out).live, (HBxc.out.1 _ (H.get (e := Exc) (by repeat constructor))).gs, ((HBxc.out.1 _ (H.get (e := Exc) (by repeat constructor))).gsi y0 M0.out).live, ((HBxc.out.1 _ (H.get (e := Exc) (by repeat constructor))).gsi y0 M0.out).written⟩ ?_
            (try go_frame)
            refine tkH (i := 1) rfl (.of rfl) (yields_val (v := (.int .i64 (i : Int))) rfl (fun _ => by go_simp)) ⟨H.rw_ (by repeat constructor), H.rw_ (by repeat constructor), (H.brd (b := d2) (by repeat constructor)).gs, ((H.brd (b := d2) (by repeat constructor)).gsi y1 M1.out).live, (HBxc.out.1 _ (H.get (e := Exc) (by repeat constructor))).gs, ((HBxc.out.1 _ (H.get (e := Exc) (by repeat constructor))).gsi y0 M0.out).live, ((HBxc.out.1 _ (H.get (e := Exc) (by repeat constructor))).gsi y0 M0.out).written⟩ ?_
            (try go_frame)
            refine tkH (i := 2) rfl (.of rfl) (yields_val (v := (.bool false)) rfl (fun _ => by (first | (go_simp; done) | (go_simp; rw [HB2.out]) | (rw [← HB2.out]; go_simp; done) | (go_simp; omega) | (go_simp; simpa using HB2.out)))) ⟨H.rw_ (by repeat constructor), H.rw_ (by repeat constructor), (H.brd (b := d2) (by repeat constructor)).gs, ((H.brd (b := d2) (by repeat constructor)).gsi y1 M1.out).live, (HBxc.out.1 _ (H.get (e := Exc) (by repeat constructor))).gs, ((HBxc.out.1 _ (H.get (e := Exc) (by repeat constructor))).gsi y0 M0.out).live, ((HBxc.out.1 _ (H.get (e := Exc) (by repeat constructor))).gsi y0 M0.out).written⟩ ?_
            (try go_frame)
            refine tkH (i := 3) rfl (.of rfl) (yields_val (v := (.bool false)) rfl (fun _ => by go_simp)) ⟨H.rw_ (by repeat constructor), H.rw_ (by repeat constructor), (H.brd (b := d2) (by repeat constructor)).gs, ((H.brd (b := d2) (by repeat constructor)).gsi y1 M1.out).live, (HBxc.out.1 _ (H.get (e := Exc) (by repeat constructor))).gs, ((HBxc.out.1 _ (H.get (e := Exc) (by repeat constructor))).gsi y0 M0.out).live, ((HBxc.out.1 _ (H.get (e := Exc) (by repeat constructor))).gsi y0 M0.out).written⟩ ?_
            (try go_frame)
            refine tkH (i := 4) rfl (.of rfl) (.inr ⟨rfl, rfl⟩) ⟨H.rw_ (by repeat constructor), H.rw_ (by repeat constructor), (H.brd (b := d2) (by repeat constructor)).gs, ((H.brd (b := d2) (by repeat constructor)).gsi y1 M1.out).live, (HBxc.out.1 _ (H.get (e := Exc) (by repeat constructor))).gs, ((HBxc.out.1 _ (H.get (e := Exc) (by repeat constructor))).gsi y0 M0.out).live, ((HBxc.out.1 _ (H.get (e := Exc) (by repeat constructor))).gsi y0 M0.out).written⟩ ?_
            (try go_frame)
            refine tkH (i := 5) rfl (.of rfl) (.inr ⟨rfl, rfl⟩) ⟨H.rw_ (by repeat constructor), H.rw_ (by repeat constructor), (H.brd (b := d2) (by repeat constructor)).gs, ((H.brd (b := d2) (by repeat constructor)).gsi y1 M1.out).live, (HBxc.out.1 _ (H.get (e := Exc) (by repeat constructor))).gs, ((HBxc.out.1 _ (H.get (e := Exc) (by repeat constructor))).gsi y0 M0.out).live, ((HBxc.out.1 _ (H.get (e := Exc) (by repeat constructor))).gsi y0 M0.out).written⟩ ?_
            (try go_frame)
            refine tkH (i := 6) rfl (.of rfl) (.inr ⟨rfl, rfl⟩) ⟨H.rw_ (by repeat constructor), H.rw_ (by repeat constructor), (H.brd (b := d2) (by repeat constructor)).gs, ((H.brd (b := d2) (by repeat constructor)).gsi y1 M1.out).live, (HBxc.out.1 _ (H.get (e := Exc) (by repeat constructor))).gs, ((HBxc.out.1 _ (H.get (e := Exc) (by repeat constructor))).gsi y0 M0.out).live, ((HBxc.out.1 _ (H.get (e := Exc) (by repeat constructor))).gsi y0 M0.out).written⟩ ?_
            (try go_frame)
            refine tkH (i := 7) rfl (.of rfl) (.inr ⟨rfl, rfl⟩) ⟨H.rw_ (by repeat constructor), H.rw_ (by repeat constructor), (H.brd (b := d2) (by repeat constructor)).gs, ((H.brd (b := d2) (by repeat constructor)).gsi y1 M1.out).live, (HBxc.out.1 _ (H.get (e := Exc) (by repeat constructor))).gs, ((HBxc.out.1 _ (H.get (e := Exc) (by repeat constructor))).gsi y0 M0.out).live, ((HBxc.out.1 _ (H.get (e := Exc) (by repeat constructor))).gsi y0 M0.out).written⟩ ?_
            (try go_frame)
            refine tkH (i := 8) rfl (.of rfl) (.inr ⟨rfl, rfl⟩) ⟨H.rw_ (by repeat constructor), H.rw_ (by repeat constructor), (H.brd (b := d2) (by repeat constructor)).gs, ((H.brd (b := d2) (by repeat constructor)).gsi y1 M1.out).live, (HBxc.out.1 _ (H.get (e := Exc) (by repeat constructor))).gs, ((HBxc.out.1 _ (H.get (e := Exc) (by repeat constructor))).gsi y0 M0.out).live, ((HBxc.out.1 _ (H.get (e := Exc) (by repeat constructor))).gsi y0 M0.out).written⟩ ?_
            (try go_frame)
            refine tkH (i := 9) rfl (.of rfl) (.inr ⟨rfl, rfl⟩) ⟨H.rw_ (by repeat constructor), H.rw_ (by repeat constructor), (H.brd (b := d2) (by repeat constructor)).gs, ((H.brd (b := d2) (by repeat constructor)).gsi y1 M1.out).live, (HBxc.out.1 _ (H.get (e := Exc) (by repeat constructor))).gs, ((HBxc.out.1 _ (H.get (e := Exc) (by repeat constructor))).gsi y0 M0.out).live, ((HBxc.out.1 _ (H.get (e := Exc) (by repeat constructor))).gsi y0 M0.out).written⟩ ?_
            (try go_frame)
            refine tkH (i := 10) rfl (.of rfl) (.inr ⟨rfl, rfl⟩) ⟨H.rw_ (by repeat constructor), H.rw_ (by repeat constructor), (H.brd (b := d2) (by repeat constructor)).gs, ((H.brd (b := d2) (by repeat constructor)).gsi y1 M1.out).live, (HBxc.out.1 _ (H.get (e := Exc) (by repeat constructor))).gs, ((HBxc.out.1 _ (H.get (e := Exc) (by repeat constructor))).gsi y0 M0.out).live, ((HBxc.out.1 _ (H.get (e := Exc) (by repeat constructor))).gsi y0 M0.out).written⟩ ?_
            (try go_frame)
            refine tkH (i := 11) rfl (.of rfl) (.inr ⟨rfl, rfl⟩) ⟨H.rw_ (by repeat constructor), H.rw_ (by repeat constructor), (H.brd (b := d2) (by repeat constructor)).gs, ((H.brd (b := d2) (by repeat constructor)).gsi y1 M1.out).live, (HBxc.out.1 _ (H.get (e := Exc) (by repeat constructor))).gs, ((HBxc.out.1 _ (H.get (e := Exc) (by repeat constructor))).gsi y0 M0.out).live, ((HBxc.out.1 _ (H.get (e := Exc) (by repeat constructor))).gsi y0 M0.out).written⟩ ?_
            (try go_frame)
            refine tkH (i := 12) rfl (.of rfl) (.inr ⟨rfl, rfl⟩) ⟨H.rw_ (by repeat constructor), H.rw_ (by repeat constructor), (H.brd (b := d2) (by repeat constructor)).gs, ((H.brd (b := d2) (by repeat constructor)).gsi y1 M1.out).live, (HBxc.out.1 _ (H.get (e := Exc) (by repeat constructor))).gs, ((HBxc.out.1 _ (H.get (e := Exc) (by repeat constructor))).gsi y0 M0.out).live, ((HBxc.out.1 _ (H.get (e := Exc) (by repeat constructor))).gsi y0 M0.out).written⟩ ?_
            (try go_frame)
            refine tkH (i := 13) rfl (.of rfl) (.inr ⟨rfl, rfl⟩) ⟨H.rw_ (by repeat constructor), H.rw_ (by repeat constructor), (H.brd (b := d2) (by repeat constructor)).gs, ((H.brd (b := d2) (by repeat constructor)).gsi y1 M1.out).live, (HBxc.out.1 _ (H.get (e := Exc) (by repeat constructor))).gs, ((HBxc.out.1 _ (H.get (e := Exc) (by repeat constructor))).gsi y0 M0.out).live, ((HBxc.out.1 _ (H.get (e := Exc) (by repeat constructor))).gsi y0 M0.out).written⟩ ?_
            (try go_frame)
            refine tkH (i := 14) rfl (.of rfl) (.inr ⟨rfl, rfl⟩) ⟨H.rw_ (by repeat constructor), H.rw_ (by repeat constructor), (H.brd (b := d2) (by repeat constructor)).gs, ((H.brd (b := d2) (by repeat constructor)).gsi y1 M1.out).live, (HBxc.out.1 _ (H.get (e := Exc) (by repeat constructor))).gs, ((HBxc.out.1 _ (H.get (e := Exc) (by repeat constructor))).gsi y0 M0.out).live, ((HBxc.out.1 _ (H.get (e := Exc) (by repeat constructor))).gsi y0 M0.out).written⟩ ?_
            (try go_frame)
            refine tkH (i := 15) rfl (.of rfl) (.inr ⟨rfl, rfl⟩) ⟨H.rw_ (by repeat constructor), H.rw_ (by repeat constructor), (H.brd (b := d2) (by repeat constructor)).gs, ((H.brd (b := d2) (by repeat constructor)).gsi y1 M1.out).live, (HBxc.out.1 _ (H.get (e := Exc) (by repeat constructor))).gs, ((HBxc.out.1 _ (H.get (e := Exc) (by repeat constructor))).gsi y0 M0.out).live, ((HBxc.out.1 _ (H.get (e := Exc) (by repeat constructor))).gsi y0 M0.out).written⟩ ?_
            (try go_frame)
            refine tkH (i := 16) rfl (.of rfl) (.inr ⟨rfl, rfl⟩) ⟨H.rw_ (by repeat constructor), H.rw_ (by repeat constructor), (H.brd (b := d2) (by repeat constructor)).gs, ((H.brd (b := d2) (by repeat constructor)).gsi y1 M1.out).live, (HBxc.out.1 _ (H.get (e := Exc) (by repeat constructor))).gs, ((HBxc.out.1 _ (H.get (e := Exc) (by repeat constructor))).gsi y0 M0.out).live, ((HBxc.out.1 _ (H.get (e := Exc) (by repeat constructor))).gsi y0 M0.out).written⟩ ?_
            (try go_frame)
            refine tkH (i := 17) rfl (.of rfl) (.inr ⟨rfl, rfl⟩) ⟨H.rw_ (by repeat constructor), H.rw_ (by repeat constructor), (H.brd (b := d2) (by repeat constructor)).gs, ((H.brd (b := d2) (by repeat constructor)).gsi y1 M1.out).live, (HBxc.out.1 _ (H.get (e := Exc) (by repeat constructor))).gs, ((HBxc.out.1 _ (H.get (e := Exc) (by repeat constructor))).gsi y0 M0.out).live, ((HBxc.out.1 _ (H.get (e := Exc) (by repeat constructor))).gsi y0 M0.out).written⟩ ?_
            (try go_frame)
            refine tkH (i := 18) rfl (.of rfl) (.inr ⟨rfl, rfl⟩) ⟨H.rw_ (by repeat constructor), H.rw_ (by repeat constructor), (H.brd (b := d2) (by repeat constructor)).gs, ((H.brd (b := d2) (by repeat constructor)).gsi y1 M1.out).live, (HBxc.out.1 _ (H.get (e := Exc) (by repeat constructor))).gs, ((HBxc.out.1 _ (H.get (e := Exc) (by repeat constructor))).gsi y0 M0.out).live, ((HBxc.out.1 _ (H.get (e := Exc) (by repeat constructor))).gsi y0 M0.out).written⟩ ?_
            (try go_frame)
            refine tkH (i := 19) rfl (.of rfl) (.inr ⟨rfl, rfl⟩) ⟨H.rw_ (by repeat constructor), H.rw_ (by repeat constructor), (H.brd (b := d2) (by repeat constructor)).gs, ((H.brd (b := d2) (by repeat constructor)).gsi y1 M1.out).live, (HBxc.out.1 _ (H.get (e := Exc) (by repeat constructor))).gs, ((HBxc.out.1 _ (H.get (e := Exc) (by repeat constructor))).gsi y0 M0.out).live, ((HBxc.out.1 _ (H.get (e := Exc) (by repeat constructor))).gsi y0 M0.out).written⟩ ?_
            (try go_frame)
            refine tkH (i := 20) rfl (.of rfl) (.inr ⟨rfl, rfl⟩) ⟨H.rw_ (by repeat constructor), H.rw_ (by repeat constructor), (H.brd (b := d2) (by repeat constructor)).gs, ((H.brd (b := d2) (by repeat constructor)).gsi y1 M1.out).live, (HBxc.out.1 _ (H.get (e := Exc) (by repeat constructor))).gs, ((HBxc.out.1 _ (H.get (e := Exc) (by repeat constructor))).gsi y0 M0.out).live, ((HBxc.out.1 _ (H.get (e := Exc) (by repeat constructor))).gsi y0 M0.out).written⟩ ?_
            (try go_frame)
            refine tkH (i := 21) rfl (.of rfl) (.inr ⟨rfl, rfl⟩) ⟨H.rw_ (by repeat constructor), H.rw_ (by repeat constructor), (H.brd (b := d2) (by repeat constructor)).gs, ((H.brd (b := d2) (by repeat constructor)).gsi y1 M1.out).live, (HBxc.out.1 _ (H.get (e := Exc) (by repeat constructor))).gs, ((HBxc.out.1 _ (H.get (e := Exc) (by repeat constructor))).gsi y0 M0.out).live, ((HBxc.out.1 _ (H.get (e := Exc) (by repeat constructor))).gsi y0 M0.out).written⟩ ?_
            (try go_frame)
            refine tkH (i := 22) rfl (.of rfl) (.inr ⟨rfl, rfl⟩) ⟨H.rw_ (by repeat constructor), H.rw_ (by repeat constructor), (H.brd (b := d2) (by repeat constructor)).gs, ((H.brd (b := d2) (by repeat constructor)).gsi y1 M1.out).live, (HBxc.out.1 _ (H.get (e := Exc) (by repeat constructor))).gs, ((HBxc.out.1 _ (H.get (e := Exc) (by repeat constructor))).gsi y0 M0.out).live, ((HBxc.out.1 _ (H.get (e := Exc) (by repeat constructor))).gsi y0 M0.out).written⟩ ?_
            (try go_frame)
            refine tkH (i := 23) rfl (.of rfl) (yields_val (v := (.bool false)) rfl (fun _ => by go_simp)) ⟨H.rw_ (by repeat constructor), H.rw_ (by repeat constructor), (H.brd (b := d2) (by repeat constructor)).gs, ((H.brd (b := d2) (by repeat constructor)).gsi y1 M1.out).live, (HBxc.out.1 _ (H.get (e := Exc) (by repeat constructor))).gs, ((HBxc.out.1 _ (H.get (e := Exc) (by repeat constructor))).gsi y0 M0.out).live, ((HBxc.out.1 _ (H.get (e := Exc) (by repeat constructor))).gsi y0 M0.out).written⟩ ?_
            (try go_frame)
            refine wpAnyH_done (by kernel_rfl) ?_ _
            exact ⟨rfl, (), Lib.hid trivial, H.pick (.cons (by repeat constructor) (.cons (by repeat constructor) (.cons (by repeat constructor) (.cons (by repeat constructor) (.cons (by repeat constructor) (.cons (by repeat constructor) .nil)))))), by first | (simp only [puts_cons, puts_nil, Act.put, List.setIfInBounds_toArray, List.set_cons_succ, List.set_cons_zero]; done) | (simp only [puts_cons, puts_nil, Act.put, List.setIfInBounds_toArray, List.set_cons_succ, List.set_cons_zero]; rfl)⟩
          clear H
          rintro u w ⟨_, _, H, rfl⟩
          simp only [puts_cons, puts_nil, Act.put, List.setIfInBounds_toArray, List.set_cons_succ, List.set_cons_zero]
          go_wp2_with (first
            | go_skip
            | ((with_reducible refine at_box ?_); first | (refine wpList_box_H rfl rfl H rfl (by constructor) ?_; clear H; intro bQ w H))
            | ((with_reducible refine at_alloc ?_); first | (refine wpList_alloc_H rfl rfl H ?_; clear H; intro bQ w H))
            | ((with_reducible refine at_load ?_); first | (refine wpList_load_H rfl rfl H rfl (by repeat constructor) ?_) | (refine wpList_loads_H rfl rfl H rfl (by repeat constructor) ?_))
            | ((with_reducible refine at_store ?_); first | (refine wpList_store_H rfl rfl H rfl rfl (by repeat constructor) ?_; clear H; intro w H)))
          go_roundw
          case rel => exact ⟨i + 1, by omega, by go_num, H.pick (.cons (by repeat constructor) (.cons (by repeat constructor) (.cons (by repeat constructor) (.cons (by repeat constructor) (.cons (by repeat constructor) (.cons (by repeat constructor) .nil))))))⟩
          case measure => simp [intOf]; omega
        · have HB2 : Hid (((i : Int) != (q : Int)) = true) := Lib.hid (by simp; omega)
          have HZ0 : Hid (y0.live.xs[i]? = some z) := Lib.hid (by rw [← HNE.out i hiq]; exact HZ.out)
          go_wp2_with (first
            | go_skip
            | ((with_reducible refine at_box ?_); first | (refine wpList_box_H rfl rfl H rfl (by constructor) ?_; clear H; intro bQ w H))
            | ((with_reducible refine at_alloc ?_); first | (refine wpList_alloc_H rfl rfl H ?_; clear H; intro bQ w H))
            | ((with_reducible refine at_load ?_); first | (refine wpList_load_H rfl rfl H rfl (by repeat constructor) ?_) | (refine wpList_loads_H rfl rfl H rfl (by repeat constructor) ?_))
            | ((with_reducible refine at_store ?_); first | (refine wpList_store_H rfl rfl H rfl rfl (by repeat constructor) ?_; clear H; intro w H)))
          refine wp_cut (fun u a' w' => ∃ (_ : Unit), Hid True ∧ Hp W0 w' [.bare d2, Exc, .box b14 28 (barr d2).toList, .box b11 28 (barr xc).toList, .bare t2, .box b21 28 (barr t2).toList] ∧ a' = puts u [(154, (.int .i64 (i : Int))), (155, (.int .i64 (q : Int))), (156, (.bool true)), (157, (.bool true)), (158, (.pointer (some ⟨b14, 1, none⟩))), (159, (.slice d2.gs.A d2.gs.xs.length d2.gs.c)), (160, (.int .i64 (k : Int))), (161, (.pointer (some ⟨ablk d2.gs.A, aoff d2.gs.A + k * 15, none⟩))), (162, (.pointer (some ⟨ablk d2.gs.A, aoff d2.gs.A + k * 15 + 4, none⟩))), (163, (.slice y1.live.A y1.live.xs.length y1.live.c)), (164, (.int .i64 (i : Int))), (165, (.pointer (some ⟨ablk y1.live.A, aoff y1.live.A + i * 2, none⟩))), (166, z.val), (167, (.pointer (some ⟨b11, 1, none⟩))), (168, (.slice xc.gs.A xc.gs.xs.length xc.gs.c)), (169, (.int .i64 (k : Int))), (170, (.pointer (some ⟨ablk xc.gs.A, aoff xc.gs.A + k * 15, none⟩))), (171, (.pointer (some ⟨ablk xc.gs.A, aoff xc.gs.A + k * 15 + 4, none⟩))), (172, (.slice y0.live.A y0.live.xs.length y0.live.c)), (173, (.int .i64 (i : Int))), (174, (.pointer (some ⟨ablk y0.live.A, aoff y0.live.A + i * 2, none⟩))), (175, z.val), (176, (.bool false)), (177, (.bool false))]) ?_ ?_
          · refine wp_region_held (S := (fun w' => Rw w' b14 28 (barr d2) ∧ (Rw w' b11 28 (barr xc) ∧ ((Rd GV.cells 15 w' d2.gs ∧ (Rd Slot.cells 2 w' y1.live ∧ (Rd GV.cells 15 w' xc.gs ∧ (Rd Slot.cells 2 w' y0.live ∧ Rd Slot.cells 2 w' y0.written)))))))) (by kernel_rfl) ?_
            replace H := H.drew
            refine tkH (i := 0) rfl .here (yields_val (v := (.int .i64 (i : Int))) rfl (fun _ => by go_simp)) ⟨H.rw_ (by repeat constructor), H.rw_ (by repeat constructor), (H.brd (b := d2) (by repeat constructor)).gs, ((H.brd (b := d2) (by repeat constructor)).gsi y1 M1.out).live, (HBxc.out.1 _ (H.get (e := Exc) (by repeat constructor))).gs, ((HBxc.out.1 _ (H.get (e := Exc) (by repeat constructor))).gsi y0 M0.out).live, ((HBxc.out.1 _ (H.get (e := Exc) (by repeat constructor))).gsi y0 M0.out).written⟩ ?_
            (try go_frame)
            refine tkH (i := 1) rfl (.of rfl) (yields_val (v := (.int .i64 (q : Int))) rfl (fun _ => by go_simp)) ⟨H.rw_ (by repeat constructor), H.rw_ (by repeat constructor), (H.brd (b := d2) (by repeat constructor)).gs, ((H.brd (b := d2) (by repeat constructor)).gsi y1 M1.out).live, (HBxc.out.1 _ (H.get (e := Exc) (by repeat constructor))).gs, ((HBxc.out.1 _ (H.get (e := Exc) (by repeat constructor))).gsi y0 M0.out).live, ((HBxc.out.1 _ (H.get (e := Exc) (by repeat constructor))).gsi y0 M0.out).written⟩ ?_
            (try go_frame)
            refine tkH (i := 2) rfl (.of rfl) (yields_val (v := (.bool true)) rfl (fun _ => by (first | (go_simp; done) | (go_simp; rw [HB2.out]) | (rw [← HB2.out]; go_simp; done) | (go_simp; omega) | (go_simp; simpa using HB2.out)))) ⟨H.rw_ (by repeat constructor), H.rw_ (by repeat constructor), (H.brd (b := d2) (by repeat constructor)).gs, ((H.brd (b := d2) (by repeat constructor)).gsi y1 M1.out).live, (HBxc.out.1 _ (H.get (e := Exc) (by repeat constructor))).gs, ((HBxc.out.1 _ (H.get (e := Exc) (by repeat constructor))).gsi y0 M0.out).live, ((HBxc.out.1 _ (H.get (e := Exc) (by repeat constructor))).gsi y0 M0.out).written⟩ ?_
            (try go_frame)
            refine tkH (i := 3) rfl (.of rfl) (yields_val (v := (.bool true)) rfl (fun _ => by go_simp)) ⟨H.rw_ (by repeat constructor), H.rw_ (by repeat constructor), (H.brd (b := d2) (by repeat constructor)).gs, ((H.brd (b := d2) (by repeat constructor)).gsi y1 M1.out).live, (HBxc.out.1 _ (H.get (e := Exc) (by repeat constructor))).gs, ((HBxc.out.1 _ (H.get (e := Exc) (by repeat constructor))).gsi y0 M0.out).live, ((HBxc.out.1 _ (H.get (e := Exc) (by repeat constructor))).gsi y0 M0.out).written⟩ ?_
            (try go_frame)
            refine tkH (i := 4) rfl (.of rfl) (yields_val (v := (.pointer (some ⟨b14, 1, none⟩))) rfl (fun _ => by go_simp)) ⟨H.rw_ (by repeat constructor), H.rw_ (by repeat constructor), (H.brd (b := d2) (by repeat constructor)).gs, ((H.brd (b := d2) (by repeat constructor)).gsi y1 M1.out).live, (HBxc.out.1 _ (H.get (e := Exc) (by repeat constructor))).gs, ((HBxc.out.1 _ (H.get (e := Exc) (by repeat constructor))).gsi y0 M0.out).live, ((HBxc.out.1 _ (H.get (e := Exc) (by repeat constructor))).gsi y0 M0.out).written⟩ ?_
            (try go_frame)
            refine tkH (i := 5) rfl (.of rfl) (yields_load1_R rfl rfl rfl (fun _ hS => hS.1) rfl) ⟨H.rw_ (by repeat constructor), H.rw_ (by repeat constructor), (H.brd (b := d2) (by repeat constructor)).gs, ((H.brd (b := d2) (by repeat constructor)).gsi y1 M1.out).live, (HBxc.out.1 _ (H.get (e := Exc) (by repeat constructor))).gs, ((HBxc.out.1 _ (H.get (e := Exc) (by repeat constructor))).gsi y0 M0.out).live, ((HBxc.out.1 _ (H.get (e := Exc) (by repeat constructor))).gsi y0 M0.out).written⟩ ?_
            (try go_frame)
            refine tkH (i := 6) rfl (.of rfl) (yields_val (v := (.int .i64 (k : Int))) rfl (fun _ => by go_simp)) ⟨H.rw_ (by repeat constructor), H.rw_ (by repeat constructor), (H.brd (b := d2) (by repeat constructor)).gs, ((H.brd (b := d2) (by repeat constructor)).gsi y1 M1.out).live, (HBxc.out.1 _ (H.get (e := Exc) (by repeat constructor))).gs, ((HBxc.out.1 _ (H.get (e := Exc) (by repeat constructor))).gsi y0 M0.out).live, ((HBxc.out.1 _ (H.get (e := Exc) (by repeat constructor))).gsi y0 M0.out).written⟩ ?_
            (try go_frame)
            refine tkH (i := 7) rfl (.of rfl) (yields_index_n rfl rfl (k := k) d2.gs (fun _ hS => hS.2.2.1) rfl rfl rfl hk1) ⟨H.rw_ (by repeat constructor), H.rw_ (by repeat constructor), (H.brd (b := d2) (by repeat constructor)).gs, ((H.brd (b := d2) (by repeat constructor)).gsi y1 M1.out).live, (HBxc.out.1 _ (H.get (e := Exc) (by repeat constructor))).gs, ((HBxc.out.1 _ (H.get (e := Exc) (by repeat constructor))).gsi y0 M0.out).live, ((HBxc.out.1 _ (H.get (e := Exc) (by repeat constructor))).gsi y0 M0.out).written⟩ ?_
            (try go_frame)
            refine tkH (i := 8) rfl (.of rfl) (yields_val (v := (.pointer (some ⟨ablk d2.gs.A, aoff d2.gs.A + k * 15 + 4, none⟩))) rfl (fun _ => by go_simp)) ⟨H.rw_ (by repeat constructor), H.rw_ (by repeat constructor), (H.brd (b := d2) (by repeat constructor)).gs, ((H.brd (b := d2) (by repeat constructor)).gsi y1 M1.out).live, (HBxc.out.1 _ (H.get (e := Exc) (by repeat constructor))).gs, ((HBxc.out.1 _ (H.get (e := Exc) (by repeat constructor))).gsi y0 M0.out).live, ((HBxc.out.1 _ (H.get (e := Exc) (by repeat constructor))).gsi y0 M0.out).written⟩ ?_
            (try go_frame)
            refine tkH (i := 9) rfl (.of rfl) (yields_load_rd rfl rfl d2.gs (fun _ hS => hS.2.2.1) rfl y1 K1.out (by first | exact rfl | exact (Nat.add_zero _).symm) rfl) ⟨H.rw_ (by repeat constructor), H.rw_ (by repeat constructor), (H.brd (b := d2) (by repeat constructor)).gs, ((H.brd (b := d2) (by repeat constructor)).gsi y1 M1.out).live, (HBxc.out.1 _ (H.get (e := Exc) (by repeat constructor))).gs, ((HBxc.out.1 _ (H.get (e := Exc) (by repeat constructor))).gsi y0 M0.out).live, ((HBxc.out.1 _ (H.get (e := Exc) (by repeat constructor))).gsi y0 M0.out).written⟩ ?_
            (try go_frame)
            refine tkH (i := 10) rfl (.of rfl) (yields_val (v := (.int .i64 (i : Int))) rfl (fun _ => by go_simp)) ⟨H.rw_ (by repeat constructor), H.rw_ (by repeat constructor), (H.brd (b := d2) (by repeat constructor)).gs, ((H.brd (b := d2) (by repeat constructor)).gsi y1 M1.out).live, (HBxc.out.1 _ (H.get (e := Exc) (by repeat constructor))).gs, ((HBxc.out.1 _ (H.get (e := Exc) (by repeat constructor))).gsi y0 M0.out).live, ((HBxc.out.1 _ (H.get (e := Exc) (by repeat constructor))).gsi y0 M0.out).written⟩ ?_
            (try go_frame)
            refine tkH (i := 11) rfl (.of rfl) (yields_index_n rfl rfl (k := i) y1.live (fun _ hS => hS.2.2.2.1) rfl rfl rfl hi1) ⟨H.rw_ (by repeat constructor), H.rw_ (by repeat constructor), (H.brd (b := d2) (by repeat constructor)).gs, ((H.brd (b := d2) (by repeat constructor)).gsi y1 M1.out).live, (HBxc.out.1 _ (H.get (e := Exc) (by repeat constructor))).gs, ((HBxc.out.1 _ (H.get (e := Exc) (by repeat constructor))).gsi y0 M0.out).live, ((HBxc.out.1 _ (H.get (e := Exc) (by repeat constructor))).gsi y0 M0.out).written⟩ ?_
            (try go_frame)
            refine tkH (i := 12) rfl (.of rfl) (yields_loads_rdd rfl rfl y1.live (fun _ hS => hS.2.2.2.1) rfl z HZ.out (by first | exact rfl | exact (Nat.add_zero _).symm) (by repeat constructor)) ⟨H.rw_ (by repeat constructor), H.rw_ (by repeat constructor), (H.brd (b := d2) (by repeat constructor)).gs, ((H.brd (b := d2) (by repeat constructor)).gsi y1 M1.out).live, (HBxc.out.1 _ (H.get (e := Exc) (by repeat constructor))).gs, ((HBxc.out.1 _ (H.get (e := Exc) (by repeat constructor))).gsi y0 M0.out).live, ((HBxc.out.1 _ (H.get (e := Exc) (by repeat constructor))).gsi y0 M0.out).written⟩ ?_
            (try go_frame)
            refine tkH (i := 13) rfl (.of rfl) (yields_val (v := (.pointer (some ⟨b11, 1, none⟩))) rfl (fun _ => by go_simp)) ⟨H.rw_ (by repeat constructor), H.rw_ (by repeat constructor), (H.brd (b := d2) (by repeat constructor)).gs, ((H.brd (b := d2) (by repeat constructor)).gsi y1 M1.out).live, (HBxc.out.1 _ (H.get (e := Exc) (by repeat constructor))).gs, ((HBxc.out.1 _ (H.get (e := Exc) (by repeat constructor))).gsi y0 M0.out).live, ((HBxc.out.1 _ (H.get (e := Exc) (by repeat constructor))).gsi y0 M0.out).written⟩ ?_
            (try go_frame)
            refine tkH (i := 14) rfl (.of rfl) (yields_load1_R rfl rfl rfl (fun _ hS => hS.2.1) rfl) ⟨H.rw_ (by repeat constructor), H.rw_ (by repeat constructor), (H.brd (b := d2) (by repeat constructor)).gs, ((H.brd (b := d2) (by repeat constructor)).gsi y1 M1.out).live, (HBxc.out.1 _ (H.get (e := Exc) (by repeat constructor))).gs, ((HBxc.out.1 _ (H.get (e := Exc) (by repeat constructor))).gsi y0 M0.out).live, ((HBxc.out.1 _ (H.get (e := Exc) (by repeat constructor))).gsi y0 M0.out).written⟩ ?_
            (try go_frame)
            refine tkH (i := 15) rfl (.of rfl) (yields_val (v := (.int .i64 (k : Int))) rfl (fun _ => by go_simp)) ⟨H.rw_ (by repeat constructor), H.rw_ (by repeat constructor), (H.brd (b := d2) (by repeat constructor)).gs, ((H.brd (b := d2) (by repeat constructor)).gsi y1 M1.out).live, (HBxc.out.1 _ (H.get (e := Exc) (by repeat constructor))).gs, ((HBxc.out.1 _ (H.get (e := Exc) (by repeat constructor))).gsi y0 M0.out).live, ((HBxc.out.1 _ (H.get (e := Exc) (by repeat constructor))).gsi y0 M0.out).written⟩ ?_
            (try go_frame)
            refine tkH (i := 16) rfl (.of rfl) (yields_index_n rfl rfl (k := k) xc.gs (fun _ hS => hS.2.2.2.2.1) rfl rfl rfl hk0) ⟨H.rw_ (by repeat constructor), H.rw_ (by repeat constructor), (H.brd (b := d2) (by repeat constructor)).gs, ((H.brd (b := d2) (by repeat constructor)).gsi y1 M1.out).live, (HBxc.out.1 _ (H.get (e := Exc) (by repeat constructor))).gs, ((HBxc.out.1 _ (H.get (e := Exc) (by repeat constructor))).gsi y0 M0.out).live, ((HBxc.out.1 _ (H.get (e := Exc) (by repeat constructor))).gsi y0 M0.out).written⟩ ?_
            (try go_frame)
            refine tkH (i := 17) rfl (.of rfl) (yields_val (v := (.pointer (some ⟨ablk xc.gs.A, aoff xc.gs.A + k * 15 + 4, none⟩))) rfl (fun _ => by go_simp)) ⟨H.rw_ (by repeat constructor), H.rw_ (by repeat constructor), (H.brd (b := d2) (by repeat constructor)).gs, ((H.brd (b := d2) (by repeat constructor)).gsi y1 M1.out).live, (HBxc.out.1 _ (H.get (e := Exc) (by repeat constructor))).gs, ((HBxc.out.1 _ (H.get (e := Exc) (by repeat constructor))).gsi y0 M0.out).live, ((HBxc.out.1 _ (H.get (e := Exc) (by repeat constructor))).gsi y0 M0.out).written⟩ ?_
            (try go_frame)
            refine tkH (i := 18) rfl (.of rfl) (yields_load_rd rfl rfl xc.gs (fun _ hS => hS.2.2.2.2.1) rfl y0 K0.out (by first | exact rfl | exact (Nat.add_zero _).symm) rfl) ⟨H.rw_ (by repeat constructor), H.rw_ (by repeat constructor), (H.brd (b := d2) (by repeat constructor)).gs, ((H.brd (b := d2) (by repeat constructor)).gsi y1 M1.out).live, (HBxc.out.1 _ (H.get (e := Exc) (by repeat constructor))).gs, ((HBxc.out.1 _ (H.get (e := Exc) (by repeat constructor))).gsi y0 M0.out).live, ((HBxc.out.1 _ (H.get (e := Exc) (by repeat constructor))).gsi y0 M0.out).written⟩ ?_
            (try go_frame)
            refine tkH (i := 19) rfl (.of rfl) (yields_val (v := (.int .i64 (i : Int))) rfl (fun _ => by go_simp)) ⟨H.rw_ (by repeat constructor), H.rw_ (by repeat constructor), (H.brd (b := d2) (by repeat constructor)).gs, ((H.brd (b := d2) (by repeat constructor)).gsi y1 M1.out).live, (HBxc.out.1 _ (H.get (e := Exc) (by repeat constructor))).gs, ((HBxc.out.1 _ (H.get (e := Exc) (by repeat constructor))).gsi y0 M0.out).live, ((HBxc.out.1 _ (H.get (e := Exc) (by repeat constructor))).gsi y0 M0.out).written⟩ ?_
            (try go_frame)
            refine tkH (i := 20) rfl (.of rfl) (yields_index_n rfl rfl (k := i) y0.live (fun _ hS => hS.2.2.2.2.2.1) rfl rfl rfl hi2) ⟨H.rw_ (by repeat constructor), H.rw_ (by repeat constructor), (H.brd (b := d2) (by repeat constructor)).gs, ((H.brd (b := d2) (by repeat constructor)).gsi y1 M1.out).live, (HBxc.out.1 _ (H.get (e := Exc) (by repeat constructor))).gs, ((HBxc.out.1 _ (H.get (e := Exc) (by repeat constructor))).gsi y0 M0.out).live, ((HBxc.out.1 _ (H.get (e := Exc) (by repeat constructor))).gsi y0 M0.out).written⟩ ?_
            (try go_frame)
            refine tkH (i := 21) rfl (.of rfl) (yields_loads_rdd rfl rfl y0.live (fun _ hS => hS.2.2.2.2.2.1) rfl z HZ0.out (by first | exact rfl | exact (Nat.add_zero _).symm) (by repeat constructor)) ⟨H.rw_ (by repeat constructor), H.rw_ (by repeat constructor), (H.brd (b := d2) (by repeat constructor)).gs, ((H.brd (b := d2) (by repeat constructor)).gsi y1 M1.out).live, (HBxc.out.1 _ (H.get (e := Exc) (by repeat constructor))).gs, ((HBxc.out.1 _ (H.get (e := Exc) (by repeat constructor))).gsi y0 M0.out).live, ((HBxc.out.1 _ (H.get (e := Exc) (by repeat constructor))).gsi y0 M0.out).written⟩ ?_
            (try go_frame)
            refine tkH (i := 22) rfl (.of rfl) (yields_val (v := (.bool false)) rfl (fun _ => by (first | (go_simp; done) | (go_simp; rw [bne_self_eq_false]) | (rw [← bne_self_eq_false]; go_simp; done) | (go_simp; omega) | (go_simp; simpa using bne_self_eq_false)))) ⟨H.rw_ (by repeat constructor), H.rw_ (by repeat constructor), (H.brd (b := d2) (by repeat constructor)).gs, ((H.brd (b := d2) (by repeat constructor)).gsi y1 M1.out).live, (HBxc.out.1 _ (H.get (e := Exc) (by repeat constructor))).gs, ((HBxc.out.1 _ (H.get (e := Exc) (by repeat constructor))).gsi y0 M0.out).live, ((HBxc.out.1 _ (H.get (e := Exc) (by repeat constructor))).gsi y0 M0.out).written⟩ ?_
            (try go_frame)
            refine tkH (i := 23) rfl (.of rfl) (yields_val (v := (.bool false)) rfl (fun _ => by go_simp)) ⟨H.rw_ (by repeat constructor), H.rw_ (by repeat constructor), (H.brd (b := d2) (by repeat constructor)).gs, ((H.brd (b := d2) (by repeat constructor)).gsi y1 M1.out).live, (HBxc.out.1 _ (H.get (e := Exc) (by repeat constructor))).gs, ((HBxc.out.1 _ (H.get (e := Exc) (by repeat constructor))).gsi y0 M0.out).live, ((HBxc.out.1 _ (H.get (e := Exc) (by repeat constructor))).gsi y0 M0.out).written⟩ ?_
            (try go_frame)
            refine wpAnyH_done (by kernel_rfl) ?_ _
            exact ⟨rfl, (), Lib.hid trivial, H.pick (.cons (by repeat constructor) (.cons (by repeat constructor) (.cons (by repeat constructor) (.cons (by repeat constructor) (.cons (by repeat constructor) (.cons (by repeat constructor) .nil)))))), by first | (simp only [puts_cons, puts_nil, Act.put, List.setIfInBounds_toArray, List.set_cons_succ, List.set_cons_zero]; done) | (simp only [puts_cons, puts_nil, Act.put, List.setIfInBounds_toArray, List.set_cons_succ, List.set_cons_zero]; rfl)⟩
          clear H
          rintro u w ⟨_, _, H, rfl⟩
          simp only [puts_cons, puts_nil, Act.put, List.setIfInBounds_toArray, List.set_cons_succ, List.set_cons_zero]
          go_wp2_with (first
            | go_skip
            | ((with_reducible refine at_box ?_); first | (refine wpList_box_H rfl rfl H rfl (by constructor) ?_; clear H; intro bQ w H))
            | ((with_reducible refine at_alloc ?_); first | (refine wpList_alloc_H rfl rfl H ?_; clear H; intro bQ w H))
            | ((with_reducible refine at_load ?_); first | (refine wpList_load_H rfl rfl H rfl (by repeat constructor) ?_) | (refine wpList_loads_H rfl rfl H rfl (by repeat constructor) ?_))
            | ((with_reducible refine at_store ?_); first | (refine wpList_store_H rfl rfl H rfl rfl (by repeat constructor) ?_; clear H; intro w H)))
          go_roundw
          case rel => exact ⟨i + 1, by omega, by go_num, H.pick (.cons (by repeat constructor) (.cons (by repeat constructor) (.cons (by repeat constructor) (.cons (by repeat constructor) (.cons (by repeat constructor) (.cons (by repeat constructor) .nil))))))⟩
          case measure => simp [intOf]; omega
      · have hie : i = 4 := by omega
        subst hie
        obtain ⟨z, hz⟩ : ∃ z, y1.live.xs[q]? = some z := ⟨_, List.getElem?_eq_getElem (by rw [L1.out]; exact hq4)⟩
        have HZ := Lib.hid hz
        have HZ0 : Hid (y0.written.xs[q]? = some z) := Lib.hid (by rw [← HEQ.out]; exact hz)
        have hi1 : q < y1.live.xs.length := by rw [L1.out]; exact hq4
        have hi2 : q < y0.written.xs.length := by rw [LW.out]; exact hq4
        clear hz
        go_wp2_with (first
          | go_skip
          | ((with_reducible refine at_box ?_); first | (refine wpList_box_H rfl rfl H rfl (by constructor) ?_; clear H; intro bQ w H))
          | ((with_reducible refine at_alloc ?_); first | (refine wpList_alloc_H rfl rfl H ?_; clear H; intro bQ w H))
          | ((with_reducible refine at_load ?_); first | (refine wpList_load_H rfl rfl H rfl (by repeat constructor) ?_) | (refine wpList_loads_H rfl rfl H rfl (by repeat constructor) ?_))
          | ((with_reducible refine at_store ?_); first | (refine wpList_store_H rfl rfl H rfl rfl (by repeat constructor) ?_; clear H; intro w H)))
        refine wp_cut (fun u a' w' => ∃ (g1 : GV), Hid True ∧ Hp W0 w' [.bare d2] ∧ a' = puts u [(178, (.pointer (some ⟨b14, 1, none⟩))), (179, (.slice d2.gs.A d2.gs.xs.length d2.gs.c)), (180, (.int .i64 (k : Int))), (181, (.pointer (some ⟨ablk d2.gs.A, aoff d2.gs.A + k * 15, none⟩))), (182, (.pointer (some ⟨ablk d2.gs.A, aoff d2.gs.A + k * 15 + 4, none⟩))), (183, (.slice y1.live.A y1.live.xs.length y1.live.c)), (184, (.int .i64 (q : Int))), (185, (.pointer (some ⟨ablk y1.live.A, aoff y1.live.A + q * 2, none⟩))), (186, z.val), (187, (.pointer (some ⟨b11, 1, none⟩))), (188, (.slice xc.gs.A xc.gs.xs.length xc.gs.c)), (189, (.int .i64 (k : Int))), (190, (.pointer (some ⟨ablk xc.gs.A, aoff xc.gs.A + k * 15, none⟩))), (191, (.pointer (some ⟨ablk xc.gs.A, aoff xc.gs.A + k * 15 + 3, none⟩))), (192, (.slice y0.written.A y0.written.xs.length y0.written.c)), (193, (.int .i64 (q : Int))), (194, (.pointer (some ⟨ablk y0.written.A, aoff y0.written.A + q * 2, none⟩))), (195, z.val), (196, (.bool true)), (197, (.bool true)), (198, (.bool true)), (199, (.bool true)), (200, (.bool true)), (201, t2.val), (202, g1.val), (203, (.slice g1.live.A g1.live.xs.length g1.live.c)), (204, (.agg #[.int .i64 5, .int .i64 3])), (205, (.int .i64 5)), (206, (.bool true)), (207, (.bool true)), (2, (.bool true))]) ?_ ?_
        · refine wp_region_held (S := (fun w' => Rw w' b14 28 (barr d2) ∧ (Rw w' b11 28 (barr xc) ∧ (Rw w' b21 28 (barr t2) ∧ ((Rd GV.cells 15 w' d2.gs ∧ (Rd Slot.cells 2 w' y1.live ∧ (Rd GV.cells 15 w' xc.gs ∧ (Rd Slot.cells 2 w' y0.live ∧ Rd Slot.cells 2 w' y0.written))))))))) (by kernel_rfl) ?_
          replace H := H.drew
          refine tkH (i := 0) rfl .here (yields_val (v := (.pointer (some ⟨b14, 1, none⟩))) rfl (fun _ => by go_simp)) ⟨H.rw_ (by repeat constructor), H.rw_ (by repeat constructor), H.rw_ (by repeat constructor), (H.brd (b := d2) (by repeat constructor)).gs, ((H.brd (b := d2) (by repeat constructor)).gsi y1 M1.out).live, (HBxc.out.1 _ (H.get (e := Exc) (by repeat constructor))).gs, ((HBxc.out.1 _ (H.get (e := Exc) (by repeat constructor))).gsi y0 M0.out).live, ((HBxc.out.1 _ (H.get (e := Exc) (by repeat constructor))).gsi y0 M0.out).written⟩ ?_
          (try go_frame)
          refine tkH (i := 1) rfl (.of rfl) (yields_load1_R rfl rfl rfl (fun _ hS => hS.1) rfl) ⟨H.rw_ (by repeat constructor), H.rw_ (by repeat constructor), H.rw_ (by repeat constructor), (H.brd (b := d2) (by repeat constructor)).gs, ((H.brd (b := d2) (by repeat constructor)).gsi y1 M1.out).live, (HBxc.out.1 _ (H.get (e := Exc) (by repeat constructor))).gs, ((HBxc.out.1 _ (H.get (e := Exc) (by repeat constructor))).gsi y0 M0.out).live, ((HBxc.out.1 _ (H.get (e := Exc) (by repeat constructor))).gsi y0 M0.out).written⟩ ?_
          (try go_frame)
          refine tkH (i := 2) rfl (.of rfl) (yields_val (v := (.int .i64 (k : Int))) rfl (fun _ => by go_simp)) ⟨H.rw_ (by repeat constructor), H.rw_ (by repeat constructor), H.rw_ (by repeat constructor), (H.brd (b := d2) (by repeat constructor)).gs, ((H.brd (b := d2) (by repeat constructor)).gsi y1 M1.out).live, (HBxc.out.1 _ (H.get (e := Exc) (by repeat constructor))).gs, ((HBxc.out.1 _ (H.get (e := Exc) (by repeat constructor))).gsi y0 M0.out).live, ((HBxc.out.1 _ (H.get (e := Exc) (by repeat constructor))).gsi y0 M0.out).written⟩ ?_
          (try go_frame)
          refine tkH (i := 3) rfl (.of rfl) (yields_index_n rfl rfl (k := k) d2.gs (fun _ hS => hS.2.2.2.1) rfl rfl rfl hk1) ⟨H.rw_ (by repeat constructor), H.rw_ (by repeat constructor), H.rw_ (by repeat constructor), (H.brd (b := d2) (by repeat constructor)).gs, ((H.brd (b := d2) (by repeat constructor)).gsi y1 M1.out).live, (HBxc.out.1 _ (H.get (e := Exc) (by repeat constructor))).gs, ((HBxc.out.1 _ (H.get (e := Exc) (by repeat constructor))).gsi y0 M0.out).live, ((HBxc.out.1 _ (H.get (e := Exc) (by repeat constructor))).gsi y0 M0.out).written⟩ ?_
          (try go_frame)
          refine tkH (i := 4) rfl (.of rfl) (yields_val (v := (.pointer (some ⟨ablk d2.gs.A, aoff d2.gs.A + k * 15 + 4, none⟩))) rfl (fun _ => by go_simp)) ⟨H.rw_ (by repeat constructor), H.rw_ (by repeat constructor), H.rw_ (by repeat constructor), (H.brd (b := d2) (by repeat constructor)).gs, ((H.brd (b := d2) (by repeat constructor)).gsi y1 M1.out).live, (HBxc.out.1 _ (H.get (e := Exc) (by repeat constructor))).gs, ((HBxc.out.1 _ (H.get (e := Exc) (by repeat constructor))).gsi y0 M0.out).live, ((HBxc.out.1 _ (H.get (e := Exc) (by repeat constructor))).gsi y0 M0.out).written⟩ ?_
          (try go_frame)
          refine tkH (i := 5) rfl (.of rfl) (yields_load_rd rfl rfl d2.gs (fun _ hS => hS.2.2.2.1) rfl y1 K1.out (by first | exact rfl | exact (Nat.add_zero _).symm) rfl) ⟨H.rw_ (by repeat constructor), H.rw_ (by repeat constructor), H.rw_ (by repeat constructor), (H.brd (b := d2) (by repeat constructor)).gs, ((H.brd (b := d2) (by repeat constructor)).gsi y1 M1.out).live, (HBxc.out.1 _ (H.get (e := Exc) (by repeat constructor))).gs, ((HBxc.out.1 _ (H.get (e := Exc) (by repeat constructor))).gsi y0 M0.out).live, ((HBxc.out.1 _ (H.get (e := Exc) (by repeat constructor))).gsi y0 M0.out).written⟩ ?_
          (try go_frame)
          refine tkH (i := 6) rfl (.of rfl) (yields_val (v := (.int .i64 (q : Int))) rfl (fun _ => by go_simp)) ⟨H.rw_ (by repeat constructor), H.rw_ (by repeat constructor), H.rw_ (by repeat constructor), (H.brd (b := d2) (by repeat constructor)).gs, ((H.brd (b := d2) (by repeat constructor)).gsi y1 M1.out).live, (HBxc.out.1 _ (H.get (e := Exc) (by repeat constructor))).gs, ((HBxc.out.1 _ (H.get (e := Exc) (by repeat constructor))).gsi y0 M0.out).live, ((HBxc.out.1 _ (H.get (e := Exc) (by repeat constructor))).gsi y0 M0.out).written⟩ ?_
          (try go_frame)
          refine tkH (i := 7) rfl (.of rfl) (yields_index_n rfl rfl (k := q) y1.live (fun _ hS => hS.2.2.2.2.1) rfl rfl rfl hi1) ⟨H.rw_ (by repeat constructor), H.rw_ (by repeat constructor), H.rw_ (by repeat constructor), (H.brd (b := d2) (by repeat constructor)).gs, ((H.brd (b := d2) (by repeat constructor)).gsi y1 M1.out).live, (HBxc.out.1 _ (H.get (e := Exc) (by repeat constructor))).gs, ((HBxc.out.1 _ (H.get (e := Exc) (by repeat constructor))).gsi y0 M0.out).live, ((HBxc.out.1 _ (H.get (e := Exc) (by repeat constructor))).gsi y0 M0.out).written⟩ ?_
          (try go_frame)
          refine tkH (i := 8) rfl (.of rfl) (yields_loads_rdd rfl rfl y1.live (fun _ hS => hS.2.2.2.2.1) rfl z HZ.out (by first | exact rfl | exact (Nat.add_zero _).symm) (by repeat constructor)) ⟨H.rw_ (by repeat constructor), H.rw_ (by repeat constructor), H.rw_ (by repeat constructor), (H.brd (b := d2) (by repeat constructor)).gs, ((H.brd (b := d2) (by repeat constructor)).gsi y1 M1.out).live, (HBxc.out.1 _ (H.get (e := Exc) (by repeat constructor))).gs, ((HBxc.out.1 _ (H.get (e := Exc) (by repeat constructor))).gsi y0 M0.out).live, ((HBxc.out.1 _ (H.get (e := Exc) (by repeat constructor))).gsi y0 M0.out).written⟩ ?_
          (try go_frame)
          refine tkH (i := 9) rfl (.of rfl) (yields_val (v := (.pointer (some ⟨b11, 1, none⟩))) rfl (fun _ => by go_simp)) ⟨H.rw_ (by repeat constructor), H.rw_ (by repeat constructor), H.rw_ (by repeat constructor), (H.brd (b := d2) (by repeat constructor)).gs, ((H.brd (b := d2) (by repeat constructor)).gsi y1 M1.out).live, (HBxc.out.1 _ (H.get (e := Exc) (by repeat constructor))).gs, ((HBxc.out.1 _ (H.get (e := Exc) (by repeat constructor))).gsi y0 M0.out).live, ((HBxc.out.1 _ (H.get (e := Exc) (by repeat constructor))).gsi y0 M0.out).written⟩ ?_
          (try go_frame)
          refine tkH (i := 10) rfl (.of rfl) (yields_load1_R rfl rfl rfl (fun _ hS => hS.2.1) rfl) ⟨H.rw_ (by repeat constructor), H.rw_ (by repeat constructor), H.rw_ (by repeat constructor), (H.brd (b := d2) (by repeat constructor)).gs, ((H.brd (b := d2) (by repeat constructor)).gsi y1 M1.out).live, (HBxc.out.1 _ (H.get (e := Exc) (by repeat constructor))).gs, ((HBxc.out.1 _ (H.get (e := Exc) (by repeat constructor))).gsi y0 M0.out).live, ((HBxc.out.1 _ (H.get (e := Exc) (by repeat constructor))).gsi y0 M0.out).written⟩ ?_
          (try go_frame)
          refine tkH (i := 11) rfl (.of rfl) (yields_val (v := (.int .i64 (k : Int))) rfl (fun _ => by go_simp)) ⟨H.rw_ (by repeat constructor), H.rw_ (by repeat constructor), H.rw_ (by repeat constructor), (H.brd (b := d2) (by repeat constructor)).gs, ((H.brd (b := d2) (by repeat constructor)).gsi y1 M1.out).live, (HBxc.out.1 _ (H.get (e := Exc) (by repeat constructor))).gs, ((HBxc.out.1 _ (H.get (e := Exc) (by repeat constructor))).gsi y0 M0.out).live, ((HBxc.out.1 _ (H.get (e := Exc) (by repeat constructor))).gsi y0 M0.out).written⟩ ?_
          (try go_frame)
          refine tkH (i := 12) rfl (.of rfl) (yields_index_n rfl rfl (k := k) xc.gs (fun _ hS => hS.2.2.2.2.2.1) rfl rfl rfl hk0) ⟨H.rw_ (by repeat constructor), H.rw_ (by repeat constructor), H.rw_ (by repeat constructor), (H.brd (b := d2) (by repeat constructor)).gs, ((H.brd (b := d2) (by repeat constructor)).gsi y1 M1.out).live, (HBxc.out.1 _ (H.get (e := Exc) (by repeat constructor))).gs, ((HBxc.out.1 _ (H.get (e := Exc) (by repeat constructor))).gsi y0 M0.out).live, ((HBxc.out.1 _ (H.get (e := Exc) (by repeat constructor))).gsi y0 M0.out).written⟩ ?_
          (try go_frame)
          refine tkH (i := 13) rfl (.of rfl) (yields_val (v := (.pointer (some ⟨ablk xc.gs.A, aoff xc.gs.A + k * 15 + 3, none⟩))) rfl (fun _ => by go_simp)) ⟨H.rw_ (by repeat constructor), H.rw_ (by repeat constructor), H.rw_ (by repeat constructor), (H.brd (b := d2) (by repeat constructor)).gs, ((H.brd (b := d2) (by repeat constructor)).gsi y1 M1.out).live, (HBxc.out.1 _ (H.get (e := Exc) (by repeat constructor))).gs, ((HBxc.out.1 _ (H.get (e := Exc) (by repeat constructor))).gsi y0 M0.out).live, ((HBxc.out.1 _ (H.get (e := Exc) (by repeat constructor))).gsi y0 M0.out).written⟩ ?_
          (try go_frame)
          refine tkH (i := 14) rfl (.of rfl) (yields_load_rd rfl rfl xc.gs (fun _ hS => hS.2.2.2.2.2.1) rfl y0 K0.out (by first | exact rfl | exact (Nat.add_zero _).symm) rfl) ⟨H.rw_ (by repeat constructor), H.rw_ (by repeat constructor), H.rw_ (by repeat constructor), (H.brd (b := d2) (by repeat constructor)).gs, ((H.brd (b := d2) (by repeat constructor)).gsi y1 M1.out).live, (HBxc.out.1 _ (H.get (e := Exc) (by repeat constructor))).gs, ((HBxc.out.1 _ (H.get (e := Exc) (by repeat constructor))).gsi y0 M0.out).live, ((HBxc.out.1 _ (H.get (e := Exc) (by repeat constructor))).gsi y0 M0.out).written⟩ ?_
          (try go_frame)
          refine tkH (i := 15) rfl (.of rfl) (yields_val (v := (.int .i64 (q : Int))) rfl (fun _ => by go_simp)) ⟨H.rw_ (by repeat constructor), H.rw_ (by repeat constructor), H.rw_ (by repeat constructor), (H.brd (b := d2) (by repeat constructor)).gs, ((H.brd (b := d2) (by repeat constructor)).gsi y1 M1.out).live, (HBxc.out.1 _ (H.get (e := Exc) (by repeat constructor))).gs, ((HBxc.out.1 _ (H.get (e := Exc) (by repeat constructor))).gsi y0 M0.out).live, ((HBxc.out.1 _ (H.get (e := Exc) (by repeat constructor))).gsi y0 M0.out).written⟩ ?_
          (try go_frame)
          refine tkH (i := 16) rfl (.of rfl) (yields_index_n rfl rfl (k := q) y0.written (fun _ hS => hS.2.2.2.2.2.2.2) rfl rfl rfl hi2) ⟨H.rw_ (by repeat constructor), H.rw_ (by repeat constructor), H.rw_ (by repeat constructor), (H.brd (b := d2) (by repeat constructor)).gs, ((H.brd (b := d2) (by repeat constructor)).gsi y1 M1.out).live, (HBxc.out.1 _ (H.get (e := Exc) (by repeat constructor))).gs, ((HBxc.out.1 _ (H.get (e := Exc) (by repeat constructor))).gsi y0 M0.out).live, ((HBxc.out.1 _ (H.get (e := Exc) (by repeat constructor))).gsi y0 M0.out).written⟩ ?_
          (try go_frame)
          refine tkH (i := 17) rfl (.of rfl) (yields_loads_rdd rfl rfl y0.written (fun _ hS => hS.2.2.2.2.2.2.2) rfl z HZ0.out (by first | exact rfl | exact (Nat.add_zero _).symm) (by repeat constructor)) ⟨H.rw_ (by repeat constructor), H.rw_ (by repeat constructor), H.rw_ (by repeat constructor), (H.brd (b := d2) (by repeat constructor)).gs, ((H.brd (b := d2) (by repeat constructor)).gsi y1 M1.out).live, (HBxc.out.1 _ (H.get (e := Exc) (by repeat constructor))).gs, ((HBxc.out.1 _ (H.get (e := Exc) (by repeat constructor))).gsi y0 M0.out).live, ((HBxc.out.1 _ (H.get (e := Exc) (by repeat constructor))).gsi y0 M0.out).written⟩ ?_
          (try go_frame)
          refine tkH (i := 18) rfl (.of rfl) (yields_val (v := (.bool true)) rfl (fun _ => by (first | (go_simp; done) | (go_simp; rw [beq_self_eq_true]) | (rw [← beq_self_eq_true]; go_simp; done) | (go_simp; omega) | (go_simp; simpa using beq_self_eq_true)))) ⟨H.rw_ (by repeat constructor), H.rw_ (by repeat constructor), H.rw_ (by repeat constructor), (H.brd (b := d2) (by repeat constructor)).gs, ((H.brd (b := d2) (by repeat constructor)).gsi y1 M1.out).live, (HBxc.out.1 _ (H.get (e := Exc) (by repeat constructor))).gs, ((HBxc.out.1 _ (H.get (e := Exc) (by repeat constructor))).gsi y0 M0.out).live, ((HBxc.out.1 _ (H.get (e := Exc) (by repeat constructor))).gsi y0 M0.out).written⟩ ?_
          (try go_frame)
          refine tkH (i := 19) rfl (.of rfl) (yields_val (v := (.bool true)) rfl (fun _ => by go_simp)) ⟨H.rw_ (by repeat constructor), H.rw_ (by repeat constructor), H.rw_ (by repeat constructor), (H.brd (b := d2) (by repeat constructor)).gs, ((H.brd (b := d2) (by repeat constructor)).gsi y1 M1.out).live, (HBxc.out.1 _ (H.get (e := Exc) (by repeat constructor))).gs, ((HBxc.out.1 _ (H.get (e := Exc) (by repeat constructor))).gsi y0 M0.out).live, ((HBxc.out.1 _ (H.get (e := Exc) (by repeat constructor))).gsi y0 M0.out).written⟩ ?_
          (try go_frame)
          refine tkH (i := 20) rfl (.of rfl) (yields_val (v := (.bool true)) rfl (fun _ => by go_simp)) ⟨H.rw_ (by repeat constructor), H.rw_ (by repeat constructor), H.rw_ (by repeat constructor), (H.brd (b := d2) (by repeat constructor)).gs, ((H.brd (b := d2) (by repeat constructor)).gsi y1 M1.out).live, (HBxc.out.1 _ (H.get (e := Exc) (by repeat constructor))).gs, ((HBxc.out.1 _ (H.get (e := Exc) (by repeat constructor))).gsi y0 M0.out).live, ((HBxc.out.1 _ (H.get (e := Exc) (by repeat constructor))).gsi y0 M0.out).written⟩ ?_
          (try go_frame)
          refine tkH (i := 21) rfl (.of rfl) (yields_val (v := (.bool true)) rfl (fun _ => by go_simp)) ⟨H.rw_ (by repeat constructor), H.rw_ (by repeat constructor), H.rw_ (by repeat constructor), (H.brd (b := d2) (by repeat constructor)).gs, ((H.brd (b := d2) (by repeat constructor)).gsi y1 M1.out).live, (HBxc.out.1 _ (H.get (e := Exc) (by repeat constructor))).gs, ((HBxc.out.1 _ (H.get (e := Exc) (by repeat constructor))).gsi y0 M0.out).live, ((HBxc.out.1 _ (H.get (e := Exc) (by repeat constructor))).gsi y0 M0.out).written⟩ ?_
          (try go_frame)
          refine tkH (i := 22) rfl (.of rfl) (yields_val (v := (.bool true)) rfl (fun _ => by go_simp)) ⟨H.rw_ (by repeat constructor), H.rw_ (by repeat constructor), H.rw_ (by repeat constructor), (H.brd (b := d2) (by repeat constructor)).gs, ((H.brd (b := d2) (by repeat constructor)).gsi y1 M1.out).live, (HBxc.out.1 _ (H.get (e := Exc) (by repeat constructor))).gs, ((HBxc.out.1 _ (H.get (e := Exc) (by repeat constructor))).gsi y0 M0.out).live, ((HBxc.out.1 _ (H.get (e := Exc) (by repeat constructor))).gsi y0 M0.out).written⟩ ?_
          (try go_frame)
          refine tkH (i := 23) rfl (.of rfl) (yields_loads_R rfl rfl rfl (fun _ hS => hS.2.2.1) (by repeat constructor)) ⟨H.rw_ (by repeat constructor), H.rw_ (by repeat constructor), H.rw_ (by repeat constructor), (H.brd (b := d2) (by repeat constructor)).gs, ((H.brd (b := d2) (by repeat constructor)).gsi y1 M1.out).live, (HBxc.out.1 _ (H.get (e := Exc) (by repeat constructor))).gs, ((HBxc.out.1 _ (H.get (e := Exc) (by repeat constructor))).gsi y0 M0.out).live, ((HBxc.out.1 _ (H.get (e := Exc) (by repeat constructor))).gsi y0 M0.out).written⟩ ?_
          (try go_frame)
          refine anyH_1 (i := 24) (by kernel_rfl) ?_
          refine wpOp_at rfl (.of rfl) rfl ?_
          refine wp_call_H Tryz.f26 rfl rfl Tryz.func26 (by kernel_rfl) rfl rfl (made_H (val := fun d : GV => d.val) H (guestOfD_c t2 0 _ (H.brd (b := t2) (by repeat constructor)) Zt2)) ?_
          clear H
          rintro _ w ⟨g1, rfl, HG1, H⟩
          have Zg1 : GBig g1 := size_big HG1.out (Nat.le_trans (gAtM_size _ _) Zt2)
          have HSL : Hid (slotAtM g1.live.xs 1 = ⟨5, 3⟩) := Lib.hid (by have h := congrArg MG.live HG1.out; rw [Ht2.out] at h; have h2 : g1.live.xs = (gAtM N2 0).live := h; rw [h2]; exact Q5.out)
          refine ⟨⟨H.rw_ (by repeat constructor), H.rw_ (by repeat constructor), H.rw_ (by repeat constructor), (H.brd (b := d2) (by repeat constructor)).gs, ((H.brd (b := d2) (by repeat constructor)).gsi y1 M1.out).live, (HBxc.out.1 _ (H.get (e := Exc) (by repeat constructor))).gs, ((HBxc.out.1 _ (H.get (e := Exc) (by repeat constructor))).gsi y0 M0.out).live, ((HBxc.out.1 _ (H.get (e := Exc) (by repeat constructor))).gsi y0 M0.out).written⟩, ?_⟩
          (try go_frame)
          refine tkH (i := 25) rfl (.of rfl) (yields_val (v := (.slice g1.live.A g1.live.xs.length g1.live.c)) rfl (fun _ => by go_simp)) ⟨H.rw_ (by repeat constructor), H.rw_ (by repeat constructor), H.rw_ (by repeat constructor), (H.brd (b := d2) (by repeat constructor)).gs, ((H.brd (b := d2) (by repeat constructor)).gsi y1 M1.out).live, (HBxc.out.1 _ (H.get (e := Exc) (by repeat constructor))).gs, ((HBxc.out.1 _ (H.get (e := Exc) (by repeat constructor))).gsi y0 M0.out).live, ((HBxc.out.1 _ (H.get (e := Exc) (by repeat constructor))).gsi y0 M0.out).written⟩ ?_
          (try go_frame)
          refine anyH_1 (i := 26) (by kernel_rfl) ?_
          refine wpOp_at rfl (.of rfl) rfl ?_
          refine wp_call_H Tryz.f34 rfl rfl Tryz.func34 (by kernel_rfl) rfl rfl (val_eqD (v' := (.agg #[.int .i64 5, .int .i64 3])) (val_H H (specSlotAt_c g1.live 1 _ (H.grd1 (g := g1) (by repeat constructor)).live Zg1.2.2.1)) (by rw [HSL.out])) ?_
          clear H
          rintro _ w ⟨rfl, H⟩
          refine ⟨⟨H.rw_ (by repeat constructor), H.rw_ (by repeat constructor), H.rw_ (by repeat constructor), (H.brd (b := d2) (by repeat constructor)).gs, ((H.brd (b := d2) (by repeat constructor)).gsi y1 M1.out).live, (HBxc.out.1 _ (H.get (e := Exc) (by repeat constructor))).gs, ((HBxc.out.1 _ (H.get (e := Exc) (by repeat constructor))).gsi y0 M0.out).live, ((HBxc.out.1 _ (H.get (e := Exc) (by repeat constructor))).gsi y0 M0.out).written⟩, ?_⟩
          (try go_frame)
          refine tkH (i := 27) rfl (.of rfl) (yields_val (v := (.int .i64 5)) rfl (fun _ => by go_simp)) ⟨H.rw_ (by repeat constructor), H.rw_ (by repeat constructor), H.rw_ (by repeat constructor), (H.brd (b := d2) (by repeat constructor)).gs, ((H.brd (b := d2) (by repeat constructor)).gsi y1 M1.out).live, (HBxc.out.1 _ (H.get (e := Exc) (by repeat constructor))).gs, ((HBxc.out.1 _ (H.get (e := Exc) (by repeat constructor))).gsi y0 M0.out).live, ((HBxc.out.1 _ (H.get (e := Exc) (by repeat constructor))).gsi y0 M0.out).written⟩ ?_
          (try go_frame)
          refine tkH (i := 28) rfl (.of rfl) (yields_val (v := (.bool true)) rfl (fun _ => by (first | (go_simp; done) | (go_simp; rw [beq_self_eq_true]) | (rw [← beq_self_eq_true]; go_simp; done) | (go_simp; omega) | (go_simp; simpa using beq_self_eq_true)))) ⟨H.rw_ (by repeat constructor), H.rw_ (by repeat constructor), H.rw_ (by repeat constructor), (H.brd (b := d2) (by repeat constructor)).gs, ((H.brd (b := d2) (by repeat constructor)).gsi y1 M1.out).live, (HBxc.out.1 _ (H.get (e := Exc) (by repeat constructor))).gs, ((HBxc.out.1 _ (H.get (e := Exc) (by repeat constructor))).gsi y0 M0.out).live, ((HBxc.out.1 _ (H.get (e := Exc) (by repeat constructor))).gsi y0 M0.out).written⟩ ?_
          (try go_frame)
          refine tkH (i := 29) rfl (.of rfl) (yields_val (v := (.bool true)) rfl (fun _ => by go_simp)) ⟨H.rw_ (by repeat constructor), H.rw_ (by repeat constructor), H.rw_ (by repeat constructor), (H.brd (b := d2) (by repeat constructor)).gs, ((H.brd (b := d2) (by repeat constructor)).gsi y1 M1.out).live, (HBxc.out.1 _ (H.get (e := Exc) (by repeat constructor))).gs, ((HBxc.out.1 _ (H.get (e := Exc) (by repeat constructor))).gsi y0 M0.out).live, ((HBxc.out.1 _ (H.get (e := Exc) (by repeat constructor))).gsi y0 M0.out).written⟩ ?_
          (try go_frame)
          refine tkH (i := 30) rfl (.of rfl) (yields_val (v := (.bool true)) rfl (fun _ => by go_simp)) ⟨H.rw_ (by repeat constructor), H.rw_ (by repeat constructor), H.rw_ (by repeat constructor), (H.brd (b := d2) (by repeat constructor)).gs, ((H.brd (b := d2) (by repeat constructor)).gsi y1 M1.out).live, (HBxc.out.1 _ (H.get (e := Exc) (by repeat constructor))).gs, ((HBxc.out.1 _ (H.get (e := Exc) (by repeat constructor))).gsi y0 M0.out).live, ((HBxc.out.1 _ (H.get (e := Exc) (by repeat constructor))).gsi y0 M0.out).written⟩ ?_
          (try go_frame)
          refine wpAnyH_done (by kernel_rfl) ?_ _
          exact ⟨rfl, g1, Lib.hid trivial, H.pick (.cons (by repeat constructor) .nil), by first | (simp only [puts_cons, puts_nil, Act.put, List.setIfInBounds_toArray, List.set_cons_succ, List.set_cons_zero]; done) | (simp only [puts_cons, puts_nil, Act.put, List.setIfInBounds_toArray, List.set_cons_succ, List.set_cons_zero]; rfl)⟩
        clear H
        rintro u w ⟨g1, _, H, rfl⟩
        simp only [puts_cons, puts_nil, Act.put, List.setIfInBounds_toArray, List.set_cons_succ, List.set_cons_zero]
        go_wp2_with (first
          | go_skip
          | ((with_reducible refine at_box ?_); first | (refine wpList_box_H rfl rfl H rfl (by constructor) ?_; clear H; intro bQ w H))
          | ((with_reducible refine at_alloc ?_); first | (refine wpList_alloc_H rfl rfl H ?_; clear H; intro bQ w H))
          | ((with_reducible refine at_load ?_); first | (refine wpList_load_H rfl rfl H rfl (by repeat constructor) ?_) | (refine wpList_loads_H rfl rfl H rfl (by repeat constructor) ?_))
          | ((with_reducible refine at_store ?_); first | (refine wpList_store_H rfl rfl H rfl rfl (by repeat constructor) ?_; clear H; intro w H)))
        go_ret
        exact ⟨rfl, H.below⟩
end Go.Proofs.YtaafnenmdombiaaGreat
