/- Contracts of the reference's draws of memories and bare machines. No condition but that the argument lies in memory. -/
import Derived.Maps.RangeWalk
import Derived.Test.YtaafnenmdombiaaGreatDc
import Derived.Test.YtaafnenmdombiaaGreatBt
namespace Go.Proofs.YtaafnenmdombiaaGreat
set_option linter.unusedSimpArgs false
set_option linter.unusedVariables false
open Go.RowKit
section
variable {P : Program} {o : Oper} {a : Act} {w0 w : World} {L : List En} {Q : Go.Exit → Act → World → Prop} {K : Act → World → Prop} {α : Type} {enc : α → List Value} {sz bytes e : Nat}
theorem wp_litD_H {t : TypeId} {n : Nat} {parts : Array (Nat × Operand)} (ho : o.op = .buildSlice t n parts) (H : Hp w0 w L) [hE : EI P t enc sz bytes e] {zc : List Value} [hZ : TyZ P e zc] (ys : List α)
    (hf : Instr.fill (fun i => some (i * sz, sz)) ((Array.range (n * sz)).map (zc.toArray[· % zc.toArray.size]!)) (parts.map fun (i, x) => (i, a.eval x)).toList = some (ys.flatMap enc).toArray)
    (hn : ys.length = n) (hpos : ¬ n * sz = 0) (hsm : n * sz ≤ 2 ^ 24)
    (h : ∀ b w', Hp w0 w' (.sl enc sz e ⟨some ⟨b, 0, none⟩, n, ys⟩ :: L) → K (a.put o.dst (.slice (some ⟨b, 0, none⟩) n n)) w') : o.wp P a w K Q := by
  obtain ⟨i, z, hi, hz, hsize, hby, hzs⟩ := hE.info.hi
  have hzc : z.cells = zc.toArray := by
    have h := hZ.zero
    rw [hi] at h
    simp only [Option.bind_some, hz, Option.map_some, Option.some.injEq] at h
    rw [← h]
  have hr : (Instr.buildSlice t n (parts.map fun (i, x) => (i, a.eval x))).run P w = .ok (.slice (some ⟨w.heap.size, 0, none⟩) n n) (w.alloc (.cells (ys.flatMap enc).toArray e)) := by
    rw [← hzc] at hf
    exact run_buildSlice w t e n _ _ i z hE.info.ht hi hz (by rw [hsize]; exact Nat.not_lt.2 hsm) (by rw [hsize]; exact hpos) (by rw [hsize]; exact hf)
  unfold Oper.wp execOp
  simp only [ho, Sem.run_bind, Sem.run_pure, Result.andThen_ok, hr]
  refine h _ _ (H.add_sl ?_ ((Below.refl _ _).alloc (Nat.le_refl _) _))
  exact own_new w (ys.flatMap enc).toArray n ys (Nat.le_refl _) (by simp) (by simp [flat_len hE.info.henc]) hn.symm (by unfold maxLen; have := Nat.le_mul_of_pos_right ys.length hE.info.hsz; rw [hn] at this; omega)
end

/-- The sizes of a drawn memory. -/
abbrev MSm (m : Sl (Sl Int)) : Prop := m.xs.length ≤ 8 ∧ ∀ x ∈ m.xs, x.xs.length ≤ 4
abbrev GsSm (g : Sl GV) : Prop := g.xs.length ≤ 4 ∧ ∀ x ∈ g.xs, GSm x
/-- A part of memory in which a memory of pages is read. -/
abbrev MRd (E : En) (m : Sl (Sl Int)) : Prop := ∀ w, E.ok w → Rd hcells 1 w m ∧ ∀ x ∈ m.xs, Rd icell 1 w x
theorem mrd_own (m : Sl (Sl Int)) : MRd (.all [.rows m, .many En.int m.xs]) m := fun w h => by
  have h1 : (En.rows m).ok w := h (.rows m) (by simp)
  have h2 : (En.many En.int m.xs).ok w := h (.many En.int m.xs) (by simp)
  exact ⟨Own.rd h1 h_len, fun x hx => Own.rd (h2 x hx) int_len⟩
set_option maxRecDepth 100000 in
set_option maxHeartbeats 4000000 in
theorem l04Page_H (s : Sl Int) (b : Nat) {W0 w : World} {L L1 : List En} (H : Hp W0 w L) (t : Take L (.cu b s) L1) (R : Rd u8cell 1 W0 s ∧ s.xs.length ≤ 1048576) : Calls Tryz.prog 224 #[.pointer (some ⟨b, 0, none⟩)] w fun e w' => ∃ x : Sl Int, e = .returned (.slice x.A x.xs.length x.c) ∧ x.xs.length = 4 ∧ Hp W0 w' (.int x :: .cu b s :: L1) := by
  replace H := (H.take t).seal
  clear t
  go_enter Tryz.func224, Tryz.ntmps224
  go_wp2_with (first
    | go_skip
    | ((with_reducible refine at_box ?_); first | (refine wpList_box_H rfl rfl H rfl (by constructor) ?_; clear H; intro b w H))
    | ((with_reducible refine at_alloc ?_); first | (refine wpList_alloc_H rfl rfl H ?_; clear H; intro b w H))
    | ((with_reducible refine at_load ?_); first | (refine wpList_load_H rfl rfl H rfl (by repeat constructor) ?_) | (refine wpList_loads_H rfl rfl H rfl (by repeat constructor) ?_))
    | ((with_reducible refine at_store ?_); first | (refine wpList_store_H rfl rfl H rfl rfl (by repeat constructor) ?_; clear H; intro w H))
    | ((with_reducible refine at_slice ?_); first | (refine wpList_nil_H rfl rfl H ?_; clear H; intro bn w H)))
  go_loopw [3, 4] (fun ov i wr => ∃ (k : Nat) (p : Sl Int), k ≤ 4 ∧ i = .int .i64 k ∧ ov = .slice p.A p.xs.length p.c ∧ p.xs.length = k ∧ Hp W0 wr [.int p, .cu b s, .all L1]) (fun _ i _ => 4 - (intOf i).toNat)
  case atStart => exact ⟨0, ⟨some ⟨bn, 0, none⟩, 0, []⟩, by omega, rfl, rfl, rfl, H.pick (.cons (by repeat constructor) (.cons (by repeat constructor) (.cons (by repeat constructor) .nil)))⟩
  case round =>
    clear H
    obtain ⟨k, p, hk0, rfl, rfl, hl, H⟩ := hrel
    have hz : p.xs.length ≤ 4 := by omega
    have hz2 : 4 ≤ k → p.xs.length = 4 := by omega
    have HZ := Lib.hid hz2; clear hz2
    have HL := Lib.hid hl; clear hl
    go_wp2_with (first
      | go_skip
      | ((with_reducible refine at_box ?_); first | (refine wpList_box_H rfl rfl H rfl (by constructor) ?_; clear H; intro b w H))
      | ((with_reducible refine at_alloc ?_); first | (refine wpList_alloc_H rfl rfl H ?_; clear H; intro b w H))
      | ((with_reducible refine at_load ?_); first | (refine wpList_load_H rfl rfl H rfl (by repeat constructor) ?_) | (refine wpList_loads_H rfl rfl H rfl (by repeat constructor) ?_))
      | ((with_reducible refine at_store ?_); first | (refine wpList_store_H rfl rfl H rfl rfl (by repeat constructor) ?_; clear H; intro w H))
      | ((with_reducible refine at_slice ?_); first | ((with_reducible refine at_dst 13 ?_); refine wpList_one_H rfl rfl H v rfl CellsOf.int rfl (by decide) ?_; clear H; intro b1 w H))
      | ((with_reducible refine at_append ?_); first | ((with_reducible refine at_dst 14 ?_); refine wpList_append_H rfl rfl H p (⟨some ⟨b1, 0, none⟩, 1, [v]⟩ : Sl (Int)) rfl rfl (by repeat constructor) (H.rd (s := (⟨some ⟨b1, 0, none⟩, 1, [v]⟩ : Sl (Int))) (by repeat constructor) int_len) (by simp only [List.length_cons, List.length_nil]; omega) (by decide) ?_; clear H; intro p2 w h2 H))
      | (go_at_call 94; refine (l01Below_H s b _ (by decide) (by decide) H (by repeat constructor) R).mono ?_; clear H; rintro e w ⟨v, rfl, va, vb, H⟩))
    all_goals first
      | (go_ret; exact ⟨p, rfl, HZ.out (by omega), (H.pick (.cons (by repeat constructor) (.cons (by repeat constructor) (.cons (by repeat constructor) .nil)))).uns2⟩)
      | (go_roundw; (case rel => exact ⟨k + 1, p2, by omega, by go_num, rfl, by rw [h2.out]; simp [HL.out], H.pick (.cons (by repeat constructor) (.cons (by repeat constructor) (.cons (by repeat constructor) .nil)))⟩); (case measure => simp [intOf]; omega))
set_option maxRecDepth 100000 in
set_option maxHeartbeats 4000000 in
theorem l04Mem_H (s : Sl Int) (b : Nat) (n : Nat) (hn : n ≤ 8) {W0 w : World} {L L1 : List En} (H : Hp W0 w L) (t : Take L (.cu b s) L1) (R : Rd u8cell 1 W0 s ∧ s.xs.length ≤ 1048576) : Calls Tryz.prog 214 #[.pointer (some ⟨b, 0, none⟩), .int .i64 n] w fun e w' => ∃ x : Sl (Sl Int), e = .returned (.slice x.A x.xs.length x.c) ∧ x.xs.length = n ∧ (∀ y ∈ x.xs, y.xs.length = 4) ∧ Hp W0 w' (.rows x :: .many En.int x.xs :: .cu b s :: L1) := by
  replace H := (H.take t).seal
  clear t
  go_enter Tryz.func214, Tryz.ntmps214
  go_wp2_with (first
    | go_skip
    | ((with_reducible refine at_box ?_); first | (refine wpList_box_H rfl rfl H rfl (by constructor) ?_; clear H; intro b w H))
    | ((with_reducible refine at_alloc ?_); first | (refine wpList_alloc_H rfl rfl H ?_; clear H; intro b w H))
    | ((with_reducible refine at_load ?_); first | (refine wpList_load_H rfl rfl H rfl (by repeat constructor) ?_) | (refine wpList_loads_H rfl rfl H rfl (by repeat constructor) ?_))
    | ((with_reducible refine at_store ?_); first | (refine wpList_store_H rfl rfl H rfl rfl (by repeat constructor) ?_; clear H; intro w H))
    | ((with_reducible refine at_slice ?_); first | (refine wpList_nil_H rfl rfl H ?_; clear H; intro bn w H)))
  go_loopw [5, 6] (fun ov i wr => ∃ (k : Nat) (p : Sl (Sl Int)), k ≤ n ∧ i = .int .i64 k ∧ ov = .slice p.A p.xs.length p.c ∧ p.xs.length = k ∧ Hid (∀ y ∈ p.xs, y.xs.length = 4) ∧ Hp W0 wr [.rows p, .many En.int p.xs, .cu b s, .all L1]) (fun _ i _ => n - (intOf i).toNat)
  case atStart => exact ⟨0, ⟨some ⟨bn, 0, none⟩, 0, []⟩, by omega, rfl, rfl, rfl, Lib.hid (by simp), ((H.many_nil En.int).pick (.cons (by repeat constructor) (.cons (by repeat constructor) (.cons (by repeat constructor) (.cons (by repeat constructor) .nil)))))⟩
  case round =>
    clear H
    obtain ⟨k, p, hk0, rfl, rfl, hl, HY, H⟩ := hrel
    have hz : p.xs.length ≤ 8 := by omega
    have hz2 : n ≤ k → p.xs.length = n := by omega
    have HZ := Lib.hid hz2; clear hz2
    have HL := Lib.hid hl; clear hl
    by_cases hkn : k < n
    · skip
      go_wp2_with (first
        | go_skip
        | ((with_reducible refine at_box ?_); first | (refine wpList_box_H rfl rfl H rfl (by constructor) ?_; clear H; intro b w H))
        | ((with_reducible refine at_alloc ?_); first | (refine wpList_alloc_H rfl rfl H ?_; clear H; intro b w H))
        | ((with_reducible refine at_load ?_); first | (refine wpList_load_H rfl rfl H rfl (by repeat constructor) ?_) | (refine wpList_loads_H rfl rfl H rfl (by repeat constructor) ?_))
        | ((with_reducible refine at_store ?_); first | (refine wpList_store_H rfl rfl H rfl rfl (by repeat constructor) ?_; clear H; intro w H))
        | ((with_reducible refine at_slice ?_); first | ((with_reducible refine at_dst 16 ?_); refine wpList_one_H rfl rfl H r rfl CellsOf.slice rfl (by decide) ?_; clear H; intro b1 w H))
        | ((with_reducible refine at_append ?_); first | ((with_reducible refine at_dst 17 ?_); refine wpList_append_H rfl rfl H p (⟨some ⟨b1, 0, none⟩, 1, [r]⟩ : Sl (Sl Int)) rfl rfl (by repeat constructor) (H.rd (s := (⟨some ⟨b1, 0, none⟩, 1, [r]⟩ : Sl (Sl Int))) (by repeat constructor) h_len) (by simp only [List.length_cons, List.length_nil]; omega) (by decide) ?_; clear H; intro p2 w h2 H))
        | (go_at_call 224; refine (l04Page_H s b H (by repeat constructor) R).mono ?_; clear H; rintro e w ⟨r, rfl, hr, H⟩; have HR := Lib.hid hr; clear hr))
      have H2 := Hp.many_snoc (f := En.int) ((H.take (e := .many En.int p.xs) (by repeat constructor)).take (e := .int r) (by repeat constructor))
      have e2 : p2.xs = p.xs ++ [r] := h2.out
      rw [← e2] at H2
      go_roundw
      case rel =>
        refine ⟨k + 1, p2, by omega, by go_num, rfl, by rw [e2]; simp [HL.out], Lib.hid ?_, H2.pick (.cons (by repeat constructor) (.cons (by repeat constructor) (.cons (by repeat constructor) (.cons (by repeat constructor) .nil))))⟩
        rw [e2]
        intro y hy
        rcases List.mem_append.1 hy with hy | hy
        · exact HY.out y hy
        · rw [List.mem_singleton.1 hy]; exact HR.out
      case measure => simp [intOf]; omega
    · have hke : k = n := by omega
      subst hke
      clear hkn
      go_wp2_with (first
        | go_skip
        | ((with_reducible refine at_box ?_); first | (refine wpList_box_H rfl rfl H rfl (by constructor) ?_; clear H; intro b w H))
        | ((with_reducible refine at_alloc ?_); first | (refine wpList_alloc_H rfl rfl H ?_; clear H; intro b w H))
        | ((with_reducible refine at_load ?_); first | (refine wpList_load_H rfl rfl H rfl (by repeat constructor) ?_) | (refine wpList_loads_H rfl rfl H rfl (by repeat constructor) ?_))
        | ((with_reducible refine at_store ?_); first | (refine wpList_store_H rfl rfl H rfl rfl (by repeat constructor) ?_; clear H; intro w H)))
      go_ret
      exact ⟨p, rfl, HZ.out (Nat.le_refl _), HY.out, (H.pick (.cons (by repeat constructor) (.cons (by repeat constructor) (.cons (by repeat constructor) (.cons (by repeat constructor) .nil))))).uns3⟩
set_option maxRecDepth 100000 in
set_option maxHeartbeats 4000000 in
theorem l17At_H (s : Sl Int) (b : Nat) {W0 w : World} {L L1 : List En} (H : Hp W0 w L) (t : Take L (.cu b s) L1) (R : Rd u8cell 1 W0 s ∧ s.xs.length ≤ 1048576) : Calls Tryz.prog 69 #[.pointer (some ⟨b, 0, none⟩)] w fun e w' => ∃ x : Int, e = .returned (.int .i64 x) ∧ Hp W0 w' (.cu b s :: L1) := by
  replace H := (H.take t).seal
  clear t
  go_enter Tryz.func69, Tryz.ntmps69
  go_wp2_with (first
    | go_skip
    | ((with_reducible refine at_box ?_); first | (refine wpList_box_H rfl rfl H rfl (by constructor) ?_; clear H; intro b w H))
    | ((with_reducible refine at_alloc ?_); first | (refine wpList_alloc_H rfl rfl H ?_; clear H; intro b w H))
    | ((with_reducible refine at_load ?_); first | (refine wpList_load_H rfl rfl H rfl (by repeat constructor) ?_) | (refine wpList_loads_H rfl rfl H rfl (by repeat constructor) ?_))
    | ((with_reducible refine at_store ?_); first | (refine wpList_store_H rfl rfl H rfl rfl (by repeat constructor) ?_; clear H; intro w H))
    | ((with_reducible refine at_slice ?_); first | ((with_reducible refine at_dst 4 ?_); refine wpList_lit_H rfl rfl H ([0, 0, 1, 1, 2, -1, 9223372036854775807] : List Int) (by kernel_rfl) rfl (by decide) (by decide) ?_; clear H; intro bl w H))
    | (go_at_call 84; refine (l01PickInt_H s b (⟨some ⟨bl, 0, none⟩, 7, [0, 0, 1, 1, 2, -1, 9223372036854775807]⟩ : Sl Int) H (by repeat constructor) (by repeat constructor) R (by simp) (by simp)).mono ?_; clear H; rintro e w ⟨v, rfl, vm, H⟩; have VM := Lib.hid vm; clear vm))
  all_goals (go_ret; exact ⟨_, rfl, (H.pick (.cons (by repeat constructor) (.cons (by repeat constructor) .nil))).unseal⟩)
set_option maxRecDepth 100000 in
set_option maxHeartbeats 4000000 in
theorem l19Val_H (s : Sl Int) (b : Nat) {W0 w : World} {L L1 : List En} (H : Hp W0 w L) (t : Take L (.cu b s) L1) (R : Rd u8cell 1 W0 s ∧ s.xs.length ≤ 1048576) : Calls Tryz.prog 70 #[.pointer (some ⟨b, 0, none⟩)] w fun e w' => ∃ x : Int, e = .returned (.int .i64 x) ∧ Hp W0 w' (.cu b s :: L1) := by
  replace H := (H.take t).seal
  clear t
  go_enter Tryz.func70, Tryz.ntmps70
  go_wp2_with (first
    | go_skip
    | ((with_reducible refine at_box ?_); first | (refine wpList_box_H rfl rfl H rfl (by constructor) ?_; clear H; intro b w H))
    | ((with_reducible refine at_alloc ?_); first | (refine wpList_alloc_H rfl rfl H ?_; clear H; intro b w H))
    | ((with_reducible refine at_load ?_); first | (refine wpList_load_H rfl rfl H rfl (by repeat constructor) ?_) | (refine wpList_loads_H rfl rfl H rfl (by repeat constructor) ?_))
    | ((with_reducible refine at_store ?_); first | (refine wpList_store_H rfl rfl H rfl rfl (by repeat constructor) ?_; clear H; intro w H))
    | ((with_reducible refine at_slice ?_); first | ((with_reducible refine at_dst 4 ?_); refine wpList_lit_H rfl rfl H ([0, 7, 50, 99, 100, -1] : List Int) (by kernel_rfl) rfl (by decide) (by decide) ?_; clear H; intro bl w H))
    | (go_at_call 84; refine (l01PickInt_H s b (⟨some ⟨bl, 0, none⟩, 6, [0, 7, 50, 99, 100, -1]⟩ : Sl Int) H (by repeat constructor) (by repeat constructor) R (by simp) (by simp)).mono ?_; clear H; rintro e w ⟨v, rfl, vm, H⟩; have VM := Lib.hid vm; clear vm))
  all_goals (go_ret; exact ⟨_, rfl, (H.pick (.cons (by repeat constructor) (.cons (by repeat constructor) .nil))).unseal⟩)
theorem Hp.uns6 {w0 w : World} {x y z u v t : En} {L : List En} (H : Hp w0 w [x, y, z, u, v, t, .all L]) : Hp w0 w (x :: y :: z :: u :: v :: t :: L) := Hp.uns (M := [x, y, z, u, v, t]) H
theorem Hp.add_nil {w0 w : World} {L : List En} {α : Type} (enc : α → List Value) (sz e : Nat) (H : Hp w0 w L) : Hp w0 w (.sl enc sz e ⟨none, 0, []⟩ :: L) :=
  H.add_sl (Own.none_ _) (Below.refl _ _)
set_option maxRecDepth 100000 in
set_option maxHeartbeats 4000000 in
theorem l17Bare_H (s : Sl Int) (b : Nat) {W0 w : World} {L L1 : List En} (H : Hp W0 w L) (t : Take L (.cu b s) L1) (R : Rd u8cell 1 W0 s ∧ s.xs.length ≤ 1048576) : Calls Tryz.prog 163 #[.pointer (some ⟨b, 0, none⟩)] w fun e w' => ∃ x : BV, e = .returned x.val ∧ (MSm x.mem ∧ GsSm x.gs ∧ 0 < x.gs.xs.length ∧ x.gs.xs.length ≤ 2 ∧ x.outs.xs.length ≤ 3) ∧ Hp W0 w' (.rows x.mem :: .many En.int x.mem.xs :: .gsl x.gs :: .many En.gst x.gs.xs :: .int x.outs :: .cu b s :: L1) := by
  replace H := (H.take t).seal
  clear t
  go_enter Tryz.func163, Tryz.ntmps163
  go_wp2_with (first
    | go_skip
    | ((with_reducible refine at_box ?_); first | (refine wpList_box_H rfl rfl H rfl (by constructor) ?_; clear H; intro b w H))
    | ((with_reducible refine at_alloc ?_); first | (refine wpList_alloc_H rfl rfl H ?_; clear H; intro bR w H))
    | ((with_reducible refine at_load ?_); first | (refine wpList_load_H rfl rfl H rfl (by repeat constructor) ?_) | (refine wpList_loads_H rfl rfl H rfl (by repeat constructor) ?_))
    | ((with_reducible refine at_store ?_); first | (refine wpList_store_H rfl rfl H rfl rfl (by repeat constructor) ?_; clear H; intro w H)))
  go_at_call 214
  refine (l04Mem_H s b 8 (by decide) H (by repeat constructor) R).mono ?_
  clear H
  rintro e w ⟨m, rfl, hm, hm2, H⟩
  have HM : Hid (MSm m) := Lib.hid ⟨by omega, fun x hx => by have := hm2 x hx; omega⟩
  clear hm hm2
  go_wp2_with (first
    | go_skip
    | ((with_reducible refine at_box ?_); first | (refine wpList_box_H rfl rfl H rfl (by constructor) ?_; clear H; intro b w H))
    | ((with_reducible refine at_alloc ?_); first | (refine wpList_alloc_H rfl rfl H ?_; clear H; intro bB w H))
    | ((with_reducible refine at_load ?_); first | (refine wpList_load_H rfl rfl H rfl (by repeat constructor) ?_) | (refine wpList_loads_H rfl rfl H rfl (by repeat constructor) ?_))
    | ((with_reducible refine at_store ?_); first | (refine wpList_store_H rfl rfl H rfl rfl (by repeat constructor) ?_; clear H; intro w H)))
  go_loopw [4] (fun i wr => ∃ (k : Nat) (g : Sl GV), k ≤ 2 ∧ i = .int .i64 k ∧ g.xs.length = k ∧ Hid (∀ z ∈ g.xs, (z.prog.xs.length ≤ 12 ∧ z.written.xs.length ≤ 4 ∧ z.live.xs.length ≤ 4 ∧ z.seen.xs.length ≤ 3)) ∧ Hp W0 wr [.box bB 28 (barr (⟨m, g, ⟨none, 0, []⟩, 0⟩ : BV)).toList, .gsl g, .many En.gst g.xs, .rows m, .many En.int m.xs, .cu b s, .box bR 28 [.slice none 0 0, .slice none 0 0, .slice none 0 0, .int .i64 0], .all L1]) (fun i _ => 2 - (intOf i).toNat)
  case atStart => exact ⟨0, ⟨none, 0, []⟩, by omega, rfl, rfl, Lib.hid (by simp), (((H.add_nil GV.cells 15 53).many_nil En.gst).pick (.cons (by repeat constructor) (.cons (by repeat constructor) (.cons (by repeat constructor) (.cons (by repeat constructor) (.cons (by repeat constructor) (.cons (by repeat constructor) (.cons (by repeat constructor) (.cons (by repeat constructor) .nil)))))))))⟩
  case round =>
    clear H
    obtain ⟨k, g, hk0, rfl, hl, HG, H⟩ := hrel
    have hz : g.xs.length ≤ 2 := by omega
    have HL := Lib.hid hl; clear hl
    go_wp2_with (first
      | go_skip
      | ((with_reducible refine at_box ?_); first | (refine wpList_box_H rfl rfl H rfl (by constructor) ?_; clear H; intro b w H))
      | ((with_reducible refine at_alloc ?_); first | (refine wpList_alloc_H rfl rfl H ?_; clear H; intro b w H))
      | ((with_reducible refine at_load ?_); first | (refine wpList_load_H rfl rfl H rfl (by repeat constructor) ?_) | (refine wpList_loads_H rfl rfl H rfl (by repeat constructor) ?_))
      | ((with_reducible refine at_store ?_); first | (refine wpList_store_H rfl rfl H rfl rfl (by repeat constructor) ?_; clear H; intro w H))
      | (go_at_call 94; refine (l01Below_H s b _ (by decide) (by decide) H (by repeat constructor) R).mono ?_; clear H; rintro e w ⟨v, rfl, va, vb, H⟩))
    rotate_left
    · skip
      have HPOS : Hid (0 < g.xs.length) := Lib.hid (by rw [HL.out]; omega)
      clear va vb
      go_loopw [5] (fun i wr => ∃ (k : Nat) (q : Sl Int), k ≤ 3 ∧ i = .int .i64 k ∧ q.xs.length = k ∧ Hp W0 wr [.box bB 28 (barr (⟨m, g, q, 0⟩ : BV)).toList, .gsl g, .many En.gst g.xs, .rows m, .many En.int m.xs, .int q, .cu b s, .box bR 28 [.slice none 0 0, .slice none 0 0, .slice none 0 0, .int .i64 0], .all L1]) (fun i _ => 3 - (intOf i).toNat)
      case atStart => exact ⟨0, ⟨none, 0, []⟩, by omega, rfl, rfl, ((H.add_nil icell 1 3).pick (.cons (by repeat constructor) (.cons (by repeat constructor) (.cons (by repeat constructor) (.cons (by repeat constructor) (.cons (by repeat constructor) (.cons (by repeat constructor) (.cons (by repeat constructor) (.cons (by repeat constructor) (.cons (by repeat constructor) .nil))))))))))⟩
      case round =>
        clear H
        obtain ⟨k, q, hk0, rfl, hl, H⟩ := hrel
        have hq : q.xs.length ≤ 3 := by omega
        have HLQ := Lib.hid hl; clear hl
        go_wp2_with (first
          | go_skip
          | ((with_reducible refine at_box ?_); first | (refine wpList_box_H rfl rfl H rfl (by constructor) ?_; clear H; intro b w H))
          | ((with_reducible refine at_alloc ?_); first | (refine wpList_alloc_H rfl rfl H ?_; clear H; intro b w H))
          | ((with_reducible refine at_load ?_); first | (refine wpList_load_H rfl rfl H rfl (by repeat constructor) ?_) | (refine wpList_loads_H rfl rfl H rfl (by repeat constructor) ?_))
          | ((with_reducible refine at_store ?_); first | (refine wpList_store_H rfl rfl H rfl rfl (by repeat constructor) ?_; clear H; intro w H))
          | (go_at_call 94; refine (l01Below_H s b _ (by decide) (by decide) H (by repeat constructor) R).mono ?_; clear H; rintro e w ⟨v, rfl, va, vb, H⟩)
          | (go_at_call 67; refine (l01Once_H s b _ (by decide) (by decide) H (by repeat constructor) R).mono ?_; clear H; rintro e w ⟨o, rfl, H⟩))
        all_goals first
          | (refine bodyPost_ret (results_H rfl H rfl (by repeat constructor)) rfl ?_; exact ⟨(⟨m, g, q, v⟩ : BV), rfl, ⟨HM.out, ⟨by have := hz; show g.xs.length ≤ 4; omega, fun x hx => by have h := HG.out x hx; exact ⟨by omega, h.2.1, h.2.2.1, by omega⟩⟩, HPOS.out, hz, hq⟩, (H.pick (.cons (by repeat constructor) (.cons (by repeat constructor) (.cons (by repeat constructor) (.cons (by repeat constructor) (.cons (by repeat constructor) (.cons (by repeat constructor) (.cons (by repeat constructor) .nil)))))))).uns6⟩)
          | (refine bodyPost_ret (results_H rfl H rfl (by repeat constructor)) rfl ?_; exact ⟨(⟨m, g, q, 0⟩ : BV), rfl, ⟨HM.out, ⟨by have := hz; show g.xs.length ≤ 4; omega, fun x hx => by have h := HG.out x hx; exact ⟨by omega, h.2.1, h.2.2.1, by omega⟩⟩, HPOS.out, hz, hq⟩, (H.pick (.cons (by repeat constructor) (.cons (by repeat constructor) (.cons (by repeat constructor) (.cons (by repeat constructor) (.cons (by repeat constructor) (.cons (by repeat constructor) (.cons (by repeat constructor) .nil)))))))).uns6⟩)
          | skip
        refine wp_cut (fun u a' w' => ∃ (v : Int) (b1 : Nat) (q2 : Sl Int), Hid (q2.xs.length = q.xs.length + 1) ∧ Hp W0 w' [.box bB 28 (barr (⟨m, g, q2, 0⟩ : BV)).toList, .gsl g, .many En.gst g.xs, .rows m, .many En.int m.xs, .int q2, .cu b s, .box bR 28 [.slice none 0 0, .slice none 0 0, .slice none 0 0, .int .i64 0], .all L1] ∧ a' = puts u [(29, .pointer (some ⟨bB, 2, none⟩)), (30, (.slice q.A q.xs.length q.c)), (31, (.pointer (some ⟨b, 0, none⟩))), (32, (.int .i64 v)), (33, (.slice (some ⟨b1, 0, none⟩) 1 1)), (34, (.slice q2.A q2.xs.length q2.c)), (35, .pointer (some ⟨bB, 2, none⟩))]) ?_ ?_
        · refine wp_region_last 7 (S := (fun w' => Rw w' bB 28 (barr (⟨m, g, q, 0⟩ : BV)))) (by kernel_rfl) ?_
          replace H := H.drew
          refine tkL (i := 0) rfl .here (yields_val (v := .pointer (some ⟨bB, 2, none⟩)) rfl (fun _ => by go_simp)) (H.rw_ (by repeat constructor)) ?_
          (try go_frame)
          refine tkL (i := 1) rfl (.of rfl) (yields_load1_R rfl rfl rfl (fun _ hS => hS) rfl) (H.rw_ (by repeat constructor)) ?_
          (try go_frame)
          refine tkL (i := 2) rfl (.of rfl) (yields_val (v := (.pointer (some ⟨b, 0, none⟩))) rfl (fun _ => by go_simp)) (H.rw_ (by repeat constructor)) ?_
          (try go_frame)
          refine anyL_1 (i := 3) (by kernel_rfl) ?_
          refine wpOp_at rfl (.of rfl) rfl ?_
          refine wp_call_H Tryz.f94 rfl rfl Tryz.func94 (by kernel_rfl) rfl rfl (calls_ex (val := fun v : Int => .int .i64 v) (l01Below_H s b 100 (by decide) (by decide) H (by repeat constructor) R)) ?_
          clear H
          rintro _ w ⟨v, rfl, va, vb, H⟩
          clear va vb
          refine ⟨fun _ => (H.rw_ (by repeat constructor)), ?_⟩
          (try go_frame)
          refine anyL_1 (i := 4) (by kernel_rfl) ?_
          refine wpOp_at rfl (.of rfl) rfl ?_
          refine wp_oneD_H rfl H v rfl CellsOf.int rfl (by decide) ?_
          clear H
          intro b1 w H
          refine ⟨fun _ => (H.rw_ (by repeat constructor)), ?_⟩
          (try go_frame)
          refine anyL_1 (i := 5) (by kernel_rfl) ?_
          refine wpOp_at rfl (.of rfl) rfl ?_
          refine wp_append_H rfl H q (⟨some ⟨b1, 0, none⟩, 1, [v]⟩ : Sl Int) rfl rfl (by repeat constructor) (H.rd (s := (⟨some ⟨b1, 0, none⟩, 1, [v]⟩ : Sl Int)) (by repeat constructor) int_len) (by simp only [List.length_cons, List.length_nil]; omega) (by decide) ?_
          clear H
          intro q2 w h2 H
          refine ⟨fun _ => (H.rw_ (by repeat constructor)), ?_⟩
          (try go_frame)
          refine tkL (i := 6) rfl (.of rfl) (yields_val (v := .pointer (some ⟨bB, 2, none⟩)) rfl (fun _ => by go_simp)) (H.rw_ (by repeat constructor)) ?_
          (try go_frame)
          refine anyL_1 (i := 7) (by kernel_rfl) ?_
          refine wpOp_at rfl (.of rfl) rfl ?_
          refine wp_store_H rfl H rfl rfl (by repeat constructor) ?_
          clear H
          intro w H
          refine ⟨fun hw => absurd rfl hw, ?_⟩
          (try go_frame)
          refine anyL_done (by kernel_rfl) ?_ _
          exact ⟨rfl, v, b1, q2, Lib.hid (by rw [h2.out]; simp), H.pick (.cons (by repeat constructor) (.cons (by repeat constructor) (.cons (by repeat constructor) (.cons (by repeat constructor) (.cons (by repeat constructor) (.cons (by repeat constructor) (.cons (by repeat constructor) (.cons (by repeat constructor) (.cons (by repeat constructor) .nil))))))))), by first | (simp only [puts_cons, puts_nil, Act.put, List.setIfInBounds_toArray, List.set_cons_succ, List.set_cons_zero]; done) | (simp only [puts_cons, puts_nil, Act.put, List.setIfInBounds_toArray, List.set_cons_succ, List.set_cons_zero]; rfl)⟩
        clear H
        rintro u w ⟨v, b1, q2, HP, H, rfl⟩
        simp only [puts_cons, puts_nil, Act.put, List.setIfInBounds_toArray, List.set_cons_succ, List.set_cons_zero]
        go_wp2_with (first
          | go_skip
          | ((with_reducible refine at_box ?_); first | (refine wpList_box_H rfl rfl H rfl (by constructor) ?_; clear H; intro b w H))
          | ((with_reducible refine at_alloc ?_); first | (refine wpList_alloc_H rfl rfl H ?_; clear H; intro b w H))
          | ((with_reducible refine at_load ?_); first | (refine wpList_load_H rfl rfl H rfl (by repeat constructor) ?_) | (refine wpList_loads_H rfl rfl H rfl (by repeat constructor) ?_))
          | ((with_reducible refine at_store ?_); first | (refine wpList_store_H rfl rfl H rfl rfl (by repeat constructor) ?_; clear H; intro w H)))
        go_roundw
        case rel => exact ⟨k + 1, q2, by omega, by go_num, by rw [HP.out, HLQ.out], H.pick (.cons (by repeat constructor) (.cons (by repeat constructor) (.cons (by repeat constructor) (.cons (by repeat constructor) (.cons (by repeat constructor) (.cons (by repeat constructor) (.cons (by repeat constructor) (.cons (by repeat constructor) (.cons (by repeat constructor) .nil)))))))))⟩
        case measure => simp [intOf]; omega
    refine wp_cut (fun u a' w' => ∃ (z : GV) (b1 : Nat) (g2 : Sl GV), Hid (g2.xs = g.xs ++ [z]) ∧ Hid (z.prog.xs.length ≤ 12 ∧ z.written.xs.length ≤ 4 ∧ z.live.xs.length ≤ 4 ∧ z.seen.xs.length ≤ 3) ∧ Hp W0 w' [.box bB 28 (barr (⟨m, g2, ⟨none, 0, []⟩, 0⟩ : BV)).toList, .gsl g2, .gst z, .many En.gst g.xs, .rows m, .many En.int m.xs, .cu b s, .box bR 28 [.slice none 0 0, .slice none 0 0, .slice none 0 0, .int .i64 0], .all L1] ∧ a' = puts u [(16, .pointer (some ⟨bB, 1, none⟩)), (17, (.slice g.A g.xs.length g.c)), (18, (.pointer (some ⟨b, 0, none⟩))), (19, z.val), (20, (.slice (some ⟨b1, 0, none⟩) 1 1)), (21, (.slice g2.A g2.xs.length g2.c)), (22, .pointer (some ⟨bB, 1, none⟩))]) ?_ ?_
    · refine wp_region_last 7 (S := (fun w' => Rw w' bB 28 (barr (⟨m, g, ⟨none, 0, []⟩, 0⟩ : BV)))) (by kernel_rfl) ?_
      replace H := H.drew
      refine tkL (i := 0) rfl .here (yields_val (v := .pointer (some ⟨bB, 1, none⟩)) rfl (fun _ => by go_simp)) (H.rw_ (by repeat constructor)) ?_
      (try go_frame)
      refine tkL (i := 1) rfl (.of rfl) (yields_load1_R rfl rfl rfl (fun _ hS => hS) rfl) (H.rw_ (by repeat constructor)) ?_
      (try go_frame)
      refine tkL (i := 2) rfl (.of rfl) (yields_val (v := (.pointer (some ⟨b, 0, none⟩))) rfl (fun _ => by go_simp)) (H.rw_ (by repeat constructor)) ?_
      (try go_frame)
      refine anyL_1 (i := 3) (by kernel_rfl) ?_
      refine wpOp_at rfl (.of rfl) rfl ?_
      refine wp_call_H Tryz.f165 rfl rfl Tryz.func165 (by kernel_rfl) rfl rfl (calls_ex (val := fun d : GV => d.val) (l15Guest_H s b H (by repeat constructor) R)) ?_
      clear H
      rintro _ w ⟨z, rfl, hz, H⟩
      have HZ := Lib.hid hz; clear hz
      refine ⟨fun _ => (H.rw_ (by repeat constructor)), ?_⟩
      (try go_frame)
      refine anyL_1 (i := 4) (by kernel_rfl) ?_
      refine wpOp_at rfl (.of rfl) rfl ?_
      refine wp_oneD_H rfl H z rfl CellsOf.agg rfl (by decide) ?_
      clear H
      intro b1 w H
      refine ⟨fun _ => (H.rw_ (by repeat constructor)), ?_⟩
      (try go_frame)
      refine anyL_1 (i := 5) (by kernel_rfl) ?_
      refine wpOp_at rfl (.of rfl) rfl ?_
      refine wp_append_H rfl H g (⟨some ⟨b1, 0, none⟩, 1, [z]⟩ : Sl GV) rfl rfl (by repeat constructor) (H.rd (s := (⟨some ⟨b1, 0, none⟩, 1, [z]⟩ : Sl GV)) (by repeat constructor) g_len) (by simp only [List.length_cons, List.length_nil]; omega) (by decide) ?_
      clear H
      intro g2 w h2 H
      refine ⟨fun _ => (H.rw_ (by repeat constructor)), ?_⟩
      (try go_frame)
      refine tkL (i := 6) rfl (.of rfl) (yields_val (v := .pointer (some ⟨bB, 1, none⟩)) rfl (fun _ => by go_simp)) (H.rw_ (by repeat constructor)) ?_
      (try go_frame)
      refine anyL_1 (i := 7) (by kernel_rfl) ?_
      refine wpOp_at rfl (.of rfl) rfl ?_
      refine wp_store_H rfl H rfl rfl (by repeat constructor) ?_
      clear H
      intro w H
      refine ⟨fun hw => absurd rfl hw, ?_⟩
      (try go_frame)
      refine anyL_done (by kernel_rfl) ?_ _
      exact ⟨rfl, z, b1, g2, h2, HZ, H.pick (.cons (by repeat constructor) (.cons (by repeat constructor) (.cons (by repeat constructor) (.cons (by repeat constructor) (.cons (by repeat constructor) (.cons (by repeat constructor) (.cons (by repeat constructor) (.cons (by repeat constructor) (.cons (by repeat constructor) .nil))))))))), by first | (simp only [puts_cons, puts_nil, Act.put, List.setIfInBounds_toArray, List.set_cons_succ, List.set_cons_zero]; done) | (simp only [puts_cons, puts_nil, Act.put, List.setIfInBounds_toArray, List.set_cons_succ, List.set_cons_zero]; rfl)⟩
    clear H
    rintro u w ⟨z, b1, g2, h2, HZ, H, rfl⟩
    simp only [puts_cons, puts_nil, Act.put, List.setIfInBounds_toArray, List.set_cons_succ, List.set_cons_zero]
    have H2 := Hp.many_snoc (f := En.gst) ((H.take (e := .many En.gst g.xs) (by repeat constructor)).take (e := .gst z) (by repeat constructor))
    rw [← h2.out] at H2
    clear H
    have H := H2
    clear H2
    go_wp2_with (first
      | go_skip
      | ((with_reducible refine at_box ?_); first | (refine wpList_box_H rfl rfl H rfl (by constructor) ?_; clear H; intro b w H))
      | ((with_reducible refine at_alloc ?_); first | (refine wpList_alloc_H rfl rfl H ?_; clear H; intro b w H))
      | ((with_reducible refine at_load ?_); first | (refine wpList_load_H rfl rfl H rfl (by repeat constructor) ?_) | (refine wpList_loads_H rfl rfl H rfl (by repeat constructor) ?_))
      | ((with_reducible refine at_store ?_); first | (refine wpList_store_H rfl rfl H rfl rfl (by repeat constructor) ?_; clear H; intro w H)))
    go_roundw
    case rel =>
      refine ⟨k + 1, g2, by omega, by go_num, by rw [h2.out]; simp [HL.out], Lib.hid ?_, H.pick (.cons (by repeat constructor) (.cons (by repeat constructor) (.cons (by repeat constructor) (.cons (by repeat constructor) (.cons (by repeat constructor) (.cons (by repeat constructor) (.cons (by repeat constructor) (.cons (by repeat constructor) .nil))))))))⟩
      rw [h2.out]
      intro y hy
      rcases List.mem_append.1 hy with hy | hy
      · exact HG.out y hy
      · rw [List.mem_singleton.1 hy]; exact HZ.out
    case measure => simp [intOf]; omega
theorem mrd_sub (c m : Sl (Sl Int)) (h : ∀ x ∈ c.xs, x ∈ m.xs) : MRd (.all [.rows c, .many En.int m.xs]) c := fun w hw => by
  have h1 : (En.rows c).ok w := hw (.rows c) (by simp)
  have h2 : (En.many En.int m.xs).ok w := hw (.many En.int m.xs) (by simp)
  exact ⟨Own.rd h1 h_len, fun x hx => Own.rd (h2 x (h x hx)) int_len⟩
theorem mrd_set (m : Sl (Sl Int)) (k n : Nat) (r : Sl Int) (hr : r ∈ m.xs) : MRd (.all [.rows ⟨m.A, m.c, m.xs.set k ⟨r.A, r.c, r.xs.take n⟩⟩, .many En.int m.xs]) ⟨m.A, m.c, m.xs.set k ⟨r.A, r.c, r.xs.take n⟩⟩ := fun w hw => by
  have h1 : (En.rows ⟨m.A, m.c, m.xs.set k ⟨r.A, r.c, r.xs.take n⟩⟩).ok w := hw (.rows _) (by simp)
  have h2 : (En.many En.int m.xs).ok w := hw (.many En.int m.xs) (by simp)
  refine ⟨Own.rd h1 h_len, fun x hx => ?_⟩
  rcases List.mem_or_eq_of_mem_set hx with hx | rfl
  · exact Own.rd (h2 x hx) int_len
  · exact Own.rd (Own.take (h2 r hr) int_len n) int_len
theorem take_small {m : Sl (Sl Int)} {n : Nat} (h : ∀ x ∈ m.xs, x.xs.length = 4) : ∀ x ∈ m.xs.take n, x.xs.length ≤ 4 := fun x hx => by have := h x (List.mem_of_mem_take hx); omega
set_option maxRecDepth 100000 in
set_option maxHeartbeats 4000000 in
theorem l04Any_H (s : Sl Int) (b : Nat) {W0 w : World} {L L1 : List En} (H : Hp W0 w L) (t : Take L (.cu b s) L1) (R : Rd u8cell 1 W0 s ∧ s.xs.length ≤ 1048576) : Calls Tryz.prog 164 #[.pointer (some ⟨b, 0, none⟩)] w fun e w' => ∃ (x : Sl (Sl Int)) (E : En), e = .returned (.slice x.A x.xs.length x.c) ∧ (MSm x ∧ MRd E x) ∧ Hp W0 w' (E :: .cu b s :: L1) := by
  replace H := (H.take t).seal
  clear t
  go_enter Tryz.func164, Tryz.ntmps164
  go_wp2_with (first
    | go_skip
    | ((with_reducible refine at_box ?_); first | (refine wpList_box_H rfl rfl H rfl (by constructor) ?_; clear H; intro b w H))
    | ((with_reducible refine at_alloc ?_); first | (refine wpList_alloc_H rfl rfl H ?_; clear H; intro b w H))
    | ((with_reducible refine at_load ?_); first | (refine wpList_load_H rfl rfl H rfl (by repeat constructor) ?_) | (refine wpList_loads_H rfl rfl H rfl (by repeat constructor) ?_))
    | ((with_reducible refine at_store ?_); first | (refine wpList_store_H rfl rfl H rfl rfl (by repeat constructor) ?_; clear H; intro w H)))
  go_at_call 214
  refine (l04Mem_H s b 3 (by decide) H (by repeat constructor) R).mono ?_
  clear H
  rintro e w ⟨m, rfl, hm, hm2, H⟩
  obtain ⟨r0, hr0⟩ : ∃ y, m.xs[0]? = some y := ⟨_, List.getElem?_eq_getElem (by omega)⟩
  have HR0 := Lib.hid hr0
  have hl0 : Hid (r0.xs.length = 4) := Lib.hid (hm2 r0 (List.mem_of_getElem? hr0))
  have h0 : 0 < m.xs.length := by omega
  clear hr0
  obtain ⟨r1, hr1⟩ : ∃ y, m.xs[1]? = some y := ⟨_, List.getElem?_eq_getElem (by omega)⟩
  have HR1 := Lib.hid hr1
  have hl1 : Hid (r1.xs.length = 4) := Lib.hid (hm2 r1 (List.mem_of_getElem? hr1))
  have h1 : 1 < m.xs.length := by omega
  clear hr1
  have hm3 : 3 ≤ m.xs.length := by omega
  have hm4 : m.xs.length ≤ 3 := by omega
  have HM2 := Lib.hid hm2
  clear hm hm2
  go_wp2_with (first
    | go_skip
    | ((with_reducible refine at_dst 34 ?_); refine wpList_cut_H rfl rfl H h_len m rfl rfl va (by omega) (by repeat constructor) ?_; clear H; intro c hc H)
    | ((with_reducible refine at_box ?_); first | (refine wpList_box_H rfl rfl H rfl (by constructor) ?_; clear H; intro b w H))
    | ((with_reducible refine at_alloc ?_); first | (refine wpList_alloc_H rfl rfl H ?_; clear H; intro b w H))
    | ((with_reducible refine at_load ?_); first | (refine wpList_load_H rfl rfl H rfl (by repeat constructor) ?_) | (refine wpList_loads_H rfl rfl H rfl (by repeat constructor) ?_))
    | ((with_reducible refine at_store ?_); first | (refine wpList_store_H rfl rfl H rfl rfl (by repeat constructor) ?_; clear H; intro w H))
    | (go_at_call 94; refine (l01Below_H s b _ (by decide) (by decide) H (by repeat constructor) R).mono ?_; clear H; rintro e w ⟨v, rfl, va, vb, H⟩))
  all_goals first
    | (go_ret; exact ⟨c, .all [.rows c, .many En.int m.xs], rfl, ⟨⟨by rw [hc.out, List.length_take]; omega, by rw [hc.out]; exact take_small HM2.out⟩, mrd_sub c m (by rw [hc.out]; exact fun x hx => List.mem_of_mem_take hx)⟩, (Hp.close_all (l := [.rows c, .many En.int m.xs]) (H.pick (.cons (by repeat constructor) (.cons (by repeat constructor) (.cons (by repeat constructor) (.cons (by repeat constructor) .nil)))))).uns2⟩)
    | (go_ret; exact ⟨m, .all [.rows m, .many En.int m.xs], rfl, ⟨⟨by omega, fun x hx => by have := HM2.out x hx; omega⟩, mrd_own m⟩, (Hp.close_all (l := [.rows m, .many En.int m.xs]) (H.pick (.cons (by repeat constructor) (.cons (by repeat constructor) (.cons (by repeat constructor) (.cons (by repeat constructor) .nil)))))).uns2⟩)
    | skip
  · skip
    have hc0 : 4 ≤ r0.c := by
      have h := Own.cap (H.many_mem (f := En.int) (l := m.xs) (by repeat constructor) (List.mem_of_getElem? HR0.out))
      rw [hl0.out] at h; exact h
    have hl4 : r0.xs.length ≤ 4 := by rw [hl0.out]; exact Nat.le_refl _
    have hl5 : 4 ≤ r0.xs.length := by rw [hl0.out]; exact Nat.le_refl _
    refine wp_cut (fun u a' w' => ∃ (ki : Nat) (n : Int), ki < m.xs.length ∧ 0 ≤ n ∧ n < 4 ∧ Hp W0 w' [.rows (⟨m.A, m.c, m.xs.set ki (⟨r0.A, r0.c, r0.xs.take n.toNat⟩ : Sl Int)⟩ : Sl (Sl Int)), .many En.int m.xs, .cu b s, .all L1] ∧ a' = puts u [(10, (.slice m.A m.xs.length m.c)), (11, (.pointer (some ⟨b, 0, none⟩))), (12, (.int .i64 (ki : Int))), (13, (.slice m.A m.xs.length m.c)), (14, (.pointer (some ⟨ablk m.A, aoff m.A + 0 * 1, none⟩))), (15, (.slice r0.A r0.xs.length r0.c)), (16, (.pointer (some ⟨b, 0, none⟩))), (17, (.int .i64 n)), (18, (.slice r0.A (r0.xs.take n.toNat).length r0.c)), (19, (.pointer (some ⟨ablk m.A, aoff m.A + ki * 1, none⟩)))]) ?_ ?_
    · refine wp_region_last 10 (S := (fun w' => Rd hcells 1 w' m)) (by kernel_rfl) ?_
      replace H := H.drew
      refine tkL (i := 0) rfl .here (yields_val (v := (.slice m.A m.xs.length m.c)) rfl (fun _ => by go_simp)) (H.rd (s := m) (by repeat constructor) h_len) ?_
      (try go_frame)
      refine tkL (i := 1) rfl (.of rfl) (yields_val (v := (.pointer (some ⟨b, 0, none⟩))) rfl (fun _ => by go_simp)) (H.rd (s := m) (by repeat constructor) h_len) ?_
      (try go_frame)
      refine tkL (i := 3) rfl (.of rfl) (yields_val (v := (.slice m.A m.xs.length m.c)) rfl (fun _ => by go_simp)) (H.rd (s := m) (by repeat constructor) h_len) ?_
      (try go_frame)
      refine tkL (i := 4) rfl (.of rfl) (yields_index_nn rfl rfl (k := 0) m (fun _ hS => hS) rfl rfl rfl h0) (H.rd (s := m) (by repeat constructor) h_len) ?_
      (try go_frame)
      refine tkL (i := 5) rfl (.of rfl) (yields_load_rdd rfl rfl m (fun _ hS => hS) rfl r0 HR0.out (by first | exact rfl | exact (Nat.add_zero _).symm) rfl) (H.rd (s := m) (by repeat constructor) h_len) ?_
      (try go_frame)
      refine tkL (i := 6) rfl (.of rfl) (yields_val (v := (.pointer (some ⟨b, 0, none⟩))) rfl (fun _ => by go_simp)) (H.rd (s := m) (by repeat constructor) h_len) ?_
      (try go_frame)
      refine anyL_1 (i := 2) (by kernel_rfl) ?_
      refine wpOp_at rfl (.of rfl) rfl ?_
      refine wp_call_H Tryz.f94 rfl rfl Tryz.func94 (by kernel_rfl) rfl rfl (calls_ex (val := fun v : Int => .int .i64 v) (l01Below_H s b 3 (by decide) (by decide) H (by repeat constructor) R)) ?_
      clear H
      rintro _ w ⟨i, rfl, ia, ib, H⟩
      obtain ⟨ki, rfl⟩ := Int.eq_ofNat_of_zero_le ia
      have hki : ki < m.xs.length := (by omega)
      clear ia ib
      obtain ⟨ry, hry⟩ : ∃ y, m.xs[ki]? = some y := ⟨_, List.getElem?_eq_getElem hki⟩
      have HRY := Lib.hid hry
      clear hry
      refine ⟨fun _ => (H.rd (s := m) (by repeat constructor) h_len), ?_⟩
      (try go_frame)
      refine anyL_1 (i := 7) (by kernel_rfl) ?_
      refine wpOp_at rfl (.of rfl) rfl ?_
      refine wp_call_H Tryz.f94 rfl rfl Tryz.func94 (by kernel_rfl) rfl rfl (calls_ex (val := fun v : Int => .int .i64 v) (l01Below_H s b 4 (by decide) (by decide) H (by repeat constructor) R)) ?_
      clear H
      rintro _ w ⟨n, rfl, na, nb, H⟩
      have hnc : n ≤ (r0.c : Int) := (by omega)
      refine ⟨fun _ => (H.rd (s := m) (by repeat constructor) h_len), ?_⟩
      (try go_frame)
      refine tkL (i := 8) rfl (.of rfl) (yields_val (v := (.slice r0.A (r0.xs.take n.toNat).length r0.c)) rfl (fun _ => by (first | (go_simp; done) | (go_simp; omega) | (rw [← HT0.out]; go_simp; done) | (go_simp; omega) | (go_simp; simpa using HT0.out)))) (H.rd (s := m) (by repeat constructor) h_len) ?_
      (try go_frame)
      refine tkL (i := 9) rfl (.of rfl) (yields_index_nn rfl rfl (k := ki) m (fun _ hS => hS) rfl rfl rfl hki) (H.rd (s := m) (by repeat constructor) h_len) ?_
      (try go_frame)
      refine anyL_1 (i := 10) (by kernel_rfl) ?_
      refine wpOp_at rfl (.of rfl) rfl ?_
      refine wp_store_el rfl H m (by repeat constructor) h_len rfl rfl ry (⟨r0.A, r0.c, r0.xs.take n.toNat⟩ : Sl Int) HRY.out rfl (by constructor) (by repeat constructor) (by exact rfl) (by exact rfl) ?_
      clear H
      intro w H
      refine ⟨fun hw => absurd rfl hw, ?_⟩
      (try go_frame)
      refine anyL_done (by kernel_rfl) ?_ _
      exact ⟨rfl, ki, n, hki, na, nb, H.pick (.cons (by repeat constructor) (.cons (by repeat constructor) (.cons (by repeat constructor) (.cons (by repeat constructor) .nil)))), by first | (simp only [puts_cons, puts_nil, Act.put, List.setIfInBounds_toArray, List.set_cons_succ, List.set_cons_zero]; done) | (simp only [puts_cons, puts_nil, Act.put, List.setIfInBounds_toArray, List.set_cons_succ, List.set_cons_zero]; rfl)⟩
    clear H
    rintro u w ⟨ki, n, hki, na, nb, H, rfl⟩
    simp only [puts_cons, puts_nil, Act.put, List.setIfInBounds_toArray, List.set_cons_succ, List.set_cons_zero]
    go_wp2_with (first
      | go_skip
      | ((with_reducible refine at_box ?_); first | (refine wpList_box_H rfl rfl H rfl (by constructor) ?_; clear H; intro b w H))
      | ((with_reducible refine at_alloc ?_); first | (refine wpList_alloc_H rfl rfl H ?_; clear H; intro b w H))
      | ((with_reducible refine at_load ?_); first | (refine wpList_load_H rfl rfl H rfl (by repeat constructor) ?_) | (refine wpList_loads_H rfl rfl H rfl (by repeat constructor) ?_))
      | ((with_reducible refine at_store ?_); first | (refine wpList_store_H rfl rfl H rfl rfl (by repeat constructor) ?_; clear H; intro w H)))
    (go_ret; refine ⟨(⟨m.A, m.c, m.xs.set ki (⟨r0.A, r0.c, r0.xs.take n.toNat⟩ : Sl Int)⟩ : Sl (Sl Int)), .all [.rows (⟨m.A, m.c, m.xs.set ki (⟨r0.A, r0.c, r0.xs.take n.toNat⟩ : Sl Int)⟩ : Sl (Sl Int)), .many En.int m.xs], by simp only [List.length_set]; rfl, ⟨⟨by simp only [List.length_set]; omega, fun x hx => ?_⟩, mrd_set m ki n.toNat r0 (List.mem_of_getElem? HR0.out)⟩, (Hp.close_all (l := [.rows (⟨m.A, m.c, m.xs.set ki (⟨r0.A, r0.c, r0.xs.take n.toNat⟩ : Sl Int)⟩ : Sl (Sl Int)), .many En.int m.xs]) (H.pick (.cons (by repeat constructor) (.cons (by repeat constructor) (.cons (by repeat constructor) (.cons (by repeat constructor) .nil)))))).uns2⟩)
    rcases List.mem_or_eq_of_mem_set hx with hx | rfl
    · have := HM2.out x hx; omega
    · simp only [List.length_take]; omega
  · skip
    have hr2 : 2 < r1.xs.length := by rw [hl1.out]; decide
    obtain ⟨y2, hy2⟩ : ∃ y, r1.xs[2]? = some y := ⟨_, List.getElem?_eq_getElem hr2⟩
    have HY2 := Lib.hid hy2; clear hy2
    obtain ⟨l1, l2, hl, hll, H1⟩ := Hp.many_at (f := En.int) HR1.out (H.take (e := .many En.int m.xs) (by repeat constructor))
    have HLL := Lib.hid hl; clear hl hll H
    have H := H1
    clear H1
    refine wp_cut (fun u a' w' => ∃ (bl : Nat) (z : Int), Hid True ∧ Hp W0 w' [.int ⟨r1.A, r1.c, r1.xs.set 2 z⟩, .many En.int l1, .many En.int l2, .rows m, .cu b s, .all L1] ∧ a' = puts u [(22, (.slice m.A m.xs.length m.c)), (23, (.pointer (some ⟨ablk m.A, aoff m.A + 1 * 1, none⟩))), (24, (.slice r1.A r1.xs.length r1.c)), (25, (.pointer (some ⟨b, 0, none⟩))), (26, (.slice (some ⟨bl, 0, none⟩) 2 2)), (27, (.int .i64 z)), (28, (.pointer (some ⟨ablk r1.A, aoff r1.A + 2 * 1, none⟩)))]) ?_ ?_
    · refine wp_region_last 7 (S := (fun w' => Rd hcells 1 w' m ∧ Rd icell 1 w' r1)) (by kernel_rfl) ?_
      replace H := H.drew
      refine tkL (i := 0) rfl .here (yields_val (v := (.slice m.A m.xs.length m.c)) rfl (fun _ => by go_simp)) ⟨H.rd (s := m) (by repeat constructor) h_len, H.rd (s := r1) (by repeat constructor) int_len⟩ ?_
      (try go_frame)
      refine tkL (i := 1) rfl (.of rfl) (yields_index_nn rfl rfl (k := 1) m (fun _ hS => hS.1) rfl rfl rfl h1) ⟨H.rd (s := m) (by repeat constructor) h_len, H.rd (s := r1) (by repeat constructor) int_len⟩ ?_
      (try go_frame)
      refine tkL (i := 2) rfl (.of rfl) (yields_load_rdd rfl rfl m (fun _ hS => hS.1) rfl r1 HR1.out (by first | exact rfl | exact (Nat.add_zero _).symm) rfl) ⟨H.rd (s := m) (by repeat constructor) h_len, H.rd (s := r1) (by repeat constructor) int_len⟩ ?_
      (try go_frame)
      refine tkL (i := 3) rfl (.of rfl) (yields_val (v := (.pointer (some ⟨b, 0, none⟩))) rfl (fun _ => by go_simp)) ⟨H.rd (s := m) (by repeat constructor) h_len, H.rd (s := r1) (by repeat constructor) int_len⟩ ?_
      (try go_frame)
      refine anyL_1 (i := 4) (by kernel_rfl) ?_
      refine wpOp_at rfl (.of rfl) rfl ?_
      refine wp_litD_H (enc := icell) rfl H ([-1, 100] : List Int) (by kernel_rfl) rfl (by decide) (by decide) ?_
      clear H
      intro bl w H
      refine ⟨fun _ => ⟨H.rd (s := m) (by repeat constructor) h_len, H.rd (s := r1) (by repeat constructor) int_len⟩, ?_⟩
      (try go_frame)
      refine anyL_1 (i := 5) (by kernel_rfl) ?_
      refine wpOp_at rfl (.of rfl) rfl ?_
      refine wp_call_H Tryz.f84 rfl rfl Tryz.func84 (by kernel_rfl) rfl rfl (calls_ex (val := fun v : Int => .int .i64 v) (l01PickInt_H s b (⟨some ⟨bl, 0, none⟩, 2, [-1, 100]⟩ : Sl Int) H (by repeat constructor) (by repeat constructor) R (by simp) (by simp))) ?_
      clear H
      rintro _ w ⟨z, rfl, hzm, H⟩
      clear hzm
      refine ⟨fun _ => ⟨H.rd (s := m) (by repeat constructor) h_len, H.rd (s := r1) (by repeat constructor) int_len⟩, ?_⟩
      (try go_frame)
      refine anyL_1 (i := 6) (by kernel_rfl) ?_
      refine wpOp_at rfl (.of rfl) rfl ?_
      refine wp_index_n (k := 2) rfl r1 (H.rd (s := r1) (by repeat constructor) int_len) rfl rfl rfl hr2 ?_
      refine ⟨fun _ => ⟨H.rd (s := m) (by repeat constructor) h_len, H.rd (s := r1) (by repeat constructor) int_len⟩, ?_⟩
      (try go_frame)
      refine anyL_1 (i := 7) (by kernel_rfl) ?_
      refine wpOp_at rfl (.of rfl) rfl ?_
      refine wp_store_el rfl H r1 (by repeat constructor) int_len rfl rfl y2 z HY2.out rfl (by constructor) (by repeat constructor) (by exact rfl) (by exact rfl) ?_
      clear H
      intro w H
      refine ⟨fun hw => absurd rfl hw, ?_⟩
      (try go_frame)
      refine anyL_done (by kernel_rfl) ?_ _
      exact ⟨rfl, bl, z, Lib.hid trivial, H.pick (.cons (by repeat constructor) (.cons (by repeat constructor) (.cons (by repeat constructor) (.cons (by repeat constructor) (.cons (by repeat constructor) (.cons (by repeat constructor) .nil)))))), by first | (simp only [puts_cons, puts_nil, Act.put, List.setIfInBounds_toArray, List.set_cons_succ, List.set_cons_zero]; done) | (simp only [puts_cons, puts_nil, Act.put, List.setIfInBounds_toArray, List.set_cons_succ, List.set_cons_zero]; rfl)⟩
    clear H
    rintro u w ⟨bl, z, _, H, rfl⟩
    simp only [puts_cons, puts_nil, Act.put, List.setIfInBounds_toArray, List.set_cons_succ, List.set_cons_zero]
    go_wp2_with (first
      | go_skip
      | ((with_reducible refine at_box ?_); first | (refine wpList_box_H rfl rfl H rfl (by constructor) ?_; clear H; intro b w H))
      | ((with_reducible refine at_alloc ?_); first | (refine wpList_alloc_H rfl rfl H ?_; clear H; intro b w H))
      | ((with_reducible refine at_load ?_); first | (refine wpList_load_H rfl rfl H rfl (by repeat constructor) ?_) | (refine wpList_loads_H rfl rfl H rfl (by repeat constructor) ?_))
      | ((with_reducible refine at_store ?_); first | (refine wpList_store_H rfl rfl H rfl rfl (by repeat constructor) ?_; clear H; intro w H)))
    replace H := Hp.row_set (d := m) HLL.out (r1.xs.set 2 z) (by simp) H
    have hlen : (⟨m.A, m.c, l1 ++ ⟨r1.A, r1.c, r1.xs.set 2 z⟩ :: l2⟩ : Sl (Sl Int)).xs.length = m.xs.length := by rw [HLL.out]; simp
    have hsm : ∀ x ∈ (⟨m.A, m.c, l1 ++ ⟨r1.A, r1.c, r1.xs.set 2 z⟩ :: l2⟩ : Sl (Sl Int)).xs, x.xs.length ≤ 4 := by
      intro x hx
      rcases List.mem_append.1 hx with hx | hx
      · have := HM2.out x (by rw [HLL.out]; exact List.mem_append.2 (.inl hx)); omega
      · rcases List.mem_cons.1 hx with rfl | hx
        · have := hl1.out; simp only [List.length_set]; omega
        · have := HM2.out x (by rw [HLL.out]; exact List.mem_append.2 (.inr (List.mem_cons_of_mem _ hx))); omega
    go_ret
    exact ⟨(⟨m.A, m.c, l1 ++ ⟨r1.A, r1.c, r1.xs.set 2 z⟩ :: l2⟩ : Sl (Sl Int)), .all [.rows (⟨m.A, m.c, l1 ++ ⟨r1.A, r1.c, r1.xs.set 2 z⟩ :: l2⟩ : Sl (Sl Int)), .many En.int (⟨m.A, m.c, l1 ++ ⟨r1.A, r1.c, r1.xs.set 2 z⟩ :: l2⟩ : Sl (Sl Int)).xs], by rw [hlen]; rfl, ⟨⟨by rw [hlen]; omega, hsm⟩, mrd_own (⟨m.A, m.c, l1 ++ ⟨r1.A, r1.c, r1.xs.set 2 z⟩ :: l2⟩ : Sl (Sl Int))⟩, (Hp.close_all (l := [.rows (⟨m.A, m.c, l1 ++ ⟨r1.A, r1.c, r1.xs.set 2 z⟩ :: l2⟩ : Sl (Sl Int)), .many En.int (⟨m.A, m.c, l1 ++ ⟨r1.A, r1.c, r1.xs.set 2 z⟩ :: l2⟩ : Sl (Sl Int)).xs]) (H.pick (.cons (by repeat constructor) (.cons (by repeat constructor) (.cons (by repeat constructor) (.cons (by repeat constructor) .nil)))))).uns2⟩
theorem gsm_set {g : Sl GV} {z : GV} {k : Nat} (h : GsSm g) (hz : GSm z) : GsSm ⟨g.A, g.c, g.xs.set k z⟩ := by
  refine ⟨by simp only [List.length_set]; exact h.1, fun x hx => ?_⟩
  rcases List.mem_or_eq_of_mem_set hx with hx | rfl
  · exact h.2 x hx
  · exact hz
theorem gsm_app2 {g g2 : Sl GV} {z1 z2 : GV} (h : ∀ x ∈ g.xs, GSm x) (hl : g.xs.length ≤ 2) (e : g2.xs = g.xs ++ [z1, z2]) (h1 : (z1.prog.xs.length ≤ 12 ∧ z1.written.xs.length ≤ 4 ∧ z1.live.xs.length ≤ 4 ∧ z1.seen.xs.length ≤ 3)) (h2 : (z2.prog.xs.length ≤ 12 ∧ z2.written.xs.length ≤ 4 ∧ z2.live.xs.length ≤ 4 ∧ z2.seen.xs.length ≤ 3)) : GsSm g2 := by
  refine ⟨by rw [e]; simp; omega, fun x hx => ?_⟩
  rw [e] at hx
  rcases List.mem_append.1 hx with hx | hx
  · exact h x hx
  · simp only [List.mem_cons, List.not_mem_nil, or_false] at hx
    rcases hx with rfl | rfl
    · exact ⟨by omega, h1.2.1, h1.2.2.1, by omega⟩
    · exact ⟨by omega, h2.2.1, h2.2.2.1, by omega⟩
def BPost (W0 : World) (b : Nat) (s : Sl Int) (L1 : List En) (e : Ending) (w' : World) : Prop := ∃ (x : BV) (E : En), e = .returned x.val ∧ (MSm x.mem ∧ MRd E x.mem ∧ GsSm x.gs ∧ x.outs.xs.length ≤ 44) ∧ Hp W0 w' (E :: .gsl x.gs :: .many En.gst x.gs.xs :: .int x.outs :: .cu b s :: L1)
theorem BPost.mk {W0 : World} {b : Nat} {s : Sl Int} {L1 : List En} {e : Ending} {w' : World} (x : BV) (E : En) (h1 : e = .returned x.val) (h2 : MSm x.mem ∧ MRd E x.mem ∧ GsSm x.gs ∧ x.outs.xs.length ≤ 44) (h3 : Hp W0 w' (E :: .gsl x.gs :: .many En.gst x.gs.xs :: .int x.outs :: .cu b s :: L1)) : BPost W0 b s L1 e w' := ⟨x, E, h1, h2, h3⟩
set_option maxRecDepth 100000 in
set_option maxHeartbeats 4000000 in
theorem l17Any_H0 (s : Sl Int) (b : Nat) {W0 w : World} {L L1 : List En} (H : Hp W0 w L) (t : Take L (.cu b s) L1) (R : Rd u8cell 1 W0 s ∧ s.xs.length ≤ 1048576) : Calls Tryz.prog 66 #[.pointer (some ⟨b, 0, none⟩)] w fun e w' => BPost W0 b s L1 e w' := by
  replace H := (H.take t).seal
  clear t
  go_enter Tryz.func66, Tryz.ntmps66
  go_wp2_with (first
    | go_skip
    | ((with_reducible refine at_box ?_); first | (refine wpList_box_H rfl rfl H rfl (by constructor) ?_; clear H; intro b w H))
    | ((with_reducible refine at_alloc ?_); first | (refine wpList_alloc_H rfl rfl H ?_; clear H; intro bR w H))
    | ((with_reducible refine at_load ?_); first | (refine wpList_load_H rfl rfl H rfl (by repeat constructor) ?_) | (refine wpList_loads_H rfl rfl H rfl (by repeat constructor) ?_))
    | ((with_reducible refine at_store ?_); first | (refine wpList_store_H rfl rfl H rfl rfl (by repeat constructor) ?_; clear H; intro w H)))
  go_at_call 163
  refine (l17Bare_H s b H (by repeat constructor) R).mono ?_
  clear H
  rintro e w ⟨d, rfl, hs, H⟩
  have HS := Lib.hid hs
  have hg0 : 0 < d.gs.xs.length := hs.2.2.1
  have hg2 : d.gs.xs.length ≤ 2 := hs.2.2.2.1
  clear hs
  go_wp2_with (first
    | go_skip
    | ((with_reducible refine at_box ?_); first | (refine wpList_box_H rfl rfl H rfl (by constructor) ?_; clear H; intro b w H))
    | ((with_reducible refine at_alloc ?_); first | (refine wpList_alloc_H rfl rfl H ?_; clear H; intro bB w H))
    | ((with_reducible refine at_load ?_); first | (refine wpList_load_H rfl rfl H rfl (by repeat constructor) ?_) | (refine wpList_loads_H rfl rfl H rfl (by repeat constructor) ?_))
    | ((with_reducible refine at_store ?_); first | (refine wpList_store_H rfl rfl H rfl rfl (by repeat constructor) ?_; clear H; intro w H))
    | (go_at_call 94; refine (l01Below_H s b _ (by decide) (by decide) H (by repeat constructor) R).mono ?_; clear H; rintro e w ⟨v, rfl, va, vb, H⟩)
    | (go_at_call 164; refine (l04Any_H s b H (by repeat constructor) R).mono ?_; clear H; rintro e w ⟨m, E, rfl, hs, H⟩; have HMS := Lib.hid hs; clear hs)
    | (go_at_call 166; refine (l14Pend_H s b H (by repeat constructor) R).mono ?_; clear H; rintro e w ⟨n, rfl, H⟩))
  all_goals first
    | (refine bodyPost_ret (results_H rfl H rfl (by repeat constructor)) rfl ?_; exact BPost.mk (⟨m, d.gs, d.outs, d.pend⟩ : BV) E (rfl) ⟨HMS.out.1, HMS.out.2, ⟨by have := HS.out.2.2.2.1; (try dsimp only); omega, HS.out.2.1.2⟩, (by have := HS.out.2.2.2.2; (try dsimp only); omega)⟩ ((H.pick (.cons (by repeat constructor) (.cons (by repeat constructor) (.cons (by repeat constructor) (.cons (by repeat constructor) (.cons (by repeat constructor) (.cons (by repeat constructor) .nil))))))).uns5))
    | (refine bodyPost_ret (results_H rfl H rfl (by repeat constructor)) rfl ?_; exact BPost.mk (⟨d.mem, d.gs, d.outs, n⟩ : BV) (En.all [.rows d.mem, .many En.int d.mem.xs]) (rfl) ⟨HS.out.1, mrd_own d.mem, ⟨by have := HS.out.2.2.2.1; (try dsimp only); omega, HS.out.2.1.2⟩, (by have := HS.out.2.2.2.2; (try dsimp only); omega)⟩ ((Hp.close_all (l := [.rows d.mem, .many En.int d.mem.xs]) (H.pick (.cons (by repeat constructor) (.cons (by repeat constructor) (.cons (by repeat constructor) (.cons (by repeat constructor) (.cons (by repeat constructor) (.cons (by repeat constructor) (.cons (by repeat constructor) .nil))))))))).uns5))
    | (refine bodyPost_ret (results_H rfl H rfl (by repeat constructor)) rfl ?_; exact BPost.mk d (En.all [.rows d.mem, .many En.int d.mem.xs]) (rfl) ⟨HS.out.1, mrd_own d.mem, ⟨by have := HS.out.2.2.2.1; (try dsimp only); omega, HS.out.2.1.2⟩, (by have := HS.out.2.2.2.2; (try dsimp only); omega)⟩ ((Hp.close_all (l := [.rows d.mem, .many En.int d.mem.xs]) (H.pick (.cons (by repeat constructor) (.cons (by repeat constructor) (.cons (by repeat constructor) (.cons (by repeat constructor) (.cons (by repeat constructor) (.cons (by repeat constructor) (.cons (by repeat constructor) .nil))))))))).uns5))
    | (replace H := ((H.add_nil GV.cells 15 53).many_nil En.gst); refine bodyPost_ret (results_H rfl H rfl (by repeat constructor)) rfl ?_; exact BPost.mk (⟨d.mem, ⟨none, 0, []⟩, d.outs, d.pend⟩ : BV) (En.all [.rows d.mem, .many En.int d.mem.xs]) (rfl) ⟨HS.out.1, mrd_own d.mem, ⟨by simp, by simp⟩, (by have := HS.out.2.2.2.2; (try dsimp only); omega)⟩ ((Hp.close_all (l := [.rows d.mem, .many En.int d.mem.xs]) (H.pick (.cons (by repeat constructor) (.cons (by repeat constructor) (.cons (by repeat constructor) (.cons (by repeat constructor) (.cons (by repeat constructor) (.cons (by repeat constructor) (.cons (by repeat constructor) .nil))))))))).uns5))
    | skip
  · skip
    obtain ⟨y0, hy0⟩ : ∃ y, d.gs.xs[0]? = some y := ⟨_, List.getElem?_eq_getElem hg0⟩
    have HY0 := Lib.hid hy0; clear hy0
    refine wp_cut (fun u a' w' => ∃ (z : GV), Hid (GSm z) ∧ Hp W0 w' [.box bB 28 (barr d).toList, .gsl (⟨d.gs.A, d.gs.c, d.gs.xs.set 0 z⟩ : Sl GV), .gst z, .many En.gst d.gs.xs, .rows d.mem, .many En.int d.mem.xs, .int d.outs, .cu b s, .box bR 28 [.slice none 0 0, .slice none 0 0, .slice none 0 0, .int .i64 0], .all L1] ∧ a' = puts u [(15, .pointer (some ⟨bB, 1, none⟩)), (16, (.slice d.gs.A d.gs.xs.length d.gs.c)), (17, (.pointer (some ⟨b, 0, none⟩))), (18, z.val), (19, (.pointer (some ⟨ablk d.gs.A, aoff d.gs.A + 0 * 15, none⟩)))]) ?_ ?_
    · refine wp_region_held (S := (fun w' => Rw w' bB 28 (barr d))) (by kernel_rfl) ?_
      replace H := H.drew
      refine tkH (i := 0) rfl .here (yields_val (v := .pointer (some ⟨bB, 1, none⟩)) rfl (fun _ => by go_simp)) (H.rw_ (by repeat constructor)) ?_
      (try go_frame)
      refine tkH (i := 1) rfl (.of rfl) (yields_load1_R rfl rfl rfl (fun _ hS => hS) rfl) (H.rw_ (by repeat constructor)) ?_
      (try go_frame)
      refine tkH (i := 2) rfl (.of rfl) (yields_val (v := (.pointer (some ⟨b, 0, none⟩))) rfl (fun _ => by go_simp)) (H.rw_ (by repeat constructor)) ?_
      (try go_frame)
      refine anyH_1 (i := 3) (by kernel_rfl) ?_
      refine wpOp_at rfl (.of rfl) rfl ?_
      refine wp_call_H Tryz.f147 rfl rfl Tryz.func147 (by kernel_rfl) rfl rfl (calls_ex (val := fun d : GV => d.val) (l15Any_H s b H (by repeat constructor) R)) ?_
      clear H
      rintro _ w ⟨z, rfl, hz, H⟩
      have HZ := Lib.hid hz; clear hz
      refine ⟨(H.rw_ (by repeat constructor)), ?_⟩
      (try go_frame)
      refine anyH_1 (i := 4) (by kernel_rfl) ?_
      refine wpOp_at rfl (.of rfl) rfl ?_
      refine wp_index_n (k := 0) rfl d.gs (H.rdgsl (s := d.gs) (by repeat constructor)) rfl rfl rfl hg0 ?_
      refine ⟨(H.rw_ (by repeat constructor)), ?_⟩
      (try go_frame)
      refine anyH_1 (i := 5) (by kernel_rfl) ?_
      refine wpOp_at rfl (.of rfl) rfl ?_
      refine wp_store_el rfl H d.gs (by repeat constructor) g_len rfl rfl y0 z HY0.out rfl (by constructor) (by repeat constructor) (by exact rfl) (by exact rfl) ?_
      clear H
      intro w H
      refine ⟨(H.rw_ (by repeat constructor)), ?_⟩
      (try go_frame)
      refine wpAnyH_done (by kernel_rfl) ?_ _
      exact ⟨rfl, z, HZ, H.pick (.cons (by repeat constructor) (.cons (by repeat constructor) (.cons (by repeat constructor) (.cons (by repeat constructor) (.cons (by repeat constructor) (.cons (by repeat constructor) (.cons (by repeat constructor) (.cons (by repeat constructor) (.cons (by repeat constructor) (.cons (by repeat constructor) .nil)))))))))), by first | (simp only [puts_cons, puts_nil, Act.put, List.setIfInBounds_toArray, List.set_cons_succ, List.set_cons_zero]; done) | (simp only [puts_cons, puts_nil, Act.put, List.setIfInBounds_toArray, List.set_cons_succ, List.set_cons_zero]; rfl)⟩
    clear H
    rintro u w ⟨z, HZ, H, rfl⟩
    simp only [puts_cons, puts_nil, Act.put, List.setIfInBounds_toArray, List.set_cons_succ, List.set_cons_zero]
    have H2 := Hp.many_set (f := En.gst) hg0 ((H.take (e := .many En.gst d.gs.xs) (by repeat constructor)).take (e := .gst z) (by repeat constructor))
    clear H
    have H := H2
    clear H2
    go_wp2_with (first
      | go_skip
      | ((with_reducible refine at_box ?_); first | (refine wpList_box_H rfl rfl H rfl (by constructor) ?_; clear H; intro b w H))
      | ((with_reducible refine at_alloc ?_); first | (refine wpList_alloc_H rfl rfl H ?_; clear H; intro bQ w H))
      | ((with_reducible refine at_load ?_); first | (refine wpList_load_H rfl rfl H rfl (by repeat constructor) ?_) | (refine wpList_loads_H rfl rfl H rfl (by repeat constructor) ?_))
      | ((with_reducible refine at_store ?_); first | (refine wpList_store_H rfl rfl H rfl rfl (by repeat constructor) ?_; clear H; intro w H)))
    refine bodyPost_ret (results_H rfl H rfl (by repeat constructor)) rfl ?_; exact BPost.mk (⟨d.mem, (⟨d.gs.A, d.gs.c, d.gs.xs.set 0 z⟩ : Sl GV), d.outs, d.pend⟩ : BV) (En.all [.rows d.mem, .many En.int d.mem.xs]) (by dsimp only [BV.val]; rw [List.length_set]) ⟨HS.out.1, mrd_own d.mem, gsm_set HS.out.2.1 HZ.out, (by have := HS.out.2.2.2.2; (try dsimp only); omega)⟩ ((Hp.close_all (l := [.rows d.mem, .many En.int d.mem.xs]) (H.pick (.cons (by repeat constructor) (.cons (by repeat constructor) (.cons (by repeat constructor) (.cons (by repeat constructor) (.cons (by repeat constructor) (.cons (by repeat constructor) (.cons (by repeat constructor) .nil))))))))).uns5)
  · skip
    refine wp_cut (fun u a' w' => ∃ (z1 z2 : GV) (b1 : Nat) (g2 : Sl GV), Hid (g2.xs = d.gs.xs ++ [z1, z2]) ∧ Hid (z1.prog.xs.length ≤ 12 ∧ z1.written.xs.length ≤ 4 ∧ z1.live.xs.length ≤ 4 ∧ z1.seen.xs.length ≤ 3) ∧ Hid (z2.prog.xs.length ≤ 12 ∧ z2.written.xs.length ≤ 4 ∧ z2.live.xs.length ≤ 4 ∧ z2.seen.xs.length ≤ 3) ∧ Hp W0 w' [.box bB 28 (barr (⟨d.mem, g2, d.outs, d.pend⟩ : BV)).toList, .gsl g2, .gst z1, .gst z2, .many En.gst d.gs.xs, .rows d.mem, .many En.int d.mem.xs, .int d.outs, .cu b s, .box bR 28 [.slice none 0 0, .slice none 0 0, .slice none 0 0, .int .i64 0], .all L1] ∧ a' = puts u [(22, .pointer (some ⟨bB, 1, none⟩)), (23, (.slice d.gs.A d.gs.xs.length d.gs.c)), (24, (.pointer (some ⟨b, 0, none⟩))), (25, z1.val), (26, (.pointer (some ⟨b, 0, none⟩))), (27, z2.val), (28, (.slice (some ⟨b1, 0, none⟩) 2 2)), (29, (.slice g2.A g2.xs.length g2.c)), (30, .pointer (some ⟨bB, 1, none⟩))]) ?_ ?_
    · refine wp_region_last 9 (S := (fun w' => Rw w' bB 28 (barr d))) (by kernel_rfl) ?_
      replace H := H.drew
      refine tkL (i := 0) rfl .here (yields_val (v := .pointer (some ⟨bB, 1, none⟩)) rfl (fun _ => by go_simp)) (H.rw_ (by repeat constructor)) ?_
      (try go_frame)
      refine tkL (i := 1) rfl (.of rfl) (yields_load1_R rfl rfl rfl (fun _ hS => hS) rfl) (H.rw_ (by repeat constructor)) ?_
      (try go_frame)
      refine tkL (i := 2) rfl (.of rfl) (yields_val (v := (.pointer (some ⟨b, 0, none⟩))) rfl (fun _ => by go_simp)) (H.rw_ (by repeat constructor)) ?_
      (try go_frame)
      refine tkL (i := 4) rfl (.of rfl) (yields_val (v := (.pointer (some ⟨b, 0, none⟩))) rfl (fun _ => by go_simp)) (H.rw_ (by repeat constructor)) ?_
      (try go_frame)
      refine anyL_1 (i := 3) (by kernel_rfl) ?_
      refine wpOp_at rfl (.of rfl) rfl ?_
      refine wp_call_H Tryz.f165 rfl rfl Tryz.func165 (by kernel_rfl) rfl rfl (calls_ex (val := fun d : GV => d.val) (l15Guest_H s b H (by repeat constructor) R)) ?_
      clear H
      rintro _ w ⟨z1, rfl, hz, H⟩
      have HZ1 := Lib.hid hz; clear hz
      refine ⟨fun _ => (H.rw_ (by repeat constructor)), ?_⟩
      (try go_frame)
      refine anyL_1 (i := 5) (by kernel_rfl) ?_
      refine wpOp_at rfl (.of rfl) rfl ?_
      refine wp_call_H Tryz.f165 rfl rfl Tryz.func165 (by kernel_rfl) rfl rfl (calls_ex (val := fun d : GV => d.val) (l15Guest_H s b H (by repeat constructor) R)) ?_
      clear H
      rintro _ w ⟨z2, rfl, hz, H⟩
      have HZ2 := Lib.hid hz; clear hz
      refine ⟨fun _ => (H.rw_ (by repeat constructor)), ?_⟩
      (try go_frame)
      refine anyL_1 (i := 6) (by kernel_rfl) ?_
      refine wpOp_at rfl (.of rfl) rfl ?_
      refine wp_litD_H (enc := GV.cells) rfl H ([z1, z2] : List GV) (by kernel_rfl) rfl (by decide) (by decide) ?_
      clear H
      intro b1 w H
      refine ⟨fun _ => (H.rw_ (by repeat constructor)), ?_⟩
      (try go_frame)
      refine anyL_1 (i := 7) (by kernel_rfl) ?_
      refine wpOp_at rfl (.of rfl) rfl ?_
      refine wp_append_H rfl H d.gs (⟨some ⟨b1, 0, none⟩, 2, [z1, z2]⟩ : Sl GV) rfl rfl (by repeat constructor) (H.rd (s := (⟨some ⟨b1, 0, none⟩, 2, [z1, z2]⟩ : Sl GV)) (by repeat constructor) g_len) (by simp only [List.length_cons, List.length_nil]; omega) (by decide) ?_
      clear H
      intro g2 w h2 H
      refine ⟨fun _ => (H.rw_ (by repeat constructor)), ?_⟩
      (try go_frame)
      refine tkL (i := 8) rfl (.of rfl) (yields_val (v := .pointer (some ⟨bB, 1, none⟩)) rfl (fun _ => by go_simp)) (H.rw_ (by repeat constructor)) ?_
      (try go_frame)
      refine anyL_1 (i := 9) (by kernel_rfl) ?_
      refine wpOp_at rfl (.of rfl) rfl ?_
      refine wp_store_H rfl H rfl rfl (by repeat constructor) ?_
      clear H
      intro w H
      refine ⟨fun hw => absurd rfl hw, ?_⟩
      (try go_frame)
      refine anyL_done (by kernel_rfl) ?_ _
      exact ⟨rfl, z1, z2, b1, g2, h2, HZ1, HZ2, H.pick (.cons (by repeat constructor) (.cons (by repeat constructor) (.cons (by repeat constructor) (.cons (by repeat constructor) (.cons (by repeat constructor) (.cons (by repeat constructor) (.cons (by repeat constructor) (.cons (by repeat constructor) (.cons (by repeat constructor) (.cons (by repeat constructor) (.cons (by repeat constructor) .nil))))))))))), by first | (simp only [puts_cons, puts_nil, Act.put, List.setIfInBounds_toArray, List.set_cons_succ, List.set_cons_zero]; done) | (simp only [puts_cons, puts_nil, Act.put, List.setIfInBounds_toArray, List.set_cons_succ, List.set_cons_zero]; rfl)⟩
    clear H
    rintro u w ⟨z1, z2, b1, g2, h2, HZ1, HZ2, H, rfl⟩
    simp only [puts_cons, puts_nil, Act.put, List.setIfInBounds_toArray, List.set_cons_succ, List.set_cons_zero]
    have H2 := Hp.many_snoc (f := En.gst) ((H.take (e := .many En.gst d.gs.xs) (by repeat constructor)).take (e := .gst z1) (by repeat constructor))
    have H3 := Hp.many_snoc (f := En.gst) ((H2.take (e := .many En.gst (d.gs.xs ++ [z1])) (by repeat constructor)).take (e := .gst z2) (by repeat constructor))
    rw [show d.gs.xs ++ [z1] ++ [z2] = g2.xs from by rw [h2.out]; simp] at H3
    clear H H2
    have H := H3
    clear H3
    go_wp2_with (first
      | go_skip
      | ((with_reducible refine at_box ?_); first | (refine wpList_box_H rfl rfl H rfl (by constructor) ?_; clear H; intro b w H))
      | ((with_reducible refine at_alloc ?_); first | (refine wpList_alloc_H rfl rfl H ?_; clear H; intro bQ w H))
      | ((with_reducible refine at_load ?_); first | (refine wpList_load_H rfl rfl H rfl (by repeat constructor) ?_) | (refine wpList_loads_H rfl rfl H rfl (by repeat constructor) ?_))
      | ((with_reducible refine at_store ?_); first | (refine wpList_store_H rfl rfl H rfl rfl (by repeat constructor) ?_; clear H; intro w H)))
    refine bodyPost_ret (results_H rfl H rfl (by repeat constructor)) rfl ?_; exact BPost.mk (⟨d.mem, g2, d.outs, d.pend⟩ : BV) (En.all [.rows d.mem, .many En.int d.mem.xs]) (rfl) ⟨HS.out.1, mrd_own d.mem, gsm_app2 HS.out.2.1.2 hg2 h2.out HZ1.out HZ2.out, (by have := HS.out.2.2.2.2; (try dsimp only); omega)⟩ ((Hp.close_all (l := [.rows d.mem, .many En.int d.mem.xs]) (H.pick (.cons (by repeat constructor) (.cons (by repeat constructor) (.cons (by repeat constructor) (.cons (by repeat constructor) (.cons (by repeat constructor) (.cons (by repeat constructor) (.cons (by repeat constructor) .nil))))))))).uns5)
  · rename_i e0 e1 e2 e3 e4
    clear e0 e1 e2 e3 e4
    go_loopg [] (60 - d.outs.xs.length) (fun k wr => ∃ q : Sl Int, Hid (k + q.xs.length = 60) ∧ q.xs.length ≤ 42 ∧ Hp W0 wr [.box bB 28 (barr (⟨d.mem, d.gs, q, d.pend⟩ : BV)).toList, .gsl d.gs, .many En.gst d.gs.xs, .rows d.mem, .many En.int d.mem.xs, .int q, .cu b s, .box bR 28 [.slice none 0 0, .slice none 0 0, .slice none 0 0, .int .i64 0], .all L1])
    case atStart => exact ⟨d.outs, Lib.hid (by have := HS.out.2.2.2.2; omega), by have := HS.out.2.2.2.2; omega, H.pick (.cons (by repeat constructor) (.cons (by repeat constructor) (.cons (by repeat constructor) (.cons (by repeat constructor) (.cons (by repeat constructor) (.cons (by repeat constructor) (.cons (by repeat constructor) (.cons (by repeat constructor) (.cons (by repeat constructor) .nil)))))))))⟩
    case round =>
      clear H
      obtain ⟨q, hk, hz, H⟩ := hrel
      go_wp2
      refine wp_cut (fun u a' w' => ∃ (v : Int), 0 ≤ v ∧ v < 3 ∧ Hp W0 w' [.box bB 28 (barr (⟨d.mem, d.gs, q, d.pend⟩ : BV)).toList, .gsl d.gs, .many En.gst d.gs.xs, .rows d.mem, .many En.int d.mem.xs, .int q, .cu b s, .box bR 28 [.slice none 0 0, .slice none 0 0, .slice none 0 0, .int .i64 0], .all L1] ∧ a' = puts u [(36, .pointer (some ⟨bB, 2, none⟩)), (37, (.slice q.A q.xs.length q.c)), (38, (.int .i64 (q.xs.length : Int))), (39, (.pointer (some ⟨b, 0, none⟩))), (40, (.int .i64 v)), (41, (.int .i64 (39 + v))), (42, (.bool (decide ((q.xs.length : Int) < 39 + v))))]) ?_ ?_
      · refine wp_region_held (S := (fun w' => Rw w' bB 28 (barr (⟨d.mem, d.gs, q, d.pend⟩ : BV)))) (by kernel_rfl) ?_
        replace H := H.drew
        refine tkH (i := 0) rfl .here (yields_val (v := .pointer (some ⟨bB, 2, none⟩)) rfl (fun _ => by go_simp)) (H.rw_ (by repeat constructor)) ?_
        (try go_frame)
        refine tkH (i := 1) rfl (.of rfl) (yields_load1_R rfl rfl rfl (fun _ hS => hS) rfl) (H.rw_ (by repeat constructor)) ?_
        (try go_frame)
        refine tkH (i := 2) rfl (.of rfl) (yields_val (v := (.int .i64 (q.xs.length : Int))) rfl (fun _ => by go_simp)) (H.rw_ (by repeat constructor)) ?_
        (try go_frame)
        refine tkH (i := 3) rfl (.of rfl) (yields_val (v := (.pointer (some ⟨b, 0, none⟩))) rfl (fun _ => by go_simp)) (H.rw_ (by repeat constructor)) ?_
        (try go_frame)
        refine anyH_1 (i := 4) (by kernel_rfl) ?_
        refine wpOp_at rfl (.of rfl) rfl ?_
        refine wp_call_H Tryz.f94 rfl rfl Tryz.func94 (by kernel_rfl) rfl rfl (calls_ex (val := fun v : Int => .int .i64 v) (l01Below_H s b 3 (by decide) (by decide) H (by repeat constructor) R)) ?_
        clear H
        rintro _ w ⟨v, rfl, va, vb, H⟩
        refine ⟨(H.rw_ (by repeat constructor)), ?_⟩
        (try go_frame)
        refine tkH (i := 5) rfl (.of rfl) (yields_val (v := (.int .i64 (39 + v))) rfl (fun _ => by (first | (go_simp; done) | (go_simp; rw [wrapD (39 + v) (by omega) (by omega)]) | (rw [← wrapD (39 + v) (by omega) (by omega)]; go_simp; done) | (go_simp; omega) | (go_simp; simpa using wrapD (39 + v) (by omega) (by omega))))) (H.rw_ (by repeat constructor)) ?_
        (try go_frame)
        refine tkH (i := 6) rfl (.of rfl) (yields_val (v := (.bool (decide ((q.xs.length : Int) < 39 + v)))) rfl (fun _ => by go_simp)) (H.rw_ (by repeat constructor)) ?_
        (try go_frame)
        refine wpAnyH_done (by kernel_rfl) ?_ _
        exact ⟨rfl, v, va, vb, H.pick (.cons (by repeat constructor) (.cons (by repeat constructor) (.cons (by repeat constructor) (.cons (by repeat constructor) (.cons (by repeat constructor) (.cons (by repeat constructor) (.cons (by repeat constructor) (.cons (by repeat constructor) (.cons (by repeat constructor) .nil))))))))), by first | (simp only [puts_cons, puts_nil, Act.put, List.setIfInBounds_toArray, List.set_cons_succ, List.set_cons_zero]; done) | (simp only [puts_cons, puts_nil, Act.put, List.setIfInBounds_toArray, List.set_cons_succ, List.set_cons_zero]; rfl)⟩
      clear H
      rintro u w ⟨v, va, vb, H, rfl⟩
      simp only [puts_cons, puts_nil, Act.put, List.setIfInBounds_toArray, List.set_cons_succ, List.set_cons_zero]
      go_wp2_with (first
        | go_skip
        | ((with_reducible refine at_box ?_); first | (refine wpList_box_H rfl rfl H rfl (by constructor) ?_; clear H; intro b w H))
        | ((with_reducible refine at_alloc ?_); first | (refine wpList_alloc_H rfl rfl H ?_; clear H; intro b w H))
        | ((with_reducible refine at_load ?_); first | (refine wpList_load_H rfl rfl H rfl (by repeat constructor) ?_) | (refine wpList_loads_H rfl rfl H rfl (by repeat constructor) ?_))
        | ((with_reducible refine at_store ?_); first | (refine wpList_store_H rfl rfl H rfl rfl (by repeat constructor) ?_; clear H; intro w H))
        | ((with_reducible refine at_slice ?_); first | ((with_reducible refine at_dst 45 ?_); refine wpList_one_H rfl rfl H (1 : Int) rfl CellsOf.int rfl (by decide) ?_; clear H; intro b1 w H))
        | ((with_reducible refine at_append ?_); first | ((with_reducible refine at_dst 46 ?_); refine wpList_append_H rfl rfl H q (⟨some ⟨b1, 0, none⟩, 1, [(1 : Int)]⟩ : Sl Int) rfl rfl (by repeat constructor) (H.rd (s := (⟨some ⟨b1, 0, none⟩, 1, [(1 : Int)]⟩ : Sl Int)) (by repeat constructor) int_len) (by simp only [List.length_cons, List.length_nil]; omega) (by decide) ?_; clear H; intro p2 w h2 H)))
      all_goals first
        | (refine bodyPost_ret (results_H rfl H rfl (by repeat constructor)) rfl ?_; exact BPost.mk (⟨d.mem, d.gs, q, d.pend⟩ : BV) (En.all [.rows d.mem, .many En.int d.mem.xs]) (rfl) ⟨HS.out.1, mrd_own d.mem, ⟨by have := HS.out.2.2.2.1; (try dsimp only); omega, HS.out.2.1.2⟩, (by show q.xs.length ≤ 44; omega)⟩ ((Hp.close_all (l := [.rows d.mem, .many En.int d.mem.xs]) (H.pick (.cons (by repeat constructor) (.cons (by repeat constructor) (.cons (by repeat constructor) (.cons (by repeat constructor) (.cons (by repeat constructor) (.cons (by repeat constructor) (.cons (by repeat constructor) .nil))))))))).uns5))
        | (have h3 : p2.xs.length = q.xs.length + 1 := (by rw [h2.out]; simp); have hk2 := hk.out; go_roundg (60 - p2.xs.length); (case measure => omega); (case rel => exact ⟨p2, Lib.hid (by omega), by omega, H.pick (.cons (by repeat constructor) (.cons (by repeat constructor) (.cons (by repeat constructor) (.cons (by repeat constructor) (.cons (by repeat constructor) (.cons (by repeat constructor) (.cons (by repeat constructor) (.cons (by repeat constructor) (.cons (by repeat constructor) .nil)))))))))⟩))
theorem l17Any_H (s : Sl Int) (b : Nat) {W0 w : World} {L L1 : List En} (H : Hp W0 w L) (t : Take L (.cu b s) L1) (R : Rd u8cell 1 W0 s ∧ s.xs.length ≤ 1048576) : Calls Tryz.prog 66 #[.pointer (some ⟨b, 0, none⟩)] w fun e w' => ∃ (x : BV) (E : En), e = .returned x.val ∧ (MSm x.mem ∧ MRd E x.mem ∧ GsSm x.gs ∧ x.outs.xs.length ≤ 44) ∧ Hp W0 w' (E :: .gsl x.gs :: .many En.gst x.gs.xs :: .int x.outs :: .cu b s :: L1) := l17Any_H0 s b H t R
end Go.Proofs.YtaafnenmdombiaaGreat
