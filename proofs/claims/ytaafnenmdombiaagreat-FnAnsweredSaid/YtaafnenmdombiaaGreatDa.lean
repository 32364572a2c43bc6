/- Contracts of the reference's draws: the cursor at an unknown place, numbers below a bound, a pick from a list, small draws. No condition but that the arguments lie in memory. -/
import Derived.Test.YtaafnenmdombiaaGreatDw
namespace Go.Proofs.YtaafnenmdombiaaGreat
set_option linter.unusedSimpArgs false
set_option linter.unusedVariables false
open Go.RowKit
def En.cu (b : Nat) (s : Sl Int) : En where
  bl := [b]
  ok w := ∃ (k : Nat) (h : Int), k ≤ s.xs.length ∧ (En.cur b s k h).ok w
  loc h hz hb := by obtain ⟨k, x, hk, h⟩ := h; exact ⟨k, x, hk, (En.cur b s k x).loc h hz hb⟩
  lt h b' hb := by obtain ⟨k, x, hk, h⟩ := h; exact (En.cur b s k x).lt h b' hb
theorem Hp.drop2 {w0 w : World} {e e2 : En} {L : List En} (H : Hp w0 w (e :: e2 :: L)) : Hp w0 w (e :: L) := (H.perm (List.Perm.swap _ _ _)).drop
theorem Hp.cu_open {w0 w : World} {b : Nat} {s : Sl Int} {L : List En} (H : Hp w0 w (.cu b s :: L)) : ∃ k h, k ≤ s.xs.length ∧ Hp w0 w (.cur b s k h :: L) := by
  obtain ⟨k, h, hk, hc⟩ : (En.cu b s).ok w := H.ok _ (by simp)
  refine ⟨k, h, hk, H.below, ?_, H.nd, H.ge⟩
  intro e he
  rcases List.mem_cons.1 he with rfl | he
  · exact hc
  · exact H.ok e (by simp [he])
theorem Hp.cu_close {w0 w : World} {b : Nat} {s : Sl Int} {L : List En} {k : Nat} {h : Int} (hk : k ≤ s.xs.length) (H : Hp w0 w (.cur b s k h :: L)) : Hp w0 w (.cu b s :: L) := by
  refine ⟨H.below, ?_, H.nd, H.ge⟩
  intro e he
  rcases List.mem_cons.1 he with rfl | he
  · exact ⟨k, h, hk, H.ok (.cur b s k h) (by simp)⟩
  · exact H.ok e (by simp [he])
set_option maxRecDepth 100000 in
set_option maxHeartbeats 4000000 in
theorem l01New_cu (s : Sl Int) (W0 : World) (R : Rd u8cell 1 W0 s ∧ s.xs.length ≤ 1048576) : Calls Tryz.prog 65 #[.slice s.A s.xs.length s.c] W0 fun e w' => ∃ b : Nat, e = .returned (.pointer (some ⟨b, 0, none⟩)) ∧ Hp W0 w' [.cu b s] := by
  refine (l01New_c s W0 R.1 R.2).mono ?_
  rintro e w ⟨b, h, rfl, H⟩
  exact ⟨b, rfl, H.cu_close (by omega)⟩
set_option maxRecDepth 100000 in
set_option maxHeartbeats 4000000 in
theorem l01Byte_cu (s : Sl Int) (b : Nat) {W0 w : World} {L L1 : List En} (H : Hp W0 w L) (t : Take L (.cu b s) L1) (R : Rd u8cell 1 W0 s ∧ s.xs.length ≤ 1048576) : Calls Tryz.prog 174 #[.pointer (some ⟨b, 0, none⟩)] w fun e w' => ∃ v : Int, e = .returned (.int .i64 v) ∧ 0 ≤ v ∧ v ≤ 255 ∧ Hp W0 w' (.cu b s :: L1) := by
  obtain ⟨k, h, hk, H⟩ := (H.take t).cu_open
  refine (l01Byte_H s b k h H .head R.1 R.2 hk).mono ?_
  rintro e w ⟨v, k', h', rfl, h0, h1, hk', H⟩
  exact ⟨v, rfl, h0, h1, H.cu_close hk'⟩
set_option maxRecDepth 100000 in
set_option maxHeartbeats 4000000 in
theorem l01Below_H (s : Sl Int) (b : Nat) (n : Int) (hn0 : 0 < n) (hn1 : n ≤ 256) {W0 w : World} {L L1 : List En} (H : Hp W0 w L) (t : Take L (.cu b s) L1) (R : Rd u8cell 1 W0 s ∧ s.xs.length ≤ 1048576) : Calls Tryz.prog 94 #[.pointer (some ⟨b, 0, none⟩), .int .i64 n] w fun e w' => ∃ v : Int, e = .returned (.int .i64 v) ∧ 0 ≤ v ∧ v < n ∧ Hp W0 w' (.cu b s :: L1) := by
  replace H := H.take t
  clear t
  go_enter Tryz.func94, Tryz.ntmps94
  go_wp2_with (first
    | go_skip
    | ((with_reducible refine at_box ?_); first | (refine wpList_box_H rfl rfl H rfl (by constructor) ?_; clear H; intro b w H))
    | ((with_reducible refine at_alloc ?_); first | (refine wpList_alloc_H rfl rfl H ?_; clear H; intro b w H))
    | ((with_reducible refine at_load ?_); first | (refine wpList_load_H rfl rfl H rfl (by repeat constructor) ?_) | (refine wpList_loads_H rfl rfl H rfl (by repeat constructor) ?_))
    | ((with_reducible refine at_store ?_); first | (refine wpList_store_H rfl rfl H rfl rfl (by repeat constructor) ?_; clear H; intro w H))
    | (go_at_call 174; refine (l01Byte_cu s b H (by repeat constructor) R).mono ?_; clear H; rintro e w ⟨v, rfl, va, vb, H⟩))
  all_goals (go_ret; exact ⟨_, rfl, Int.emod_nonneg _ (by omega), Int.emod_lt_of_pos _ hn0, H.take (by repeat constructor)⟩)
set_option maxRecDepth 100000 in
set_option maxHeartbeats 4000000 in
theorem l01Once_H (s : Sl Int) (b : Nat) (n : Int) (hn0 : 0 < n) (hn1 : n ≤ 256) {W0 w : World} {L L1 : List En} (H : Hp W0 w L) (t : Take L (.cu b s) L1) (R : Rd u8cell 1 W0 s ∧ s.xs.length ≤ 1048576) : Calls Tryz.prog 67 #[.pointer (some ⟨b, 0, none⟩), .int .i64 n] w fun e w' => ∃ v : Bool, e = .returned (.bool v) ∧ Hp W0 w' (.cu b s :: L1) := by
  replace H := H.take t
  clear t
  go_enter Tryz.func67, Tryz.ntmps67
  go_wp2_with (first
    | go_skip
    | ((with_reducible refine at_box ?_); first | (refine wpList_box_H rfl rfl H rfl (by constructor) ?_; clear H; intro b w H))
    | ((with_reducible refine at_alloc ?_); first | (refine wpList_alloc_H rfl rfl H ?_; clear H; intro b w H))
    | ((with_reducible refine at_load ?_); first | (refine wpList_load_H rfl rfl H rfl (by repeat constructor) ?_) | (refine wpList_loads_H rfl rfl H rfl (by repeat constructor) ?_))
    | ((with_reducible refine at_store ?_); first | (refine wpList_store_H rfl rfl H rfl rfl (by repeat constructor) ?_; clear H; intro w H))
    | (go_at_call 94; refine (l01Below_H s b n hn0 hn1 H (by repeat constructor) R).mono ?_; clear H; rintro e w ⟨v, rfl, va, vb, H⟩))
  all_goals (go_ret; exact ⟨_, rfl, H.take (by repeat constructor)⟩)
set_option maxRecDepth 100000 in
set_option maxHeartbeats 4000000 in
theorem l01PickInt_H (s : Sl Int) (b : Nat) (q : Sl Int) {W0 w : World} {L L1 L2 : List En} (H : Hp W0 w L) (t : Take L (.cu b s) L1) (t2 : Take L1 (.int q) L2) (R : Rd u8cell 1 W0 s ∧ s.xs.length ≤ 1048576) (hq0 : 0 < q.xs.length) (hq1 : q.xs.length ≤ 256) : Calls Tryz.prog 84 #[.pointer (some ⟨b, 0, none⟩), .slice q.A q.xs.length q.c] w fun e w' => ∃ v : Int, e = .returned (.int .i64 v) ∧ v ∈ q.xs ∧ Hp W0 w' (.cu b s :: L2) := by
  replace H := (H.take t).perm (t2.perm.cons _)
  clear t t2
  go_enter Tryz.func84, Tryz.ntmps84
  go_wp2_with (first
    | go_skip
    | ((with_reducible refine at_box ?_); first | (refine wpList_box_H rfl rfl H rfl (by constructor) ?_; clear H; intro b w H))
    | ((with_reducible refine at_alloc ?_); first | (refine wpList_alloc_H rfl rfl H ?_; clear H; intro b w H))
    | ((with_reducible refine at_load ?_); first | (refine wpList_load_rd rfl rfl q (H.rd (s := q) (by repeat constructor) int_len) rfl y HY.out rfl ?_) | (refine wpList_load_H rfl rfl H rfl (by repeat constructor) ?_) | (refine wpList_loads_H rfl rfl H rfl (by repeat constructor) ?_))
    | ((with_reducible refine at_store ?_); first | (refine wpList_store_H rfl rfl H rfl rfl (by repeat constructor) ?_; clear H; intro w H))
    | ((with_reducible refine at_index ?_); first | (refine wpList_index_n rfl rfl q (H.rd (s := q) (by repeat constructor) int_len) rfl rfl rfl hk ?_))
    | (go_at_call 94; refine (l01Below_H s b (q.xs.length : Int) (by omega) (by omega) H (by repeat constructor) R).mono ?_; clear H; rintro e w ⟨v, rfl, va, vb, H⟩; obtain ⟨k, rfl⟩ := Int.eq_ofNat_of_zero_le va; have hk : k < q.xs.length := (by omega); clear va vb; obtain ⟨y, hy0⟩ : ∃ y, q.xs[k]? = some y := ⟨_, List.getElem?_eq_getElem hk⟩; have HY := Lib.hid hy0; clear hy0))
  go_ret
  exact ⟨y, rfl, List.mem_of_getElem? HY.out, H.drop2⟩
theorem Hp.uns {w0 w : World} {M L : List En} (H : Hp w0 w (M ++ [.all L])) : Hp w0 w (M ++ L) :=
  (Hp.open_all (H.perm (List.perm_append_comm (l₁ := M) (l₂ := [.all L])))).perm List.perm_append_comm
theorem wrapD (x : Int) (h0 : -1000000 ≤ x) (h1 : x ≤ 1000000) : IntKind.i64.wrap x = x := by
  simp only [IntKind.wrap, IntKind.bits, IntKind.signed]
  simp; omega
theorem Hp.uns2 {w0 w : World} {x y : En} {L : List En} (H : Hp w0 w [x, y, .all L]) : Hp w0 w (x :: y :: L) := Hp.uns (M := [x, y]) H
theorem Hp.uns3 {w0 w : World} {x y z : En} {L : List En} (H : Hp w0 w [x, y, z, .all L]) : Hp w0 w (x :: y :: z :: L) := Hp.uns (M := [x, y, z]) H
theorem Hp.uns5 {w0 w : World} {x y z u v : En} {L : List En} (H : Hp w0 w [x, y, z, u, v, .all L]) : Hp w0 w (x :: y :: z :: u :: v :: L) := Hp.uns (M := [x, y, z, u, v]) H
theorem Own.take {α : Type} {enc : α → List Value} {sz e lo : Nat} {w : World} {s : Sl α} (h : Own enc sz e w lo s) (henc : ∀ x, (enc x).length = sz) (n : Nat) : Own enc sz e w lo ⟨s.A, s.c, s.xs.take n⟩ := by
  have hl : (s.xs.take n).length ≤ s.xs.length := by simp; omega
  obtain ⟨h1, h2⟩ := h
  refine ⟨flat_len henc _, ?_⟩
  rcases h2 with ⟨hv, hf⟩ | ⟨g, cap, cur, hv, hg, hh, r1, r2, r3, r4⟩
  · have h0 : s.xs = [] := List.eq_nil_of_length_eq_zero hf
    left
    simp only [h0] at hv ⊢
    simpa using hv
  · injection hv with hv1 hv2 hv3
    right
    refine ⟨g, cap, cur, by simp only [hv1, hv3], hg, hh, by simp only at hl ⊢; omega, r2, r3, ?_⟩
    have e1 : (s.xs.take n).flatMap enc = (s.xs.flatMap enc).take ((s.xs.take n).length * sz) := by
      have e0 : s.xs.flatMap enc = (s.xs.take n).flatMap enc ++ (s.xs.drop n).flatMap enc := by rw [← List.flatMap_append, List.take_append_drop]
      rw [e0, ← flat_len henc (s.xs.take n), List.take_left' rfl]
    rw [e1, ← r4, List.take_take]
    congr 1
    have := Nat.mul_le_mul_right sz hl
    simp only at this ⊢
    omega
theorem Own.cap {α : Type} {enc : α → List Value} {sz e lo : Nat} {w : World} {s : Sl α} (h : Own enc sz e w lo s) : s.xs.length ≤ s.c := by
  obtain ⟨h1, h2⟩ := h
  rcases h2 with ⟨hv, hf⟩ | ⟨g, cap, cur, hv, hg, hh, r1, r2, r3, r4⟩
  · omega
  · injection hv with hv1 hv2 hv3; omega
section
variable {P : Program} {ops : Array Oper} {rest : List Oper} {o : Oper} {a : Act} {w0 w : World} {L L' : List En} {Q : Go.Exit → Act → World → Prop}
theorem wpList_cut_H (hgd : Region.wanted o (yielded ops a.tmps) = true) {t : TypeId} {x hi : Operand} (ho : o.op = .slice t x none (some hi) none) (H : Hp w0 w L) {α : Type} {enc : α → List Value} {sz bytes e : Nat} [hE : EI P t enc sz bytes e] (henc : ∀ x, (enc x).length = sz) (d : Sl α)
    (hx : a.eval x = .slice d.A d.xs.length d.c) {k : Int} (hk : a.eval hi = .int .i64 k) (h0 : 0 ≤ k) (h1 : k ≤ d.xs.length) (tk : Take L (.sl enc sz e d) L')
    (h : ∀ d' : Sl α, Hid (d'.xs = d.xs.take k.toNat) → Hp w0 w (.sl enc sz e d' :: L') → wpList P ops Q rest (a.put o.dst (.slice d'.A d'.xs.length d'.c)) w) : wpList P ops Q (o :: rest) a w := by
  refine BigFrame.wpList_want hgd fun _ hK => ?_
  have ho1 := H.own tk
  obtain ⟨i, z, hi', hz, hsize, hby, hzs⟩ := hE.info.hi
  have hu : P.underlying t = some (.slice (P.elem t)) := by
    have := hE.info.ht
    simp [Program.elem, this]
  have hel : P.elem t = e := by
    have := hE.info.ht
    simp [Program.elem, this]
  have hc : d.xs.length ≤ d.c := ho1.cap
  have hr : (Instr.sliceAt t (.slice d.A d.xs.length d.c) none (some (.int .i64 k)) none).run P w = .ok (.slice d.A (d.xs.take k.toNat).length d.c) w := by
    rw [run_sliceAt_slice (h := hu) .., run_slice_h (ht := hu) (h0 := h0) (h2 := by omega) .., hel]
    simp [sizeOf, typeInfo, hi', sliced, go_sem]
    omega
  have H2 : Hp w0 w (.sl enc sz e ⟨d.A, d.c, d.xs.take k.toNat⟩ :: L') := by
    have H1 := H.take tk
    refine ⟨H1.below, ?_, H1.nd, H1.ge⟩
    intro y hy
    rcases List.mem_cons.1 hy with rfl | hy
    · exact Own.take (H1.ok (.sl enc sz e d) (by simp)) henc _
    · exact H1.ok y (by simp [hy])
  unfold Oper.wp execOp
  simp only [ho, Option.map_some, Option.map_none, hx, hk, Sem.run_bind, Sem.run_pure, Result.andThen_ok, hr]
  exact hK _ _ (h ⟨d.A, d.c, d.xs.take k.toNat⟩ (Lib.hid rfl) H2)
end
end Go.Proofs.YtaafnenmdombiaaGreat
