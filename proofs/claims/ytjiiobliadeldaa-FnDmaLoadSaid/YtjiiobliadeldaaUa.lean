/- Small parts of the laws of small machines. No condition but that the arguments lie in memory. -/
import Derived.Test.YtjiiobliadeldaaQp
import Derived.Test.YtjiiobliadeldaaDw
namespace Go.Proofs.Ytjiiobliadeldaa
open Go.RowKit
@[go_sem] theorem run_field_gst1 (v0 v1 v2 v3 v4 v5 v6 v7 v8 v9 v10 v11 v12 v13 v14 : Value) (w : World) : (Instr.field 48 (.agg #[v0, v1, v2, v3, v4, v5, v6, v7, v8, v9, v10, v11, v12, v13, v14]) 1).run Try.prog w = .ok v1 w := by kernel_rfl
@[go_sem] theorem run_field_gst2 (v0 v1 v2 v3 v4 v5 v6 v7 v8 v9 v10 v11 v12 v13 v14 : Value) (w : World) : (Instr.field 48 (.agg #[v0, v1, v2, v3, v4, v5, v6, v7, v8, v9, v10, v11, v12, v13, v14]) 2).run Try.prog w = .ok v2 w := by kernel_rfl
@[go_sem] theorem run_field_gst4 (v0 v1 v2 v3 v4 v5 v6 v7 v8 v9 v10 v11 v12 v13 v14 : Value) (w : World) : (Instr.field 48 (.agg #[v0, v1, v2, v3, v4, v5, v6, v7, v8, v9, v10, v11, v12, v13, v14]) 4).run Try.prog w = .ok v4 w := by kernel_rfl
@[go_sem] theorem run_field_gst8 (v0 v1 v2 v3 v4 v5 v6 v7 v8 v9 v10 v11 v12 v13 v14 : Value) (w : World) : (Instr.field 48 (.agg #[v0, v1, v2, v3, v4, v5, v6, v7, v8, v9, v10, v11, v12, v13, v14]) 8).run Try.prog w = .ok v13 w := by kernel_rfl
theorem wrapq (x : Int) (h0 : -1000000 ≤ x) (h1 : x ≤ 1000000) : IntKind.i64.wrap x = x := by
  simp only [IntKind.wrap, IntKind.bits, IntKind.signed]
  simp; omega
theorem wrap64q (x : Int) (h0 : -1000000 ≤ x) (h1 : x ≤ 1000000) : wrap64 x = x := by
  have h := wrapq x h0 h1
  first | (unfold wrap64; omega) | (rw [IntKind.wrap_i64] at h; exact h) | (rw [← IntKind.wrap_i64]; exact h) | (simpa using h)
section
variable {P : Program} {o : Oper} {a : Act} {w0 w : World} {L : List En} {Q : Go.Exit → Act → World → Prop} {K : Act → World → Prop} {α : Type} {enc : α → List Value} {sz bytes e : Nat}
theorem wp_lit_H {t : TypeId} {n : Nat} {parts : Array (Nat × Operand)} (ho : o.op = .buildSlice t n parts) (H : Hp w0 w L) [hE : EI P t enc sz bytes e] {zc : List Value} [hZ : TyZ P e zc] (ys : List α)
    (hf : Instr.fill (fun i => some (i * sz, sz)) ((Array.range (n * sz)).map (zc.toArray[· % zc.toArray.size]!)) (parts.map fun (i, x) => (i, a.eval x)).toList = some (ys.flatMap enc).toArray)
    (hn : ys.length = n) (hpos : ¬ n * sz = 0) (hsm : n * sz ≤ 2 ^ 24)
    (h : ∀ b w', Hp w0 w' (.sl enc sz e ⟨some ⟨b, 0, none⟩, n, ys⟩ :: L) → K (a.put o.dst (.slice (some ⟨b, 0, none⟩) n n)) w') : o.wp P a w K Q := by
  obtain ⟨i, z, hi, hz, hsize, hby, hzs⟩ := hE.info.hi
  have hzc : z.cells = zc.toArray := by
    have h := hZ.zero
    rw [hi] at h
    simp only [Option.bind_some, hz, Option.map_some, Option.some.injEq] at h
    rw [← h]
  have hr : (Instr.buildSlice t n (parts.map fun (i, x) => (i, a.eval x))).run P w = .ok (.slice (some ⟨w.heap.size, 0, none⟩) n n) (w.alloc (.cells (ys.flatMap enc).toArray e)) := by
    rw [← hzc] at hf
    exact run_buildSlice w t e n _ _ i z hE.info.ht hi hz (by rw [hsize]; exact Nat.not_lt.2 hsm) (by rw [hsize]; exact hpos) (by rw [hsize]; exact hf)
  unfold Oper.wp execOp
  simp only [ho, Sem.run_bind, Sem.run_pure, Result.andThen_ok, hr]
  refine h _ _ (H.add_sl ?_ ((Below.refl _ _).alloc (Nat.le_refl _) _))
  exact own_new w (ys.flatMap enc).toArray n ys (Nat.le_refl _) (by simp) (by simp [flat_len hE.info.henc]) hn.symm (by unfold maxLen; have := Nat.le_mul_of_pos_right ys.length hE.info.hsz; rw [hn] at this; omega)
end
theorem flat_same {α : Type} {f : α → List Value} : ∀ {l : List α} {k : Nat} {x y : α}, l[k]? = some x → f y = f x → (l.set k y).flatMap f = l.flatMap f
  | [], _, _, _, h, _ => by simp at h
  | z :: l, 0, x, y, h, e => by
    simp only [List.getElem?_cons_zero, Option.some.injEq] at h
    subst h
    simp [e]
  | z :: l, k + 1, x, y, h, e => by
    simp only [List.getElem?_cons_succ] at h
    simp [flat_same h e]
theorem Hp.sl_same {w0 w : World} {L : List En} {α : Type} {enc : α → List Value} {sz e : Nat} {s t : Sl α} (hA : t.A = s.A) (hc : t.c = s.c) (hl : t.xs.length = s.xs.length) (hf : t.xs.flatMap enc = s.xs.flatMap enc) (H : Hp w0 w (.sl enc sz e s :: L)) : Hp w0 w (.sl enc sz e t :: L) := by
  have hok : (En.sl enc sz e t).ok w := by
    have h : Own enc sz e w 0 s := H.ok (En.sl enc sz e s) (by simp)
    show Own enc sz e w 0 t
    unfold Own at *
    rw [hA, hc, hl, hf]
    exact h
  have hb : (En.sl enc sz e t).bl = (En.sl enc sz e s).bl := by show t.blk.toList = s.blk.toList; unfold Sl.blk; rw [hA]
  have nd := H.nd
  have ge := H.ge
  simp only [List.flatMap_cons] at nd ge
  rw [← hb] at nd ge
  exact ⟨H.below, fun x hx => (List.mem_cons.1 hx).elim (fun h => h ▸ hok) (fun h => H.ok x (by simp [h])), by simpa only [List.flatMap_cons] using nd, by simpa only [List.flatMap_cons] using ge⟩
theorem wg_len (m : MB) (g : Int) (x : MG) : (withGuestM m g x).guests.length = m.guests.length := by
  unfold withGuestM; split <;> simp
theorem pgW_len (m : MB) (f : Nat → Slot) : ∀ k, (pgW m f k).guests.length = m.guests.length
  | 0 => rfl
  | k + 1 => (wg_len _ _ _).trans (pgW_len m f k)
theorem gAt_wg {m : MB} (h : m.guests.length = 1) (x : MG) : gAtM (withGuestM m 0 x) 0 = x := by
  have hm : hasM m 0 = true := by simp [hasM, hasB, h]
  have hm2 : hasM { m with guests := m.guests.set 0 x } 0 = true := by simp [hasM, hasB, h]
  have e : withGuestM m 0 x = { m with guests := m.guests.set 0 x } := by unfold withGuestM; rw [if_pos hm]; rfl
  rw [e]
  unfold gAtM
  rw [if_pos hm2]
  show (((m.guests.set 0 x)[0]?).getD zeroMG) = x
  rw [List.getElem?_set_self (by omega)]; rfl
theorem pgW_live {m : MB} (h : m.guests.length = 1) (f : Nat → Slot) : ∀ k, (gAtM (pgW m f k) 0).live.length = (gAtM m 0).live.length
  | 0 => rfl
  | k + 1 => by
    show (gAtM (withGuestM (pgW m f k) 0 { gAtM (pgW m f k) 0 with live := (gAtM (pgW m f k) 0).live.set k (f k) }) 0).live.length = _
    rw [gAt_wg ((pgW_len m f k).trans h)]
    show ((gAtM (pgW m f k) 0).live.set k (f k)).length = _
    rw [List.length_set]; exact pgW_live h f k
theorem bbig_mq {d : BV} {m : MB} (h : m.size ≤ 4194304) (e : Hid (d.m = m)) : BBig d := by have := e.out; unfold BBig; rw [this]; exact h
set_option linter.unusedSimpArgs false in
set_option linter.unusedVariables false in
set_option maxRecDepth 100000 in
set_option maxHeartbeats 4000000 in
theorem guestOf_c (B : BV) (g : Int) (W0 : World) (R : BRd W0 B) (Z : BBig B) : Calls Try.prog 17 #[B.val, .int .i64 g] W0 fun e w' => ∃ d : GV, e = .returned d.val ∧ d.m = gAtM B.m g ∧ Hp W0 w' [.gst d] := by
  have H := Hp.start W0
  go_enter Try.func17, Try.ntmps17
  go_wp2_with (first
    | go_skip
    | ((with_reducible refine at_box ?_); first | (refine wpList_box_H rfl rfl H rfl (by first | exact CellsOf.agg | exact CellsOf.int | exact CellsOf.bool | exact CellsOf.slice | exact CellsOf.string | exact CellsOf.pointer | exact CellsOf.func) ?_; clear H; intro bX w H))
    | ((with_reducible refine at_alloc ?_); first | (refine wpList_alloc_H rfl rfl H ?_; clear H; intro bA w H))
    | ((with_reducible refine at_load ?_); first | (refine wpList_load_H rfl rfl H rfl (by repeat (first | exact LoadAt.here rfl | apply LoadAt.there)) ?_) | (refine wpList_loads_H rfl rfl H rfl (by repeat (first | (apply LoadsAt.here; repeat (first | exact GetsAt.nil | apply GetsAt.here | apply GetsAt.there)) | apply LoadsAt.there)) ?_))
    | ((with_reducible refine at_store ?_); first | (refine wpList_store_H rfl rfl H rfl rfl (by repeat (first | (apply StoreAt.here; (first | exact CellsOf.agg | exact CellsOf.int | exact CellsOf.bool | exact CellsOf.slice | exact CellsOf.string | exact CellsOf.pointer | exact CellsOf.func); (repeat (first | exact SetsAt.nil | apply SetsAt.here | apply SetsAt.there)); exact rfl; exact rfl) | apply StoreAt.there)) ?_; clear H; intro w H))
    | (go_at_call 47; refine (specGuestAt_c B g _ (R.at_ H) Z).mono ?_; rintro e w ⟨d, rfl, x1, K⟩; have HD := Lib.hid x1; clear x1; replace H := H.add_all K; clear K))
  refine bodyPost_ret (results_H rfl H rfl (by repeat (first | (apply LoadsAt.here; repeat (first | exact GetsAt.nil | apply GetsAt.here | apply GetsAt.there)) | apply LoadsAt.there))) rfl ⟨d, rfl, HD.out, H.pick (.cons (by repeat (first | exact Take.head | apply Take.tail)) .nil)⟩
end Go.Proofs.Ytjiiobliadeldaa
