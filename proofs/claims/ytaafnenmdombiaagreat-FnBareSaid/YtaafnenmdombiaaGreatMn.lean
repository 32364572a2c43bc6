/- Contracts of TableNew(4), of the program (slices.Repeat) and of the reference. No condition. -/
import Derived.Test.YtaafnenmdombiaaGreatDr
import Derived.Test.YtaafnenmdombiaaGreatGd
import Derived.Test.YtaafnenmdombiaaGreatBc
namespace Go.Proofs.YtaafnenmdombiaaGreat
open Go.RowKit
section
theorem flat_take {β : Type} (enc : β → List Value) {sz : Nat} (henc : ∀ x, (enc x).length = sz) : ∀ (l : List β) (k : Nat), (l.flatMap enc).take (k * sz) = (l.take k).flatMap enc
  | l, 0 => by simp
  | [], k + 1 => by simp
  | x :: l, k + 1 => by
    have hx := henc x
    have e : (k + 1) * sz = (enc x).length + k * sz := by rw [hx, Nat.succ_mul]; omega
    rw [List.flatMap_cons, List.take_succ_cons, List.flatMap_cons, e, List.take_length_add_append, flat_take enc henc l k]
theorem flat_drop {β : Type} (enc : β → List Value) {sz : Nat} (henc : ∀ x, (enc x).length = sz) : ∀ (l : List β) (k : Nat), (l.flatMap enc).drop (k * sz) = (l.drop k).flatMap enc
  | l, 0 => by simp
  | [], k + 1 => by simp
  | x :: l, k + 1 => by
    have hx := henc x
    have e : (k + 1) * sz = (enc x).length + k * sz := by rw [hx, Nat.succ_mul]; omega
    rw [List.flatMap_cons, List.drop_succ_cons, e, List.drop_length_add_append, flat_drop enc henc l k]
variable {P : Program} {α : Type} {enc : α → List Value} {sz bytes e t : Nat} {w0 w : World} {L L' : List En} {s : Sl α}
/-- The cells of a slice, one behind the other. -/
theorem rd_flat (E : EInfo P enc sz bytes e t) (hs : Rd enc sz w s) {g q : Nat} (hA : s.A = some ⟨g, q, none⟩) : ∀ j v, (s.xs.flatMap enc)[j]? = some v → w.cell? ((⟨g, q, none⟩ : Addr).add j) = some v := by
  intro j u hu
  have hj : j < s.xs.length * sz := by rw [← flat_len E.henc]; exact (List.getElem?_eq_some_iff.1 hu).1
  have hk : j / sz < s.xs.length := Nat.div_lt_of_lt_mul (by rw [Nat.mul_comm]; exact hj)
  have hkx : s.xs[j / sz]? = some s.xs[j / sz] := List.getElem?_eq_getElem hk
  have hjs : j % sz < (enc s.xs[j / sz]).length := by rw [E.henc]; exact Nat.mod_lt _ E.hsz
  have hjv : (enc s.xs[j / sz])[j % sz]? = some (enc s.xs[j / sz])[j % sz] := List.getElem?_eq_getElem hjs
  obtain ⟨b', o', hA', _, hc'⟩ := hs _ _ hkx
  rw [hA] at hA'; injection hA' with hA'; injection hA' with hb' ho'
  subst hb'; subst ho'
  have h1 := hc' _ _ hjv
  have h2 := flat_get E.henc s.xs _ _ _ _ hkx hjv
  have hdm : j / sz * sz + j % sz = j := by rw [Nat.mul_comm]; exact Nat.div_add_mod j sz
  rw [hdm] at h2
  rw [hu] at h2; injection h2 with h2
  rw [← h2] at h1
  have hadd : (⟨g, q, none⟩ : Addr).add j = ⟨g, q + j / sz * sz + j % sz, none⟩ := by
    rw [Nat.add_assoc, hdm]; unfold Addr.add; split <;> simp_all
  rw [hadd]; exact h1
theorem rd_flat_take (E : EInfo P enc sz bytes e t) (hs : Rd enc sz w s) {g q : Nat} (hA : s.A = some ⟨g, q, none⟩) (m : Nat) : ∀ j v, ((s.xs.take m).flatMap enc)[j]? = some v → w.cell? ((⟨g, q, none⟩ : Addr).add j) = some v := by
  intro j v h
  refine rd_flat E hs hA j v ?_
  rw [← flat_take enc E.henc, List.getElem?_take] at h
  split at h
  · exact h
  · cases h
/-- Elements are copied into a slice of the call's own. -/
theorem run_copy_sl (E : EInfo P enc sz bytes e t) (H : Hp w0 w L) (tk : Take L (.sl enc sz e s) L') {g : Nat} (hA : s.A = some ⟨g, 0, none⟩) (k : Nat) (ys : List α) (ad : Addr) (hsrc : ∀ j v, (ys.flatMap enc)[j]? = some v → w.cell? (ad.add j) = some v) (hk : k + ys.length ≤ s.xs.length) {m n c1 c2 : Nat} (hn : Nat.min m n = ys.length) (ty : TypeId) :
    ∃ w', (Builtin.copy_ #[t, t] ty #[.slice (some ⟨g, k * sz, none⟩) n c1, .slice (some ad) m c2]).run P w = .ok (.int .i64 ys.length) w' ∧ Hp w0 w' (.sl enc sz e { s with xs := s.xs.take k ++ ys ++ s.xs.drop (k + ys.length) } :: L') := by
  obtain ⟨g', cur, hA', _, hlt, hh, hlc, hcm, hcs, ht⟩ := (H.get tk).form ⟨_, hA⟩
  rw [hA] at hA'; injection hA' with hA'; injection hA' with hA'
  subst hA'
  obtain ⟨i, z, hi, hz, hsize, hby, hzs⟩ := E.hi
  have hF : (ys.flatMap enc).length = ys.length * sz := flat_len E.henc ys
  have hks : k * sz + ys.length * sz ≤ s.xs.length * sz := by rw [← Nat.add_mul]; exact Nat.mul_le_mul_right _ hk
  have hxs : s.xs.length * sz ≤ s.c * sz := Nat.mul_le_mul_right _ hlc
  have hl := run_loadCells_list (P := P) w ad (ys.flatMap enc) hsrc
  have hst := run_storeCells_at P g (k * sz) e (ys.flatMap enc) 0 cur w hh (by rw [hF, hcs]; omega) (fun u hu => by obtain ⟨x, _, hux⟩ := List.mem_flatMap.1 hu; exact E.hone x u hux)
  rw [hF] at hl
  simp only [Nat.add_zero] at hst
  refine ⟨w.setRow g (cur.toList.take (k * sz) ++ ys.flatMap enc ++ cur.toList.drop (k * sz + (ys.flatMap enc).length)).toArray, ?_, H.swap_at tk (touch_only (only_setRow w g _) |> fun h => by simpa [En.sl, Sl.blk, hA] using h) ?_ rfl⟩
  · simp [Builtin.copy_, run_underlying E.ht, Builtin.lenOf, Builtin.firstCells, sizeOf, typeInfo, hi, hsize, hn, hl, hst, goInt]
  · have hr : (w.setRow g (cur.toList.take (k * sz) ++ ys.flatMap enc ++ cur.toList.drop (k * sz + (ys.flatMap enc).length)).toArray).heap[g]? = some (.cells (cur.toList.take (k * sz) ++ ys.flatMap enc ++ cur.toList.drop (k * sz + (ys.flatMap enc).length)).toArray e (0, 0)) := setRow_heap w g cur _ e _ hh
    have hlen : (s.xs.take k ++ ys ++ s.xs.drop (k + ys.length)).length = s.xs.length := by simp; omega
    have key : (cur.toList.take (k * sz) ++ ys.flatMap enc ++ cur.toList.drop (k * sz + (ys.flatMap enc).length)).take (s.xs.length * sz) = (s.xs.take k ++ ys ++ s.xs.drop (k + ys.length)).flatMap enc := by
      have hX : (cur.toList.take (k * sz) ++ ys.flatMap enc).length = k * sz + (ys.flatMap enc).length := by simp; omega
      rw [List.take_append, List.take_of_length_le (by rw [hX, hF]; exact hks), hX, ← List.drop_take, List.flatMap_append, List.flatMap_append, ← flat_take enc E.henc, ← flat_drop enc E.henc, ← ht, List.take_take, Nat.min_eq_left (by omega), hF, Nat.add_mul]
    refine ⟨by simp only [flat_len E.henc], .inr ⟨g, s.c, _, by simp only [hA, hlen], Nat.zero_le _, hr, by rw [hlen]; exact hlc, hcm, ?_, by rw [hlen]; simpa using key⟩⟩
    simp [hF]; omega
variable {ops : Array Oper} {rest : List Oper} {o : Oper} {a : Act} {Q : Go.Exit → Act → World → Prop} {K : Act → World → Prop} {x y : Operand}
theorem wp_copy_H (ho : o.op = .call { callee := .builtin .copy, args := #[x, y], argTypes := #[t, t] }) [hE : EI P t enc sz bytes e] (H : Hp w0 w L) (s : Sl α) (tk : Take L (.sl enc sz e s) L') {g : Nat} (hA : s.A = some ⟨g, 0, none⟩) (k : Nat) (ys : List α) {ad : Addr} (hsrc : ∀ j v, (ys.flatMap enc)[j]? = some v → w.cell? (ad.add j) = some v) (hk : k + ys.length ≤ s.xs.length)
    {q m n c1 c2 : Nat} (hx : a.eval x = .slice (some ⟨g, q, none⟩) n c1) (hq : q = k * sz) (hy : a.eval y = .slice (some ad) m c2) (hn : Nat.min m n = ys.length)
    (h : ∀ w', Hp w0 w' (.sl enc sz e { s with xs := s.xs.take k ++ ys ++ s.xs.drop (k + ys.length) } :: L') → K (a.put o.dst (.int .i64 ys.length)) w') : o.wp P a w K Q := by
  subst hq
  obtain ⟨w', hr, H'⟩ := run_copy_sl hE.info H tk hA k ys ad hsrc hk (c1 := c1) (c2 := c2) hn o.type
  unfold Oper.wp execOp
  simp only [ho, resolve, invoke, builtin, Sem.run_bind, Sem.run_pure, Result.andThen_ok, List.map_toArray, List.map_cons, List.map_nil, hx, hy, hr]
  exact h w' H'
theorem at_copy {d : Option Tmp} {args : Array Operand} {ty : TypeId} {ts : Array TypeId} {p : String} {af : Array Edge} {gu : Option (Nat × Bool)} (h : wpList P ops Q (⟨d, .call { callee := .builtin .copy, args := args, argTypes := ts }, ty, p, af, gu⟩ :: rest) a w) : wpList P ops Q (⟨d, .call { callee := .builtin .copy, args := args, argTypes := ts }, ty, p, af, gu⟩ :: rest) a w := h
theorem wpList_copy_H (hgd : Region.wanted o (yielded ops a.tmps) = true) (ho : o.op = .call { callee := .builtin .copy, args := #[x, y], argTypes := #[t, t] }) [hE : EI P t enc sz bytes e] (H : Hp w0 w L) (s : Sl α) (tk : Take L (.sl enc sz e s) L') {g : Nat} (hA : s.A = some ⟨g, 0, none⟩) (k : Nat) (ys : List α) {ad : Addr} (hsrc : ∀ j v, (ys.flatMap enc)[j]? = some v → w.cell? (ad.add j) = some v) (hk : k + ys.length ≤ s.xs.length)
    {q m n c1 c2 : Nat} (hx : a.eval x = .slice (some ⟨g, q, none⟩) n c1) (hq : q = k * sz) (hy : a.eval y = .slice (some ad) m c2) (hn : Nat.min m n = ys.length)
    (h : ∀ w', Hp w0 w' (.sl enc sz e { s with xs := s.xs.take k ++ ys ++ s.xs.drop (k + ys.length) } :: L') → wpList P ops Q rest (a.put o.dst (.int .i64 ys.length)) w') : wpList P ops Q (o :: rest) a w :=
  BigFrame.wpList_want hgd fun _ hK => wp_copy_H ho H s tk hA k ys hsrc hk hx hq hy hn fun w' H' => hK _ _ (h w' H')
end
set_option linter.unusedSimpArgs false in
set_option linter.unusedVariables false in
set_option maxRecDepth 100000 in
set_option maxHeartbeats 4000000 in
theorem mul64_14 (w : World) : Calls Tryz.prog 230 #[.int .u64 1, .int .u64 4] w fun e w' => e = .returned (.tuple #[.int .u64 0, .int .u64 4]) ∧ Hp w w' [] := by
  have H := Hp.start w
  go_enter Tryz.func230, Tryz.ntmps230
  go_wp2
  go_ret2
  exact ⟨rfl, H⟩
set_option linter.unusedSimpArgs false in
set_option linter.unusedVariables false in
set_option maxRecDepth 100000 in
set_option maxHeartbeats 4000000 in
theorem mul_14 (w : World) : Calls Tryz.prog 226 #[.int .u64 1, .int .u64 4] w fun e w' => e = .returned (.tuple #[.int .u64 0, .int .u64 4]) ∧ Hp w w' [] := by
  go_enter Tryz.func226, Tryz.ntmps226
  go_wp2_with (go_at_call 230; refine (mul64_14 _).mono ?_; rintro e w' ⟨rfl, K⟩)
  go_ret2
  exact ⟨rfl, K⟩
set_option linter.unusedSimpArgs false in
set_option linter.unusedVariables false in
set_option maxRecDepth 100000 in
set_option maxHeartbeats 4000000 in
theorem repeat_c (s : Sl Slot) (x : Slot) (hx : s.xs = [x]) (W0 : World) (R : Rd Slot.cells 2 W0 s) : Calls Tryz.prog 219 #[.slice s.A 1 s.c, .int .i64 4] W0 fun e w' => ∃ d : Sl Slot, e = .returned (.slice d.A d.xs.length d.c) ∧ d.xs = [x, x, x, x] ∧ Hp W0 w' [.slot d] := by
  have H := Hp.start W0
  obtain ⟨g0, q0, hA, _, _⟩ := R 0 x (by rw [hx]; rfl)
  obtain ⟨A, c, xs⟩ := s
  simp only at hx hA
  subst hx hA
  have H := Hp.start W0
  go_enter Tryz.func219, Tryz.ntmps219
  go_wp2_with (first
    | go_skip
    | ((with_reducible refine at_box ?_); first | (refine wpList_box_H rfl rfl H rfl (by first | exact CellsOf.agg | exact CellsOf.int | exact CellsOf.bool | exact CellsOf.slice | exact CellsOf.string | exact CellsOf.pointer | exact CellsOf.func) ?_; clear H; intro bB w H))
    | ((with_reducible refine at_alloc ?_); first | (refine wpList_alloc_H rfl rfl H ?_; clear H; intro b w H))
    | ((with_reducible refine at_load ?_); first | (refine wpList_load_H rfl rfl H rfl (by repeat (first | exact LoadAt.here rfl | apply LoadAt.there)) ?_) | (refine wpList_loads_H rfl rfl H rfl (by repeat (first | (apply LoadsAt.here; repeat (first | exact GetsAt.nil | apply GetsAt.here | apply GetsAt.there)) | apply LoadsAt.there)) ?_))
    | ((with_reducible refine at_store ?_); first | (refine wpList_store_H rfl rfl H rfl rfl (by repeat (first | (apply StoreAt.here; (first | exact CellsOf.agg | exact CellsOf.int | exact CellsOf.bool | exact CellsOf.slice | exact CellsOf.string | exact CellsOf.pointer | exact CellsOf.func); (repeat (first | exact SetsAt.nil | apply SetsAt.here | apply SetsAt.there)); exact rfl; exact rfl) | apply StoreAt.there)) ?_; clear H; intro w H))
    | ((with_reducible refine at_mkslice ?_); first | (refine wpList_make_H (n := 4) rfl rfl H (⟨0, 0⟩ : Slot) rfl rfl rfl (by decide) (by decide) ?_; clear H; intro b w H))
    | (go_at_call 226; refine (mul_14 _).mono ?_; rintro e w ⟨rfl, K⟩; replace H := H.add_all K; clear K)
    | ((with_reducible refine at_copy ?_); (refine wpList_copy_H rfl rfl H (⟨some ⟨b, 0, none⟩, 4, [⟨0, 0⟩, ⟨0, 0⟩, ⟨0, 0⟩, ⟨0, 0⟩]⟩ : Sl Slot) (by repeat (first | exact Take.head | apply Take.tail)) rfl 0 [x] (rd_flat eSlot (R.at_ H) rfl) (by simp) rfl rfl rfl rfl ?_); clear H; intro w H))
  replace H : Hp W0 _ [.slot ⟨some ⟨b, 0, none⟩, 4, [x, ⟨0, 0⟩, ⟨0, 0⟩, ⟨0, 0⟩]⟩] := H
  go_loopw [8] (fun nv wr => ∃ (k : Nat) (xs : List Slot), ((k = 1 ∧ xs = [x, ⟨0, 0⟩, ⟨0, 0⟩, ⟨0, 0⟩]) ∨ (k = 2 ∧ xs = [x, x, ⟨0, 0⟩, ⟨0, 0⟩]) ∨ (k = 4 ∧ xs = [x, x, x, x])) ∧ nv = .int .i64 k ∧ Hp W0 wr [.slot ⟨some ⟨b, 0, none⟩, 4, xs⟩]) (fun nv _ => 4 - (intOf nv).toNat)
  case atStart => exact ⟨1, _, .inl ⟨rfl, rfl⟩, rfl, H⟩
  case round =>
    clear H
    obtain ⟨k, xs, hk, rfl, H⟩ := hrel
    rcases hk with ⟨rfl, rfl⟩ | ⟨rfl, rfl⟩ | ⟨rfl, rfl⟩
    · go_wp2
      refine wp_cut (fun u a' w' => ∃ (_ : Unit), Hp W0 w' [.slot ⟨some ⟨b, 0, none⟩, 4, [x, x, ⟨0, 0⟩, ⟨0, 0⟩]⟩] ∧ a' = puts u [(38, (.int .i64 1)), (39, (.slice (some ⟨b, 0, none⟩) 4 4)), (40, (.int .i64 1)), (41, (.slice (some ⟨b, 2, none⟩) 3 3)), (42, (.slice (some ⟨b, 0, none⟩) 4 4)), (43, (.int .i64 1)), (44, (.slice (some ⟨b, 0, none⟩) 1 4)), (45, (.int .i64 1)), (46, (.int .i64 2)), (8, (.int .i64 2))]) ?_ ?_
      · refine wp_region_held (S := (fun _ => True)) (by kernel_rfl) ?_
        replace H := H.drew
        refine takeH (i := 0) rfl .here (by kernel_rfl) (by kernel_rfl) (by kernel_rfl) (fun _ _ _ h => absurd h.1 (by simp)) (yields_val (v := (.int .i64 1)) rfl (fun _ => by go_simp)) trivial ?_
        (try simp only [Act.put, List.setIfInBounds_toArray, List.set_cons_succ, List.set_cons_zero])
        refine takeH (i := 1) rfl (.there .here) (by kernel_rfl) (by kernel_rfl) (by kernel_rfl) (fun _ _ _ h => absurd h.1 (by simp)) (yields_val (v := (.slice (some ⟨b, 0, none⟩) 4 4)) rfl (fun _ => by go_simp)) trivial ?_
        (try simp only [Act.put, List.setIfInBounds_toArray, List.set_cons_succ, List.set_cons_zero])
        refine takeH (i := 2) rfl (.there (.there .here)) (by kernel_rfl) (by kernel_rfl) (by kernel_rfl) (fun _ _ _ h => absurd h.1 (by simp)) (yields_val (v := (.int .i64 1)) rfl (fun _ => by go_simp)) trivial ?_
        (try simp only [Act.put, List.setIfInBounds_toArray, List.set_cons_succ, List.set_cons_zero])
        refine takeH (i := 3) rfl (.there (.there (.there .here))) (by kernel_rfl) (by kernel_rfl) (by kernel_rfl) (fun _ _ _ h => absurd h.1 (by simp)) (yields_val (v := (.slice (some ⟨b, 2, none⟩) 3 3)) rfl (fun _ => by go_simp)) trivial ?_
        (try simp only [Act.put, List.setIfInBounds_toArray, List.set_cons_succ, List.set_cons_zero])
        refine takeH (i := 4) rfl (.there (.there (.there (.there .here)))) (by kernel_rfl) (by kernel_rfl) (by kernel_rfl) (fun _ _ _ h => absurd h.1 (by simp)) (yields_val (v := (.slice (some ⟨b, 0, none⟩) 4 4)) rfl (fun _ => by go_simp)) trivial ?_
        (try simp only [Act.put, List.setIfInBounds_toArray, List.set_cons_succ, List.set_cons_zero])
        refine takeH (i := 5) rfl (.there (.there (.there (.there (.there .here))))) (by kernel_rfl) (by kernel_rfl) (by kernel_rfl) (fun _ _ _ h => absurd h.1 (by simp)) (yields_val (v := (.int .i64 1)) rfl (fun _ => by go_simp)) trivial ?_
        (try simp only [Act.put, List.setIfInBounds_toArray, List.set_cons_succ, List.set_cons_zero])
        refine takeH (i := 6) rfl (.there (.there (.there (.there (.there (.there .here)))))) (by kernel_rfl) (by kernel_rfl) (by kernel_rfl) (fun _ _ _ h => absurd h.1 (by simp)) (yields_val (v := (.slice (some ⟨b, 0, none⟩) 1 4)) rfl (fun _ => by go_simp)) trivial ?_
        (try simp only [Act.put, List.setIfInBounds_toArray, List.set_cons_succ, List.set_cons_zero])
        refine anyH_1 (i := 7) (by kernel_rfl) ?_
        refine wpOp_at rfl (.there (.there (.there (.there (.there (.there (.there .here))))))) rfl ?_
        refine wp_copy_H rfl H (⟨some ⟨b, 0, none⟩, 4, [x, ⟨0, 0⟩, ⟨0, 0⟩, ⟨0, 0⟩]⟩ : Sl Slot) (by repeat (first | exact Take.head | apply Take.tail)) rfl 1 [x] (rd_flat_take eSlot (H.rd (s := (⟨some ⟨b, 0, none⟩, 4, [x, ⟨0, 0⟩, ⟨0, 0⟩, ⟨0, 0⟩]⟩ : Sl Slot)) (by repeat (first | exact Take.head | apply Take.tail)) slot_len) rfl 1) (by simp) rfl rfl rfl rfl ?_
        clear H
        intro w H
        replace H : Hp W0 _ [.slot ⟨some ⟨b, 0, none⟩, 4, [x, x, ⟨0, 0⟩, ⟨0, 0⟩]⟩] := H
        refine ⟨trivial, ?_⟩
        (try simp only [Act.put, List.setIfInBounds_toArray, List.set_cons_succ, List.set_cons_zero])
        refine takeH (i := 8) rfl (.there (.there (.there (.there (.there (.there (.there (.there .here)))))))) (by kernel_rfl) (by kernel_rfl) (by kernel_rfl) (fun _ _ _ h => absurd h.1 (by simp)) (yields_val (v := (.int .i64 2)) rfl (fun _ => by (first | (go_simp; done) | (go_simp; rw [(by decide : IntKind.i64.wrap 2 = 2)]) | (rw [← (by decide : IntKind.i64.wrap 2 = 2)]; go_simp)))) trivial ?_
        (try simp only [Act.put, List.setIfInBounds_toArray, List.set_cons_succ, List.set_cons_zero])
        refine takeH (i := 9) rfl (.there (.there (.there (.there (.there (.there (.there (.there (.there .here))))))))) (by kernel_rfl) (by kernel_rfl) (by kernel_rfl) (fun _ _ _ h => absurd h.1 (by simp)) (yields_val (v := (.int .i64 2)) rfl (fun _ => by go_simp)) trivial ?_
        (try simp only [Act.put, List.setIfInBounds_toArray, List.set_cons_succ, List.set_cons_zero])
        refine wpAnyH_done (by kernel_rfl) ?_ _
        exact ⟨rfl, (), H.pick (.cons (by repeat (first | exact Take.head | apply Take.tail)) .nil), by first | (simp only [puts_cons, puts_nil, Act.put, List.setIfInBounds_toArray, List.set_cons_succ, List.set_cons_zero]; done) | (simp only [puts_cons, puts_nil, Act.put, List.setIfInBounds_toArray, List.set_cons_succ, List.set_cons_zero]; rfl)⟩
      clear H
      rintro u w ⟨_, H, rfl⟩
      simp only [puts_cons, puts_nil, Act.put, List.setIfInBounds_toArray, List.set_cons_succ, List.set_cons_zero]
      go_wp2
      go_roundw
      case rel => exact ⟨2, _, .inr (.inl ⟨rfl, rfl⟩), rfl, H⟩
      case measure => simp [intOf]
    · go_wp2
      refine wp_cut (fun u a' w' => ∃ (_ : Unit), Hp W0 w' [.slot ⟨some ⟨b, 0, none⟩, 4, [x, x, x, x]⟩] ∧ a' = puts u [(38, (.int .i64 2)), (39, (.slice (some ⟨b, 0, none⟩) 4 4)), (40, (.int .i64 2)), (41, (.slice (some ⟨b, 4, none⟩) 2 2)), (42, (.slice (some ⟨b, 0, none⟩) 4 4)), (43, (.int .i64 2)), (44, (.slice (some ⟨b, 0, none⟩) 2 4)), (45, (.int .i64 2)), (46, (.int .i64 4)), (8, (.int .i64 4))]) ?_ ?_
      · refine wp_region_held (S := (fun _ => True)) (by kernel_rfl) ?_
        replace H := H.drew
        refine takeH (i := 0) rfl .here (by kernel_rfl) (by kernel_rfl) (by kernel_rfl) (fun _ _ _ h => absurd h.1 (by simp)) (yields_val (v := (.int .i64 2)) rfl (fun _ => by go_simp)) trivial ?_
        (try simp only [Act.put, List.setIfInBounds_toArray, List.set_cons_succ, List.set_cons_zero])
        refine takeH (i := 1) rfl (.there .here) (by kernel_rfl) (by kernel_rfl) (by kernel_rfl) (fun _ _ _ h => absurd h.1 (by simp)) (yields_val (v := (.slice (some ⟨b, 0, none⟩) 4 4)) rfl (fun _ => by go_simp)) trivial ?_
        (try simp only [Act.put, List.setIfInBounds_toArray, List.set_cons_succ, List.set_cons_zero])
        refine takeH (i := 2) rfl (.there (.there .here)) (by kernel_rfl) (by kernel_rfl) (by kernel_rfl) (fun _ _ _ h => absurd h.1 (by simp)) (yields_val (v := (.int .i64 2)) rfl (fun _ => by go_simp)) trivial ?_
        (try simp only [Act.put, List.setIfInBounds_toArray, List.set_cons_succ, List.set_cons_zero])
        refine takeH (i := 3) rfl (.there (.there (.there .here))) (by kernel_rfl) (by kernel_rfl) (by kernel_rfl) (fun _ _ _ h => absurd h.1 (by simp)) (yields_val (v := (.slice (some ⟨b, 4, none⟩) 2 2)) rfl (fun _ => by go_simp)) trivial ?_
        (try simp only [Act.put, List.setIfInBounds_toArray, List.set_cons_succ, List.set_cons_zero])
        refine takeH (i := 4) rfl (.there (.there (.there (.there .here)))) (by kernel_rfl) (by kernel_rfl) (by kernel_rfl) (fun _ _ _ h => absurd h.1 (by simp)) (yields_val (v := (.slice (some ⟨b, 0, none⟩) 4 4)) rfl (fun _ => by go_simp)) trivial ?_
        (try simp only [Act.put, List.setIfInBounds_toArray, List.set_cons_succ, List.set_cons_zero])
        refine takeH (i := 5) rfl (.there (.there (.there (.there (.there .here))))) (by kernel_rfl) (by kernel_rfl) (by kernel_rfl) (fun _ _ _ h => absurd h.1 (by simp)) (yields_val (v := (.int .i64 2)) rfl (fun _ => by go_simp)) trivial ?_
        (try simp only [Act.put, List.setIfInBounds_toArray, List.set_cons_succ, List.set_cons_zero])
        refine takeH (i := 6) rfl (.there (.there (.there (.there (.there (.there .here)))))) (by kernel_rfl) (by kernel_rfl) (by kernel_rfl) (fun _ _ _ h => absurd h.1 (by simp)) (yields_val (v := (.slice (some ⟨b, 0, none⟩) 2 4)) rfl (fun _ => by go_simp)) trivial ?_
        (try simp only [Act.put, List.setIfInBounds_toArray, List.set_cons_succ, List.set_cons_zero])
        refine anyH_1 (i := 7) (by kernel_rfl) ?_
        refine wpOp_at rfl (.there (.there (.there (.there (.there (.there (.there .here))))))) rfl ?_
        refine wp_copy_H rfl H (⟨some ⟨b, 0, none⟩, 4, [x, x, ⟨0, 0⟩, ⟨0, 0⟩]⟩ : Sl Slot) (by repeat (first | exact Take.head | apply Take.tail)) rfl 2 [x, x] (rd_flat_take eSlot (H.rd (s := (⟨some ⟨b, 0, none⟩, 4, [x, x, ⟨0, 0⟩, ⟨0, 0⟩]⟩ : Sl Slot)) (by repeat (first | exact Take.head | apply Take.tail)) slot_len) rfl 2) (by simp) rfl rfl rfl rfl ?_
        clear H
        intro w H
        replace H : Hp W0 _ [.slot ⟨some ⟨b, 0, none⟩, 4, [x, x, x, x]⟩] := H
        refine ⟨trivial, ?_⟩
        (try simp only [Act.put, List.setIfInBounds_toArray, List.set_cons_succ, List.set_cons_zero])
        refine takeH (i := 8) rfl (.there (.there (.there (.there (.there (.there (.there (.there .here)))))))) (by kernel_rfl) (by kernel_rfl) (by kernel_rfl) (fun _ _ _ h => absurd h.1 (by simp)) (yields_val (v := (.int .i64 4)) rfl (fun _ => by (first | (go_simp; done) | (go_simp; rw [(by decide : IntKind.i64.wrap 4 = 4)]) | (rw [← (by decide : IntKind.i64.wrap 4 = 4)]; go_simp)))) trivial ?_
        (try simp only [Act.put, List.setIfInBounds_toArray, List.set_cons_succ, List.set_cons_zero])
        refine takeH (i := 9) rfl (.there (.there (.there (.there (.there (.there (.there (.there (.there .here))))))))) (by kernel_rfl) (by kernel_rfl) (by kernel_rfl) (fun _ _ _ h => absurd h.1 (by simp)) (yields_val (v := (.int .i64 4)) rfl (fun _ => by go_simp)) trivial ?_
        (try simp only [Act.put, List.setIfInBounds_toArray, List.set_cons_succ, List.set_cons_zero])
        refine wpAnyH_done (by kernel_rfl) ?_ _
        exact ⟨rfl, (), H.pick (.cons (by repeat (first | exact Take.head | apply Take.tail)) .nil), by first | (simp only [puts_cons, puts_nil, Act.put, List.setIfInBounds_toArray, List.set_cons_succ, List.set_cons_zero]; done) | (simp only [puts_cons, puts_nil, Act.put, List.setIfInBounds_toArray, List.set_cons_succ, List.set_cons_zero]; rfl)⟩
      clear H
      rintro u w ⟨_, H, rfl⟩
      simp only [puts_cons, puts_nil, Act.put, List.setIfInBounds_toArray, List.set_cons_succ, List.set_cons_zero]
      go_wp2
      go_roundw
      case rel => exact ⟨4, _, .inr (.inr ⟨rfl, rfl⟩), rfl, H⟩
      case measure => simp [intOf]
    · go_wp2
      go_ret
      exact ⟨⟨some ⟨b, 0, none⟩, 4, [x, x, x, x]⟩, rfl, rfl, H⟩
set_option linter.unusedSimpArgs false in
set_option linter.unusedVariables false in
set_option maxRecDepth 100000 in
set_option maxHeartbeats 4000000 in
theorem brought4_c (w : World) : Calls Tryz.prog 197 #[.int .i64 4, .int .i64 0, .int .i64 24] w fun e w' => e = .returned (.int .i64 4) ∧ Hp w w' [] := by
  have H := Hp.start w
  go_enter Tryz.func197, Tryz.ntmps197
  go_wp2
  go_ret
  exact ⟨rfl, H⟩
set_option linter.unusedSimpArgs false in
set_option linter.unusedVariables false in
set_option maxRecDepth 100000 in
set_option maxHeartbeats 4000000 in
theorem specBrought4_c (w : World) : Calls Tryz.prog 180 #[.int .i64 4, .int .i64 0, .int .i64 24] w fun e w' => e = .returned (.int .i64 4) ∧ Hp w w' [] := by
  have H := Hp.start w
  go_enter Tryz.func180, Tryz.ntmps180
  go_wp2
  go_ret
  exact ⟨rfl, H⟩
set_option linter.unusedSimpArgs false in
set_option linter.unusedVariables false in
set_option maxRecDepth 100000 in
set_option maxHeartbeats 4000000 in
theorem tableNew_c (W0 : World) : Calls Tryz.prog 199 #[.int .i64 4] W0 fun e w' => ∃ d : Sl Slot, e = .returned (.slice d.A d.xs.length d.c) ∧ d.xs = [⟨-1, 0⟩, ⟨-1, 0⟩, ⟨-1, 0⟩, ⟨-1, 0⟩] ∧ Hp W0 w' [.slot d] := by
  have H := Hp.start W0
  have H := Hp.start W0
  go_enter Tryz.func199, Tryz.ntmps199
  go_wp2_with (first
    | go_skip
    | ((with_reducible refine at_box ?_); first | (refine wpList_box_H rfl rfl H rfl (by first | exact CellsOf.agg | exact CellsOf.int | exact CellsOf.bool | exact CellsOf.slice | exact CellsOf.string | exact CellsOf.pointer | exact CellsOf.func) ?_; clear H; intro b w H))
    | ((with_reducible refine at_alloc ?_); first | (refine wpList_alloc_H rfl rfl H ?_; clear H; intro b w H))
    | ((with_reducible refine at_load ?_); first | (refine wpList_load_H rfl rfl H rfl (by repeat (first | exact LoadAt.here rfl | apply LoadAt.there)) ?_) | (refine wpList_loads_H rfl rfl H rfl (by repeat (first | (apply LoadsAt.here; repeat (first | exact GetsAt.nil | apply GetsAt.here | apply GetsAt.there)) | apply LoadsAt.there)) ?_))
    | ((with_reducible refine at_store ?_); first | (refine wpList_store_H rfl rfl H rfl rfl (by repeat (first | (apply StoreAt.here; (first | exact CellsOf.agg | exact CellsOf.int | exact CellsOf.bool | exact CellsOf.slice | exact CellsOf.string | exact CellsOf.pointer | exact CellsOf.func); (repeat (first | exact SetsAt.nil | apply SetsAt.here | apply SetsAt.there)); exact rfl; exact rfl) | apply StoreAt.there)) ?_; clear H; intro w H))
    | ((with_reducible refine at_slice ?_); first | (refine wpList_one_H rfl rfl H (⟨-1, 0⟩ : Slot) rfl CellsOf.agg rfl (by decide) ?_; clear H; intro bl w H))
    | (go_at_call 193; refine (noSlot_c _).mono ?_; rintro e w ⟨rfl, hb⟩; replace H := H.still hb; clear hb)
    | (go_at_call 197; refine (brought4_c _).mono ?_; rintro e w ⟨rfl, K⟩; replace H := H.add_all K; clear K)
    | (go_at_call 219; refine (repeat_c (⟨some ⟨bl, 0, none⟩, 1, [(⟨-1, 0⟩ : Slot)]⟩ : Sl Slot) (⟨-1, 0⟩ : Slot) rfl _ (H.rd (s := (⟨some ⟨bl, 0, none⟩, 1, [(⟨-1, 0⟩ : Slot)]⟩ : Sl Slot)) (by repeat (first | exact Take.head | apply Take.tail)) slot_len)).mono ?_; rintro e w ⟨d, rfl, HX, K⟩; replace HX := Lib.hid HX; replace H := H.add_all K; clear K))
  go_ret
  exact ⟨d, rfl, HX.out, H.pick (.cons (by repeat (first | exact Take.head | apply Take.tail)) .nil)⟩
set_option linter.unusedSimpArgs false in
set_option linter.unusedVariables false in
set_option maxRecDepth 100000 in
set_option maxHeartbeats 4000000 in
theorem specTableNew_c (W0 : World) : Calls Tryz.prog 181 #[.int .i64 4] W0 fun e w' => ∃ d : Sl Slot, e = .returned (.slice d.A d.xs.length d.c) ∧ d.xs = [⟨-1, 0⟩, ⟨-1, 0⟩, ⟨-1, 0⟩, ⟨-1, 0⟩] ∧ Hp W0 w' [.slot d] := by
  have H := Hp.start W0
  have H := Hp.start W0
  go_enter Tryz.func181, Tryz.ntmps181
  go_wp2_with (first
    | go_skip
    | ((with_reducible refine at_box ?_); first | (refine wpList_box_H rfl rfl H rfl (by first | exact CellsOf.agg | exact CellsOf.int | exact CellsOf.bool | exact CellsOf.slice | exact CellsOf.string | exact CellsOf.pointer | exact CellsOf.func) ?_; clear H; intro b w H))
    | ((with_reducible refine at_alloc ?_); first | (refine wpList_alloc_H rfl rfl H ?_; clear H; intro b w H))
    | ((with_reducible refine at_load ?_); first | (refine wpList_load_H rfl rfl H rfl (by repeat (first | exact LoadAt.here rfl | apply LoadAt.there)) ?_) | (refine wpList_loads_H rfl rfl H rfl (by repeat (first | (apply LoadsAt.here; repeat (first | exact GetsAt.nil | apply GetsAt.here | apply GetsAt.there)) | apply LoadsAt.there)) ?_))
    | ((with_reducible refine at_store ?_); first | (refine wpList_store_H rfl rfl H rfl rfl (by repeat (first | (apply StoreAt.here; (first | exact CellsOf.agg | exact CellsOf.int | exact CellsOf.bool | exact CellsOf.slice | exact CellsOf.string | exact CellsOf.pointer | exact CellsOf.func); (repeat (first | exact SetsAt.nil | apply SetsAt.here | apply SetsAt.there)); exact rfl; exact rfl) | apply StoreAt.there)) ?_; clear H; intro w H))
    | ((with_reducible refine at_slice ?_); first | (refine wpList_nil_H rfl rfl H ?_; clear H; intro bn w H))
    | (go_at_call 180; refine (specBrought4_c _).mono ?_; rintro e w ⟨rfl, K⟩; replace H := H.add_all K; clear K))
  go_loopw [3, 4] (fun ov i wr => ∃ (k : Nat) (c : Sl Slot), k ≤ 4 ∧ i = .int .i64 (4 - k : Int) ∧ ov = .slice c.A c.xs.length c.c ∧ Hid (c.xs = List.replicate k (⟨-1, 0⟩ : Slot)) ∧ Hp W0 wr [.slot c]) (fun _ i _ => (intOf i).toNat)
  case atStart => exact ⟨0, ⟨some ⟨bn, 0, none⟩, 0, []⟩, by omega, rfl, rfl, Lib.hid rfl, H⟩
  case round =>
    clear H
    obtain ⟨k, c, hk, rfl, rfl, HX, H⟩ := hrel
    have hl : c.xs.length = k := by rw [HX.out]; simp
    have HL := Lib.hid hl; clear hl
    by_cases hk4 : k < 4
    · have hpos : (0 : Int) < 4 - k := by omega
      go_wp2_with (first
        | go_skip
        | ((with_reducible refine at_box ?_); first | (refine wpList_box_H rfl rfl H rfl (by first | exact CellsOf.agg | exact CellsOf.int | exact CellsOf.bool | exact CellsOf.slice | exact CellsOf.string | exact CellsOf.pointer | exact CellsOf.func) ?_; clear H; intro b w H))
        | ((with_reducible refine at_alloc ?_); first | (refine wpList_alloc_H rfl rfl H ?_; clear H; intro b w H))
        | ((with_reducible refine at_load ?_); first | (refine wpList_load_H rfl rfl H rfl (by repeat (first | exact LoadAt.here rfl | apply LoadAt.there)) ?_) | (refine wpList_loads_H rfl rfl H rfl (by repeat (first | (apply LoadsAt.here; repeat (first | exact GetsAt.nil | apply GetsAt.here | apply GetsAt.there)) | apply LoadsAt.there)) ?_))
        | ((with_reducible refine at_store ?_); first | (refine wpList_store_H rfl rfl H rfl rfl (by repeat (first | (apply StoreAt.here; (first | exact CellsOf.agg | exact CellsOf.int | exact CellsOf.bool | exact CellsOf.slice | exact CellsOf.string | exact CellsOf.pointer | exact CellsOf.func); (repeat (first | exact SetsAt.nil | apply SetsAt.here | apply SetsAt.there)); exact rfl; exact rfl) | apply StoreAt.there)) ?_; clear H; intro w H))
        | ((with_reducible refine at_slice ?_); first | (refine wpList_one_H rfl rfl H (⟨-1, 0⟩ : Slot) rfl CellsOf.agg rfl (by decide) ?_; clear H; intro bl w H))
        | ((with_reducible refine at_append ?_); first | (refine wpList_append_H rfl rfl H c (⟨some ⟨bl, 0, none⟩, 1, [(⟨-1, 0⟩ : Slot)]⟩ : Sl Slot) rfl rfl (by repeat (first | exact Take.head | apply Take.tail)) (H.rd (s := (⟨some ⟨bl, 0, none⟩, 1, [(⟨-1, 0⟩ : Slot)]⟩ : Sl Slot)) (by repeat (first | exact Take.head | apply Take.tail)) slot_len) (by rw [HL.out]; show k + 1 ≤ _; omega) (by decide) ?_; clear H; intro d w HY H))
        | (go_at_call 141; refine (specNoSlot_c _).mono ?_; rintro e w ⟨rfl, hb⟩; replace H := H.still hb; clear hb))
      go_roundw
      case rel => exact ⟨k + 1, d, by omega, by go_num, rfl, Lib.hid (by rw [HY.out, HX.out, List.replicate_succ']), H.pick (.cons (by repeat (first | exact Take.head | apply Take.tail)) .nil)⟩
      case measure => simp [intOf]; omega
    · have hke : k = 4 := by omega
      subst hke
      go_wp2
      go_ret
      exact ⟨c, rfl, HX.out, H⟩
end Go.Proofs.YtaafnenmdombiaaGreat

/- Contracts of GuestNew, of the program and of the reference. No condition but that the argument lies in memory. -/
namespace Go.Proofs.YtaafnenmdombiaaGreat
open Go.RowKit
def guestNewM (p : List Ins) : MG := ⟨p, 0, 0, [⟨-1, 0⟩, ⟨-1, 0⟩, ⟨-1, 0⟩, ⟨-1, 0⟩], [⟨-1, 0⟩, ⟨-1, 0⟩, ⟨-1, 0⟩, ⟨-1, 0⟩], ⟨0, 0, false⟩, 0, ⟨0, 0, false, 0⟩, false, []⟩
theorem Hp.nil_int {w0 w : World} {L : List En} (H : Hp w0 w L) : Hp w0 w (.int (Sl.nil Int) :: L) :=
  H.add (Below.refl _ _) (Own.none_ _) (by simp [En.sl, Sl.nil, Sl.blk]) (by simp [En.sl, Sl.nil, Sl.blk])
@[go_sem] theorem run_build_guest (A1 A2 A3 : Option Addr) (n1 n2 n3 c1 c2 c3 : Nat) (w : World) : (Instr.build 53 #[(0, .slice A1 n1 c1), (3, .slice A2 n2 c2), (4, .slice A3 n3 c3)]).run Tryz.prog w = .ok (.agg #[.slice A1 n1 c1, .int .i64 0, .int .i64 0, .slice A2 n2 c2, .slice A3 n3 c3, .int .i64 0, .int .i64 0, .bool false, .int .i64 0, .int .i64 0, .int .i64 0, .bool false, .int .i64 0, .bool false, .slice none 0 0]) w := by kernel_rfl
set_option linter.unusedSimpArgs false in
set_option linter.unusedVariables false in
set_option maxRecDepth 100000 in
set_option maxHeartbeats 4000000 in
theorem guestNew_c (p : Sl Ins) (W0 : World) (R : Rd Ins.cells 2 W0 p) (Z : p.xs.length ≤ 4194304) : Calls Tryz.prog 146 #[.slice p.A p.xs.length p.c] W0 fun e w' => ∃ d : GV, e = .returned d.val ∧ d.m = guestNewM p.xs ∧ Hp W0 w' [.gst d] := by
  have H := Hp.start W0
  have H := Hp.start W0
  go_enter Tryz.func146, Tryz.ntmps146
  go_wp2_with (first
    | go_skip
    | ((with_reducible refine at_box ?_); first | (refine wpList_box_H rfl rfl H rfl (by first | exact CellsOf.agg | exact CellsOf.int | exact CellsOf.bool | exact CellsOf.slice | exact CellsOf.string | exact CellsOf.pointer | exact CellsOf.func) ?_; clear H; intro bB w H))
    | ((with_reducible refine at_alloc ?_); first | (refine wpList_alloc_H rfl rfl H ?_; clear H; intro bG w H))
    | ((with_reducible refine at_load ?_); first | (refine wpList_load_H rfl rfl H rfl (by repeat (first | exact LoadAt.here rfl | apply LoadAt.there)) ?_) | (refine wpList_loads_H rfl rfl H rfl (by repeat (first | (apply LoadsAt.here; repeat (first | exact GetsAt.nil | apply GetsAt.here | apply GetsAt.there)) | apply LoadsAt.there)) ?_))
    | ((with_reducible refine at_store ?_); first | (refine wpList_store_H rfl rfl H rfl rfl (by repeat (first | (apply StoreAt.here; (first | exact CellsOf.agg | exact CellsOf.int | exact CellsOf.bool | exact CellsOf.slice | exact CellsOf.string | exact CellsOf.pointer | exact CellsOf.func); (repeat (first | exact SetsAt.nil | apply SetsAt.here | apply SetsAt.there)); exact rfl; exact rfl) | apply StoreAt.there)) ?_; clear H; intro w H))
    | (go_at_call 198; refine (copyProg_any p _ (R.at_ H) Z).mono ?_; rintro e w ⟨q, rfl, hq, ho, hb⟩; have HQ := Lib.hid hq; clear hq; replace H := H.add_sl ho hb; clear ho hb))
  go_at_call 199
  refine (tableNew_c _).mono ?_
  rintro e w ⟨wr, rfl, HX, K⟩
  have Hwr := Lib.hid HX; clear HX
  replace H := H.add_all K; clear K
  go_wp2_with (first
    | go_skip
    | ((with_reducible refine at_box ?_); first | (refine wpList_box_H rfl rfl H rfl (by first | exact CellsOf.agg | exact CellsOf.int | exact CellsOf.bool | exact CellsOf.slice | exact CellsOf.string | exact CellsOf.pointer | exact CellsOf.func) ?_; clear H; intro bB w H))
    | ((with_reducible refine at_alloc ?_); first | (refine wpList_alloc_H rfl rfl H ?_; clear H; intro bG w H))
    | ((with_reducible refine at_load ?_); first | (refine wpList_load_H rfl rfl H rfl (by repeat (first | exact LoadAt.here rfl | apply LoadAt.there)) ?_) | (refine wpList_loads_H rfl rfl H rfl (by repeat (first | (apply LoadsAt.here; repeat (first | exact GetsAt.nil | apply GetsAt.here | apply GetsAt.there)) | apply LoadsAt.there)) ?_))
    | ((with_reducible refine at_store ?_); first | (refine wpList_store_H rfl rfl H rfl rfl (by repeat (first | (apply StoreAt.here; (first | exact CellsOf.agg | exact CellsOf.int | exact CellsOf.bool | exact CellsOf.slice | exact CellsOf.string | exact CellsOf.pointer | exact CellsOf.func); (repeat (first | exact SetsAt.nil | apply SetsAt.here | apply SetsAt.there)); exact rfl; exact rfl) | apply StoreAt.there)) ?_; clear H; intro w H)))
  go_at_call 199
  refine (tableNew_c _).mono ?_
  rintro e w ⟨lv, rfl, HX, K⟩
  have Hlv := Lib.hid HX; clear HX
  replace H := H.add_all K; clear K
  go_wp2_with (first
    | go_skip
    | ((with_reducible refine at_box ?_); first | (refine wpList_box_H rfl rfl H rfl (by first | exact CellsOf.agg | exact CellsOf.int | exact CellsOf.bool | exact CellsOf.slice | exact CellsOf.string | exact CellsOf.pointer | exact CellsOf.func) ?_; clear H; intro bB w H))
    | ((with_reducible refine at_alloc ?_); first | (refine wpList_alloc_H rfl rfl H ?_; clear H; intro bG w H))
    | ((with_reducible refine at_load ?_); first | (refine wpList_load_H rfl rfl H rfl (by repeat (first | exact LoadAt.here rfl | apply LoadAt.there)) ?_) | (refine wpList_loads_H rfl rfl H rfl (by repeat (first | (apply LoadsAt.here; repeat (first | exact GetsAt.nil | apply GetsAt.here | apply GetsAt.there)) | apply LoadsAt.there)) ?_))
    | ((with_reducible refine at_store ?_); first | (refine wpList_store_H rfl rfl H rfl rfl (by repeat (first | (apply StoreAt.here; (first | exact CellsOf.agg | exact CellsOf.int | exact CellsOf.bool | exact CellsOf.slice | exact CellsOf.string | exact CellsOf.pointer | exact CellsOf.func); (repeat (first | exact SetsAt.nil | apply SetsAt.here | apply SetsAt.there)); exact rfl; exact rfl) | apply StoreAt.there)) ?_; clear H; intro w H)))
  replace H := H.nil_int
  refine bodyPost_ret (results_H rfl H rfl (by repeat (first | (apply LoadsAt.here; repeat (first | exact GetsAt.nil | apply GetsAt.here | apply GetsAt.there)) | apply LoadsAt.there))) rfl ⟨⟨q, 0, 0, wr, lv, ⟨0, 0, false⟩, 0, ⟨0, 0, false, 0⟩, false, Sl.nil Int⟩, rfl, ?_, (H.pick (M := [.ins q, .slot wr, .slot lv, .int (Sl.nil Int)]) (.cons (by repeat (first | exact Take.head | apply Take.tail)) (.cons (by repeat (first | exact Take.head | apply Take.tail)) (.cons (by repeat (first | exact Take.head | apply Take.tail)) (.cons (by repeat (first | exact Take.head | apply Take.tail)) .nil))))).guest 0 0 _ 0 _ false⟩
  show MG.mk q.xs 0 0 wr.xs lv.xs _ 0 _ false [] = _
  rw [HQ.out, Hwr.out, Hlv.out]; rfl
set_option linter.unusedSimpArgs false in
set_option linter.unusedVariables false in
set_option maxRecDepth 100000 in
set_option maxHeartbeats 4000000 in
theorem specGuestNew_c (p : Sl Ins) (W0 : World) (R : Rd Ins.cells 2 W0 p) (Z : p.xs.length ≤ 4194304) : Calls Tryz.prog 111 #[.slice p.A p.xs.length p.c] W0 fun e w' => ∃ d : GV, e = .returned d.val ∧ d.m = guestNewM p.xs ∧ Hp W0 w' [.gst d] := by
  have H := Hp.start W0
  have H := Hp.start W0
  go_enter Tryz.func111, Tryz.ntmps111
  go_wp2_with (first
    | go_skip
    | ((with_reducible refine at_box ?_); first | (refine wpList_box_H rfl rfl H rfl (by first | exact CellsOf.agg | exact CellsOf.int | exact CellsOf.bool | exact CellsOf.slice | exact CellsOf.string | exact CellsOf.pointer | exact CellsOf.func) ?_; clear H; intro bB w H))
    | ((with_reducible refine at_alloc ?_); first | (refine wpList_alloc_H rfl rfl H ?_; clear H; intro bG w H))
    | ((with_reducible refine at_load ?_); first | (refine wpList_load_H rfl rfl H rfl (by repeat (first | exact LoadAt.here rfl | apply LoadAt.there)) ?_) | (refine wpList_loads_H rfl rfl H rfl (by repeat (first | (apply LoadsAt.here; repeat (first | exact GetsAt.nil | apply GetsAt.here | apply GetsAt.there)) | apply LoadsAt.there)) ?_))
    | ((with_reducible refine at_store ?_); first | (refine wpList_store_H rfl rfl H rfl rfl (by repeat (first | (apply StoreAt.here; (first | exact CellsOf.agg | exact CellsOf.int | exact CellsOf.bool | exact CellsOf.slice | exact CellsOf.string | exact CellsOf.pointer | exact CellsOf.func); (repeat (first | exact SetsAt.nil | apply SetsAt.here | apply SetsAt.there)); exact rfl; exact rfl) | apply StoreAt.there)) ?_; clear H; intro w H))
    | ((with_reducible refine at_slice ?_); first | (refine wpList_nil_H rfl rfl H ?_; clear H; intro bn w H))
    | ((with_reducible refine at_append ?_); first | (refine wpList_append_H rfl rfl H (⟨some ⟨bn, 0, none⟩, 0, []⟩ : Sl Ins) p rfl rfl (by repeat (first | exact Take.head | apply Take.tail)) (R.at_ H) (by simp only [List.length_nil]; omega) (by decide) ?_; clear H; intro q w HQ H; replace HQ := nil_app HQ)))
  go_at_call 181
  refine (specTableNew_c _).mono ?_
  rintro e w ⟨wr, rfl, HX, K⟩
  have Hwr := Lib.hid HX; clear HX
  replace H := H.add_all K; clear K
  go_wp2_with (first
    | go_skip
    | ((with_reducible refine at_box ?_); first | (refine wpList_box_H rfl rfl H rfl (by first | exact CellsOf.agg | exact CellsOf.int | exact CellsOf.bool | exact CellsOf.slice | exact CellsOf.string | exact CellsOf.pointer | exact CellsOf.func) ?_; clear H; intro bB w H))
    | ((with_reducible refine at_alloc ?_); first | (refine wpList_alloc_H rfl rfl H ?_; clear H; intro bG w H))
    | ((with_reducible refine at_load ?_); first | (refine wpList_load_H rfl rfl H rfl (by repeat (first | exact LoadAt.here rfl | apply LoadAt.there)) ?_) | (refine wpList_loads_H rfl rfl H rfl (by repeat (first | (apply LoadsAt.here; repeat (first | exact GetsAt.nil | apply GetsAt.here | apply GetsAt.there)) | apply LoadsAt.there)) ?_))
    | ((with_reducible refine at_store ?_); first | (refine wpList_store_H rfl rfl H rfl rfl (by repeat (first | (apply StoreAt.here; (first | exact CellsOf.agg | exact CellsOf.int | exact CellsOf.bool | exact CellsOf.slice | exact CellsOf.string | exact CellsOf.pointer | exact CellsOf.func); (repeat (first | exact SetsAt.nil | apply SetsAt.here | apply SetsAt.there)); exact rfl; exact rfl) | apply StoreAt.there)) ?_; clear H; intro w H)))
  go_at_call 181
  refine (specTableNew_c _).mono ?_
  rintro e w ⟨lv, rfl, HX, K⟩
  have Hlv := Lib.hid HX; clear HX
  replace H := H.add_all K; clear K
  go_wp2_with (first
    | go_skip
    | ((with_reducible refine at_box ?_); first | (refine wpList_box_H rfl rfl H rfl (by first | exact CellsOf.agg | exact CellsOf.int | exact CellsOf.bool | exact CellsOf.slice | exact CellsOf.string | exact CellsOf.pointer | exact CellsOf.func) ?_; clear H; intro bB w H))
    | ((with_reducible refine at_alloc ?_); first | (refine wpList_alloc_H rfl rfl H ?_; clear H; intro bG w H))
    | ((with_reducible refine at_load ?_); first | (refine wpList_load_H rfl rfl H rfl (by repeat (first | exact LoadAt.here rfl | apply LoadAt.there)) ?_) | (refine wpList_loads_H rfl rfl H rfl (by repeat (first | (apply LoadsAt.here; repeat (first | exact GetsAt.nil | apply GetsAt.here | apply GetsAt.there)) | apply LoadsAt.there)) ?_))
    | ((with_reducible refine at_store ?_); first | (refine wpList_store_H rfl rfl H rfl rfl (by repeat (first | (apply StoreAt.here; (first | exact CellsOf.agg | exact CellsOf.int | exact CellsOf.bool | exact CellsOf.slice | exact CellsOf.string | exact CellsOf.pointer | exact CellsOf.func); (repeat (first | exact SetsAt.nil | apply SetsAt.here | apply SetsAt.there)); exact rfl; exact rfl) | apply StoreAt.there)) ?_; clear H; intro w H)))
  replace H := H.nil_int
  refine bodyPost_ret (results_H rfl H rfl (by repeat (first | (apply LoadsAt.here; repeat (first | exact GetsAt.nil | apply GetsAt.here | apply GetsAt.there)) | apply LoadsAt.there))) rfl ⟨⟨q, 0, 0, wr, lv, ⟨0, 0, false⟩, 0, ⟨0, 0, false, 0⟩, false, Sl.nil Int⟩, rfl, ?_, (H.pick (M := [.ins q, .slot wr, .slot lv, .int (Sl.nil Int)]) (.cons (by repeat (first | exact Take.head | apply Take.tail)) (.cons (by repeat (first | exact Take.head | apply Take.tail)) (.cons (by repeat (first | exact Take.head | apply Take.tail)) (.cons (by repeat (first | exact Take.head | apply Take.tail)) .nil))))).guest 0 0 _ 0 _ false⟩
  show MG.mk q.xs 0 0 wr.xs lv.xs _ 0 _ false [] = _
  rw [HQ.out, Hwr.out, Hlv.out]; rfl
end Go.Proofs.YtaafnenmdombiaaGreat

/- Contracts of MemNew(8), of the program and of the reference. No condition. -/
namespace Go.Proofs.YtaafnenmdombiaaGreat
open Go.RowKit
set_option linter.unusedSimpArgs false in
set_option linter.unusedVariables false in
set_option maxRecDepth 100000 in
set_option maxHeartbeats 4000000 in
theorem brought8_c (w : World) : Calls Tryz.prog 197 #[.int .i64 8, .int .i64 0, .int .i64 24] w fun e w' => e = .returned (.int .i64 8) ∧ Hp w w' [] := by
  have H := Hp.start w
  go_enter Tryz.func197, Tryz.ntmps197
  go_wp2
  go_ret
  exact ⟨rfl, H⟩
set_option linter.unusedSimpArgs false in
set_option linter.unusedVariables false in
set_option maxRecDepth 100000 in
set_option maxHeartbeats 4000000 in
theorem specBrought8_c (w : World) : Calls Tryz.prog 180 #[.int .i64 8, .int .i64 0, .int .i64 24] w fun e w' => e = .returned (.int .i64 8) ∧ Hp w w' [] := by
  have H := Hp.start w
  go_enter Tryz.func180, Tryz.ntmps180
  go_wp2
  go_ret
  exact ⟨rfl, H⟩
set_option linter.unusedSimpArgs false in
set_option linter.unusedVariables false in
set_option maxRecDepth 100000 in
set_option maxHeartbeats 4000000 in
theorem memNew_c (W0 : World) : Calls Tryz.prog 145 #[.int .i64 8] W0 fun e w' => ∃ d : Sl (Sl Int), e = .returned (.slice d.A d.xs.length d.c) ∧ d.xs.map (fun x => x.xs) = List.replicate 8 [0, 0, 0, 0] ∧ Hp W0 w' [.rows d, .many En.int d.xs] := by
  have H := Hp.start W0
  have H := Hp.start W0
  go_enter Tryz.func145, Tryz.ntmps145
  go_wp2_with (first
    | go_skip
    | ((with_reducible refine at_box ?_); first | (refine wpList_box_H rfl rfl H rfl (by first | exact CellsOf.agg | exact CellsOf.int | exact CellsOf.bool | exact CellsOf.slice | exact CellsOf.string | exact CellsOf.pointer | exact CellsOf.func) ?_; clear H; intro b w H))
    | ((with_reducible refine at_alloc ?_); first | (refine wpList_alloc_H rfl rfl H ?_; clear H; intro b w H))
    | ((with_reducible refine at_load ?_); first | (refine wpList_load_H rfl rfl H rfl (by repeat (first | exact LoadAt.here rfl | apply LoadAt.there)) ?_) | (refine wpList_loads_H rfl rfl H rfl (by repeat (first | (apply LoadsAt.here; repeat (first | exact GetsAt.nil | apply GetsAt.here | apply GetsAt.there)) | apply LoadsAt.there)) ?_))
    | ((with_reducible refine at_store ?_); first | (refine wpList_store_H rfl rfl H rfl rfl (by repeat (first | (apply StoreAt.here; (first | exact CellsOf.agg | exact CellsOf.int | exact CellsOf.bool | exact CellsOf.slice | exact CellsOf.string | exact CellsOf.pointer | exact CellsOf.func); (repeat (first | exact SetsAt.nil | apply SetsAt.here | apply SetsAt.there)); exact rfl; exact rfl) | apply StoreAt.there)) ?_; clear H; intro w H))
    | ((with_reducible refine at_slice ?_); first | (refine wpList_nil_H rfl rfl H ?_; clear H; intro bn w H))
    | (go_at_call 197; refine (brought8_c _).mono ?_; rintro e w ⟨rfl, K⟩; replace H := H.add_all K; clear K))
  replace H := H.many_nil En.int
  go_loopw [3, 4] (fun ov i wr => ∃ (k : Nat) (d : Sl (Sl Int)), k ≤ 8 ∧ i = .int .i64 (k : Int) ∧ ov = .slice d.A d.xs.length d.c ∧ Hid (d.xs.length = k) ∧ Hid (d.xs.map (fun x => x.xs) = List.replicate k [0, 0, 0, 0]) ∧ Hp W0 wr [.rows d, .many En.int d.xs]) (fun _ i _ => 8 - (intOf i).toNat)
  case atStart => exact ⟨0, ⟨some ⟨bn, 0, none⟩, 0, []⟩, by omega, rfl, rfl, Lib.hid rfl, Lib.hid rfl, H.perm (List.Perm.swap _ _ _)⟩
  case round =>
    clear H
    obtain ⟨k, d, hk0, rfl, rfl, HL, HD, H⟩ := hrel
    by_cases hk : k < 8
    · have hpos : (0 : Int) < 8 - k := by omega
      go_wp2_with (first
        | go_skip
        | ((with_reducible refine at_box ?_); first | (refine wpList_box_H rfl rfl H rfl (by first | exact CellsOf.agg | exact CellsOf.int | exact CellsOf.bool | exact CellsOf.slice | exact CellsOf.string | exact CellsOf.pointer | exact CellsOf.func) ?_; clear H; intro b w H))
        | ((with_reducible refine at_alloc ?_); first | (refine wpList_alloc_H rfl rfl H ?_; clear H; intro b w H))
        | ((with_reducible refine at_load ?_); first | (refine wpList_load_H rfl rfl H rfl (by repeat (first | exact LoadAt.here rfl | apply LoadAt.there)) ?_) | (refine wpList_loads_H rfl rfl H rfl (by repeat (first | (apply LoadsAt.here; repeat (first | exact GetsAt.nil | apply GetsAt.here | apply GetsAt.there)) | apply LoadsAt.there)) ?_))
        | ((with_reducible refine at_store ?_); first | (refine wpList_store_H rfl rfl H rfl rfl (by repeat (first | (apply StoreAt.here; (first | exact CellsOf.agg | exact CellsOf.int | exact CellsOf.bool | exact CellsOf.slice | exact CellsOf.string | exact CellsOf.pointer | exact CellsOf.func); (repeat (first | exact SetsAt.nil | apply SetsAt.here | apply SetsAt.there)); exact rfl; exact rfl) | apply StoreAt.there)) ?_; clear H; intro w H))
        | ((with_reducible refine at_slice ?_); first | (refine wpList_one_H rfl rfl H (⟨some ⟨bm, 0, none⟩, 4, List.replicate 4 0⟩ : Sl Int) rfl (by first | exact CellsOf.agg | exact CellsOf.slice) rfl (by decide) ?_; clear H; intro bl w H))
        | ((with_reducible refine at_mkslice ?_); first | (refine wpList_make_H (n := 4) rfl rfl H (0 : Int) rfl rfl rfl (by decide) (by decide) ?_; clear H; intro bm w H))
        | ((with_reducible refine at_append ?_); first | (refine wpList_append_H rfl rfl H d (⟨some ⟨bl, 0, none⟩, 1, [(⟨some ⟨bm, 0, none⟩, 4, List.replicate 4 0⟩ : Sl Int)]⟩ : Sl (Sl Int)) rfl rfl (by repeat (first | exact Take.head | apply Take.tail)) (H.rd (s := (⟨some ⟨bl, 0, none⟩, 1, [(⟨some ⟨bm, 0, none⟩, 4, List.replicate 4 0⟩ : Sl Int)]⟩ : Sl (Sl Int))) (by repeat (first | exact Take.head | apply Take.tail)) h_len) (by have := HL.out; simp only [List.length_cons, List.length_nil]; omega) (by decide) ?_; clear H; intro d' w hx' H))
        | (go_at_call 197; refine (brought8_c _).mono ?_; rintro e w ⟨rfl, K⟩; replace H := H.add_all K; clear K))
      go_roundw
      case rel =>
        refine ⟨k + 1, d', by omega, by go_num, rfl, Lib.hid (by rw [hx'.out]; simp [HL.out]), Lib.hid ((by rw [hx'.out, List.map_append, HD.out]; rfl : d'.xs.map (fun x => x.xs) = List.replicate k [0, 0, 0, 0] ++ [[0, 0, 0, 0]]).trans List.replicate_succ'.symm), ?_⟩
        rw [hx'.out]
        exact (H.pick (M := [.int (⟨some ⟨bm, 0, none⟩, 4, List.replicate 4 0⟩ : Sl Int), .many En.int d.xs, .rows d']) (.cons (by repeat (first | exact Take.head | apply Take.tail)) (.cons (by repeat (first | exact Take.head | apply Take.tail)) (.cons (by repeat (first | exact Take.head | apply Take.tail)) .nil)))).many_snoc.perm (List.Perm.swap _ _ _)
      case measure => simp [intOf]; omega
    · have hke : k = 8 := by omega
      subst hke
      go_wp2_with (first
        | go_skip
        | ((with_reducible refine at_box ?_); first | (refine wpList_box_H rfl rfl H rfl (by first | exact CellsOf.agg | exact CellsOf.int | exact CellsOf.bool | exact CellsOf.slice | exact CellsOf.string | exact CellsOf.pointer | exact CellsOf.func) ?_; clear H; intro b w H))
        | ((with_reducible refine at_alloc ?_); first | (refine wpList_alloc_H rfl rfl H ?_; clear H; intro b w H))
        | ((with_reducible refine at_load ?_); first | (refine wpList_load_H rfl rfl H rfl (by repeat (first | exact LoadAt.here rfl | apply LoadAt.there)) ?_) | (refine wpList_loads_H rfl rfl H rfl (by repeat (first | (apply LoadsAt.here; repeat (first | exact GetsAt.nil | apply GetsAt.here | apply GetsAt.there)) | apply LoadsAt.there)) ?_))
        | ((with_reducible refine at_store ?_); first | (refine wpList_store_H rfl rfl H rfl rfl (by repeat (first | (apply StoreAt.here; (first | exact CellsOf.agg | exact CellsOf.int | exact CellsOf.bool | exact CellsOf.slice | exact CellsOf.string | exact CellsOf.pointer | exact CellsOf.func); (repeat (first | exact SetsAt.nil | apply SetsAt.here | apply SetsAt.there)); exact rfl; exact rfl) | apply StoreAt.there)) ?_; clear H; intro w H))
        | (go_at_call 197; refine (brought8_c _).mono ?_; rintro e w ⟨rfl, K⟩; replace H := H.add_all K; clear K))
      go_ret
      exact ⟨d, rfl, HD.out, H.pick (.cons (by repeat (first | exact Take.head | apply Take.tail)) (.cons (by repeat (first | exact Take.head | apply Take.tail)) .nil))⟩
set_option linter.unusedSimpArgs false in
set_option linter.unusedVariables false in
set_option maxRecDepth 100000 in
set_option maxHeartbeats 4000000 in
theorem specMemNew_c (W0 : World) : Calls Tryz.prog 110 #[.int .i64 8] W0 fun e w' => ∃ d : Sl (Sl Int), e = .returned (.slice d.A d.xs.length d.c) ∧ d.xs.map (fun x => x.xs) = List.replicate 8 [0, 0, 0, 0] ∧ Hp W0 w' [.rows d, .many En.int d.xs] := by
  have H := Hp.start W0
  have H := Hp.start W0
  go_enter Tryz.func110, Tryz.ntmps110
  go_wp2_with (first
    | go_skip
    | ((with_reducible refine at_box ?_); first | (refine wpList_box_H rfl rfl H rfl (by first | exact CellsOf.agg | exact CellsOf.int | exact CellsOf.bool | exact CellsOf.slice | exact CellsOf.string | exact CellsOf.pointer | exact CellsOf.func) ?_; clear H; intro b w H))
    | ((with_reducible refine at_alloc ?_); first | (refine wpList_alloc_H rfl rfl H ?_; clear H; intro b w H))
    | ((with_reducible refine at_load ?_); first | (refine wpList_load_H rfl rfl H rfl (by repeat (first | exact LoadAt.here rfl | apply LoadAt.there)) ?_) | (refine wpList_loads_H rfl rfl H rfl (by repeat (first | (apply LoadsAt.here; repeat (first | exact GetsAt.nil | apply GetsAt.here | apply GetsAt.there)) | apply LoadsAt.there)) ?_))
    | ((with_reducible refine at_store ?_); first | (refine wpList_store_H rfl rfl H rfl rfl (by repeat (first | (apply StoreAt.here; (first | exact CellsOf.agg | exact CellsOf.int | exact CellsOf.bool | exact CellsOf.slice | exact CellsOf.string | exact CellsOf.pointer | exact CellsOf.func); (repeat (first | exact SetsAt.nil | apply SetsAt.here | apply SetsAt.there)); exact rfl; exact rfl) | apply StoreAt.there)) ?_; clear H; intro w H))
    | ((with_reducible refine at_slice ?_); first | (refine wpList_nil_H rfl rfl H ?_; clear H; intro bn w H))
    | (go_at_call 180; refine (specBrought8_c _).mono ?_; rintro e w ⟨rfl, K⟩; replace H := H.add_all K; clear K))
  replace H := H.many_nil En.int
  go_loopw [3, 4] (fun ov i wr => ∃ (k : Nat) (d : Sl (Sl Int)), k ≤ 8 ∧ i = .int .i64 (8 - k : Int) ∧ ov = .slice d.A d.xs.length d.c ∧ Hid (d.xs.length = k) ∧ Hid (d.xs.map (fun x => x.xs) = List.replicate k [0, 0, 0, 0]) ∧ Hp W0 wr [.rows d, .many En.int d.xs]) (fun _ i _ => (intOf i).toNat)
  case atStart => exact ⟨0, ⟨some ⟨bn, 0, none⟩, 0, []⟩, by omega, rfl, rfl, Lib.hid rfl, Lib.hid rfl, H.perm (List.Perm.swap _ _ _)⟩
  case round =>
    clear H
    obtain ⟨k, d, hk0, rfl, rfl, HL, HD, H⟩ := hrel
    by_cases hk : k < 8
    · have hpos : (0 : Int) < 8 - k := by omega
      go_wp2_with (first
        | go_skip
        | ((with_reducible refine at_box ?_); first | (refine wpList_box_H rfl rfl H rfl (by first | exact CellsOf.agg | exact CellsOf.int | exact CellsOf.bool | exact CellsOf.slice | exact CellsOf.string | exact CellsOf.pointer | exact CellsOf.func) ?_; clear H; intro b w H))
        | ((with_reducible refine at_alloc ?_); first | (refine wpList_alloc_H rfl rfl H ?_; clear H; intro b w H))
        | ((with_reducible refine at_load ?_); first | (refine wpList_load_H rfl rfl H rfl (by repeat (first | exact LoadAt.here rfl | apply LoadAt.there)) ?_) | (refine wpList_loads_H rfl rfl H rfl (by repeat (first | (apply LoadsAt.here; repeat (first | exact GetsAt.nil | apply GetsAt.here | apply GetsAt.there)) | apply LoadsAt.there)) ?_))
        | ((with_reducible refine at_store ?_); first | (refine wpList_store_H rfl rfl H rfl rfl (by repeat (first | (apply StoreAt.here; (first | exact CellsOf.agg | exact CellsOf.int | exact CellsOf.bool | exact CellsOf.slice | exact CellsOf.string | exact CellsOf.pointer | exact CellsOf.func); (repeat (first | exact SetsAt.nil | apply SetsAt.here | apply SetsAt.there)); exact rfl; exact rfl) | apply StoreAt.there)) ?_; clear H; intro w H))
        | ((with_reducible refine at_slice ?_); first | (refine wpList_one_H rfl rfl H (⟨some ⟨bm, 0, none⟩, 4, List.replicate 4 0⟩ : Sl Int) rfl (by first | exact CellsOf.agg | exact CellsOf.slice) rfl (by decide) ?_; clear H; intro bl w H))
        | ((with_reducible refine at_mkslice ?_); first | (refine wpList_make_H (n := 4) rfl rfl H (0 : Int) rfl rfl rfl (by decide) (by decide) ?_; clear H; intro bm w H))
        | ((with_reducible refine at_append ?_); first | (refine wpList_append_H rfl rfl H d (⟨some ⟨bl, 0, none⟩, 1, [(⟨some ⟨bm, 0, none⟩, 4, List.replicate 4 0⟩ : Sl Int)]⟩ : Sl (Sl Int)) rfl rfl (by repeat (first | exact Take.head | apply Take.tail)) (H.rd (s := (⟨some ⟨bl, 0, none⟩, 1, [(⟨some ⟨bm, 0, none⟩, 4, List.replicate 4 0⟩ : Sl Int)]⟩ : Sl (Sl Int))) (by repeat (first | exact Take.head | apply Take.tail)) h_len) (by have := HL.out; simp only [List.length_cons, List.length_nil]; omega) (by decide) ?_; clear H; intro d' w hx' H))
        | (go_at_call 180; refine (specBrought8_c _).mono ?_; rintro e w ⟨rfl, K⟩; replace H := H.add_all K; clear K))
      go_roundw
      case rel =>
        refine ⟨k + 1, d', by omega, by go_num, rfl, Lib.hid (by rw [hx'.out]; simp [HL.out]), Lib.hid ((by rw [hx'.out, List.map_append, HD.out]; rfl : d'.xs.map (fun x => x.xs) = List.replicate k [0, 0, 0, 0] ++ [[0, 0, 0, 0]]).trans List.replicate_succ'.symm), ?_⟩
        rw [hx'.out]
        exact (H.pick (M := [.int (⟨some ⟨bm, 0, none⟩, 4, List.replicate 4 0⟩ : Sl Int), .many En.int d.xs, .rows d']) (.cons (by repeat (first | exact Take.head | apply Take.tail)) (.cons (by repeat (first | exact Take.head | apply Take.tail)) (.cons (by repeat (first | exact Take.head | apply Take.tail)) .nil)))).many_snoc.perm (List.Perm.swap _ _ _)
      case measure => simp [intOf]; omega
    · have hke : k = 8 := by omega
      subst hke
      go_wp2_with (first
        | go_skip
        | ((with_reducible refine at_box ?_); first | (refine wpList_box_H rfl rfl H rfl (by first | exact CellsOf.agg | exact CellsOf.int | exact CellsOf.bool | exact CellsOf.slice | exact CellsOf.string | exact CellsOf.pointer | exact CellsOf.func) ?_; clear H; intro b w H))
        | ((with_reducible refine at_alloc ?_); first | (refine wpList_alloc_H rfl rfl H ?_; clear H; intro b w H))
        | ((with_reducible refine at_load ?_); first | (refine wpList_load_H rfl rfl H rfl (by repeat (first | exact LoadAt.here rfl | apply LoadAt.there)) ?_) | (refine wpList_loads_H rfl rfl H rfl (by repeat (first | (apply LoadsAt.here; repeat (first | exact GetsAt.nil | apply GetsAt.here | apply GetsAt.there)) | apply LoadsAt.there)) ?_))
        | ((with_reducible refine at_store ?_); first | (refine wpList_store_H rfl rfl H rfl rfl (by repeat (first | (apply StoreAt.here; (first | exact CellsOf.agg | exact CellsOf.int | exact CellsOf.bool | exact CellsOf.slice | exact CellsOf.string | exact CellsOf.pointer | exact CellsOf.func); (repeat (first | exact SetsAt.nil | apply SetsAt.here | apply SetsAt.there)); exact rfl; exact rfl) | apply StoreAt.there)) ?_; clear H; intro w H))
        | (go_at_call 180; refine (specBrought8_c _).mono ?_; rintro e w ⟨rfl, K⟩; replace H := H.add_all K; clear K))
      go_ret
      exact ⟨d, rfl, HD.out, H.pick (.cons (by repeat (first | exact Take.head | apply Take.tail)) (.cons (by repeat (first | exact Take.head | apply Take.tail)) .nil))⟩
end Go.Proofs.YtaafnenmdombiaaGreat
