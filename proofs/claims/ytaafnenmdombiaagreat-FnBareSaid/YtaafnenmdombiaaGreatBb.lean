/- Contracts of the law's own helpers on guests: mark and held. -/
import Derived.Test.YtaafnenmdombiaaGreatLGe
import Derived.Test.YtaafnenmdombiaaGreatGWant
import Derived.Deep.RegionHeld3
import Derived.Deep.DrawnRows
import Derived.WalkSpells
import Derived.Test.YtaafnenmdombiaaGreatMk
import Derived.Test.YtaafnenmdombiaaGreatMl
import Derived.Test.YtaafnenmdombiaaGreatDr
import Derived.Test.YtaafnenmdombiaaGreatOk
namespace Go.Proofs.YtaafnenmdombiaaGreat
open Go.RowKit
theorem GOwn.apart {w : World} {lo : Nat} {g : GV} (h : GOwn w lo g) : (∀ x, g.prog.blk = some x → ∀ y, g.written.blk = some y → x ≠ y) ∧ (∀ x, g.prog.blk = some x → ∀ y, g.live.blk = some y → x ≠ y) ∧ (∀ x, g.prog.blk = some x → ∀ y, g.seen.blk = some y → x ≠ y) ∧
    (∀ x, g.written.blk = some x → ∀ y, g.live.blk = some y → x ≠ y) ∧ (∀ x, g.written.blk = some x → ∀ y, g.seen.blk = some y → x ≠ y) ∧ (∀ x, g.live.blk = some x → ∀ y, g.seen.blk = some y → x ≠ y) := by
  have h := h.nd
  unfold GV.blks at h
  simp only [List.nodup_append, List.mem_append, Option.mem_toList] at h
  obtain ⟨⟨⟨_, _, h1⟩, _, h2⟩, _, h3⟩ := h
  exact ⟨fun x hx y hy => h1 x hx y hy, fun x hx y hy => h2 x (.inl hx) y hy, fun x hx y hy => h3 x (.inl (.inl hx)) y hy, fun x hx y hy => h2 x (.inr hx) y hy, fun x hx y hy => h3 x (.inl (.inr hx)) y hy, fun x hx y hy => h3 x (.inr hx) y hy⟩
end Go.Proofs.YtaafnenmdombiaaGreat

/- Laws over a guest whose functions give back a bool or an integer. -/
namespace Go.Proofs.YtaafnenmdombiaaGreat
open Go.RowKit
attribute [local go_sem ↓] Go.wp_at_zero Go.wp_at_succ
end Go.Proofs.YtaafnenmdombiaaGreat

/- The law's own helpers on guests, said over the memory that the law has made; and the walks of the exact laws whose functions hand back a guest. No condition but that the arguments lie in memory. -/
namespace Go.Proofs.YtaafnenmdombiaaGreat
open Go.RowKit
attribute [local go_sem ↓] Go.wp_at_zero Go.wp_at_succ
section
variable {w0 w : World} {L L' : List En}
theorem Hp.cells (H : Hp w0 w L) {b : Nat} {e : TypeId} {cs : List Value} (t : Take L (.box b e cs) L') : ∀ o, w.cell? ⟨b, o, none⟩ = cs.toArray[o]? := by
  have h : Rw w b e cs.toArray := H.get t
  exact fun o => h.c o
theorem Hp.swap {e e' : En} (H : Hp w0 w L) {w' : World} (t : Take L e L') (hT : Touch e.bl w w') (hok : e'.ok w') (hbl : e'.bl = e.bl) : Hp w0 w' (e' :: L') :=
  (H.take t).turn hT hok (fun b hb => .inl (by rw [← hbl]; exact hb)) (by
    rw [hbl]
    have nd := (H.take t).nd
    rw [List.flatMap_cons, List.nodup_append] at nd
    exact nd.1)
end
end Go.Proofs.YtaafnenmdombiaaGreat

/- The laws' own makers and sizes on slices of slices, of guests, and on bare machines. No condition but that the argument lies in memory. -/
namespace Go.Proofs.YtaafnenmdombiaaGreat
set_option linter.unusedSimpArgs false
set_option linter.unusedVariables false
open Go.RowKit
abbrev En.irows (s : Sl (Sl Ins)) : En := En.sl hcells 1 46 s
theorem map_snoc {α β : Type} {f : α → β} {ds xs : List α} {k : Nat} {d y : α} (h : ds.map f = (xs.take k).map f) (hy : xs[k]? = some y) (hd : f d = f y) : (ds ++ [d]).map f = (xs.take (k + 1)).map f := by
  rw [List.take_add_one, List.map_append, List.map_append, h, hy]; simp [hd]
end Go.Proofs.YtaafnenmdombiaaGreat

/- Contracts of the functions that compare two lists, of the program (slices.Equal, SameProg, SameTable) and of the reference. No condition but that the arguments lie in memory. -/
namespace Go.Proofs.YtaafnenmdombiaaGreat
open Go.RowKit
section
variable {P : Program} {o : Oper} {a : Act} {w0 : World} {L : List En} {C : World → Prop} {K : Act → Prop}
theorem quiet_index_nat (hC : ∀ w, C w → Hp w0 w L) {t : TypeId} {x ix : Operand} (ho : o.op = .indexAddr t x ix) {α : Type} {enc : α → List Value} {sz bytes e : Nat} [hE : EI P t enc sz bytes e] (s : Sl α) (hs : Rd enc sz w0 s) {k : Nat} (hx : a.eval x = .slice s.A s.xs.length s.c) (hi : a.eval ix = .int .i64 k)
    (h1 : k < s.xs.length) (h : K (a.put o.dst (.pointer (some ⟨ablk s.A, aoff s.A + k * sz, none⟩)))) : o.quiet P a C K := by
  refine ⟨_, fun w hw => ?_, h⟩
  obtain ⟨i, z, hi', hz, hsize, hby, hzs⟩ := hE.info.hi
  obtain ⟨hA, _⟩ := (hs.at_ (hC w hw)).addr (k := k) h1
  have hr : (Instr.indexAt t (.slice s.A s.xs.length s.c) (.int .i64 k)).run P w = .ok (.pointer (some ⟨ablk s.A, aoff s.A + k * sz, none⟩)) w := by
    rw [hA]
    simp [Instr.indexAt, asIntOf, run_underlying hE.info.ht, sizeOf, typeInfo, hi', hsize, h1, addj, ablk, aoff, go_sem]
  unfold Oper.quietAt execOp
  simp only [ho, hx, hi, Sem.run_bind, Sem.run_pure, Result.andThen_ok, hr, Oper.quietUpon]
  exact ⟨trivial, trivial⟩
theorem quiet_loads_rd (hC : ∀ w, C w → Hp w0 w L) {ty : TypeId} {x : Operand} (ho : o.op = .load ty x) {α : Type} {enc : α → List Value} {sz : Nat} (s : Sl α) (hs : Rd enc sz w0 s) {k : Nat} (hx : a.eval x = .pointer (some ⟨ablk s.A, aoff s.A + k * sz, none⟩)) {n : Nat} [hS : TyA P ty n] (y : α) (hk : s.xs[k]? = some y) {vs : List Value} (hv : GetsAt (enc y) 0 n vs)
    (h : K (a.put o.dst (.agg vs.toArray))) : o.quiet P a C K :=
  quiet_of_run ho (fun w hw => by rw [hx]; exact run_loads_rd (hs.at_ (hC w hw)) hS (j := 0) hk hv) h
theorem quiet_load_rd (hC : ∀ w, C w → Hp w0 w L) {ty : TypeId} {x : Operand} (ho : o.op = .load ty x) {α : Type} {enc : α → List Value} {sz : Nat} (s : Sl α) (hs : Rd enc sz w0 s) {k : Nat} (hx : a.eval x = .pointer (some ⟨ablk s.A, aoff s.A + k * sz, none⟩)) [hS : TyS P ty] (y : α) (hk : s.xs[k]? = some y) {v : Value} (hv : (enc y)[0]? = some v)
    (h : K (a.put o.dst v)) : o.quiet P a C K :=
  quiet_of_run ho (fun w hw => by rw [hx]; exact run_load_rd (hs.at_ (hC w hw)) hS (j := 0) hk hv) h
end
theorem beq_of_take {α : Type} [BEq α] [LawfulBEq α] {xs ys : List α} (hl : xs.length = ys.length) (h : xs.take xs.length = ys.take xs.length) : (xs == ys) = true := by
  rw [List.take_length, hl, List.take_length] at h; simp [h]
theorem beq_ne_len {α : Type} [BEq α] [LawfulBEq α] {xs ys : List α} (hl : ¬ xs.length = ys.length) : (xs == ys) = false := by
  rw [beq_eq_false_iff_ne]; intro e; exact hl (by rw [e])
set_option maxRecDepth 100000 in
set_option maxHeartbeats 2000000 in
theorem equalIns_c (s t : Sl Ins) (w : World) (R0 : Rd Ins.cells 2 w s) (R1 : Rd Ins.cells 2 w t) (Z : s.xs.length ≤ 4194304) : Calls Tryz.prog 220 #[.slice s.A s.xs.length s.c, .slice t.A t.xs.length t.c] w fun e w' => e = .returned (.bool (s.xs == t.xs)) ∧ Below w.heap.size w w' := by
  by_cases hl : s.xs.length = t.xs.length
  · have l1 : (s.xs.length == t.xs.length) = true := beq_iff_eq.2 hl
    have l2 : (s.xs.length != t.xs.length) = false := by simp [hl]
    have l3 : ((s.xs.length : Int) == (t.xs.length : Int)) = true := by simp [hl]
    have l4 : ((s.xs.length : Int) != (t.xs.length : Int)) = false := by simp [hl]
    have HL := Lib.hid hl; clear hl
    have H := Hp.start w
    go_enter Tryz.func220, Tryz.ntmps220
    go_wp2
    clear l1 l2 l3 l4
    go_loopw [13] (fun i wr => ∃ k : Nat, k ≤ s.xs.length ∧ i = .int .i64 k ∧ s.xs.take k = t.xs.take k ∧ Hp w wr []) (fun i _ => s.xs.length - (intOf i).toNat)
    case atStart => exact ⟨0, by omega, rfl, by simp, H⟩
    case round =>
      clear H
      obtain ⟨k, hk, rfl, ht, H⟩ := hrel
      have HT := Lib.hid ht; clear ht
      by_cases hk0 : k < s.xs.length
      · have hk1 : k < t.xs.length := by rw [← HL.out]; exact hk0
        obtain ⟨x, hx0⟩ : ∃ x, s.xs[k]? = some x := ⟨_, List.getElem?_eq_getElem hk0⟩
        have HY0 := Lib.hid hx0; clear hx0
        obtain ⟨y, hy0⟩ : ∃ y, t.xs[k]? = some y := ⟨_, List.getElem?_eq_getElem hk1⟩
        have HY1 := Lib.hid hy0; clear hy0
        cases e1 : (x.op == y.op) <;> cases e2 : (x.x == y.x)
        all_goals
          go_wp2
          refine wp_region_H (by kernel_rfl) (by kernel_rfl) H ?_
          intro C hC1 hC2
          repeat (first
            | go_big_quiet_skip
            | (go_big_quiet_want; (first
              | (refine quiet_index_nat hC1 rfl s R0 rfl rfl hk0 ?_; simp only [put_some, List.set_cons_succ, List.set_cons_zero]; go_big_quiet_on)
              | (refine quiet_index_nat hC1 rfl t R1 rfl rfl hk1 ?_; simp only [put_some, List.set_cons_succ, List.set_cons_zero]; go_big_quiet_on)
              | (refine quiet_loads_rd hC1 rfl s R0 rfl x HY0.out (by repeat (first | exact GetsAt.nil | apply GetsAt.here | apply GetsAt.there)) ?_; simp only [put_some, List.set_cons_succ, List.set_cons_zero]; go_big_quiet_on)
              | (refine quiet_loads_rd hC1 rfl t R1 rfl y HY1.out (by repeat (first | exact GetsAt.nil | apply GetsAt.here | apply GetsAt.there)) ?_; simp only [put_some, List.set_cons_succ, List.set_cons_zero]; go_big_quiet_on)
              | (go_big_quiet_op; (first | go_big_quiet_on | (refine ⟨_, fun _ _ => rfl, ?_⟩; go_big_quiet_on))))))
          refine wpQuiet_nil ?_
          clear hC1 hC2
          clear H
          intro w H
          go_wp2
        all_goals first
          | (go_ret; exact ⟨ret_bool (list_neIns HY0.out HY1.out (by intro h; subst h; simp at e1 e2)), H.below⟩)
          | (go_roundw
             case rel => exact ⟨k + 1, by omega, by go_num, list_eqIns HT.out HY0.out HY1.out (by obtain ⟨x1, x2⟩ := x; obtain ⟨y1, y2⟩ := y; simp at e1 e2; simp [e1, e2]), H⟩
             case measure => simp [intOf]; omega)
      · have hke : k = s.xs.length := by omega
        subst hke
        have hn0 : t.xs.length ≤ s.xs.length := by rw [HL.out]; exact Nat.le_refl _
        go_wp2
        go_ret
        exact ⟨ret_bool (beq_of_take HL.out HT.out).symm, H.below⟩
  · have l1 : (s.xs.length == t.xs.length) = false := by simp [hl]
    have l2 : (s.xs.length != t.xs.length) = true := by simp [hl]
    have l3 : ((s.xs.length : Int) == (t.xs.length : Int)) = false := by simp; omega
    have l4 : ((s.xs.length : Int) != (t.xs.length : Int)) = true := by simp; omega
    go_enter Tryz.func220, Tryz.ntmps220
    go_wp2
    go_ret
    exact ⟨ret_bool (beq_ne_len hl).symm, Below.refl _ _⟩
set_option maxRecDepth 100000 in
set_option maxHeartbeats 2000000 in
theorem equalSlots_c (s t : Sl Slot) (w : World) (R0 : Rd Slot.cells 2 w s) (R1 : Rd Slot.cells 2 w t) (Z : s.xs.length ≤ 4194304) : Calls Tryz.prog 221 #[.slice s.A s.xs.length s.c, .slice t.A t.xs.length t.c] w fun e w' => e = .returned (.bool (s.xs == t.xs)) ∧ Below w.heap.size w w' := by
  by_cases hl : s.xs.length = t.xs.length
  · have l1 : (s.xs.length == t.xs.length) = true := beq_iff_eq.2 hl
    have l2 : (s.xs.length != t.xs.length) = false := by simp [hl]
    have l3 : ((s.xs.length : Int) == (t.xs.length : Int)) = true := by simp [hl]
    have l4 : ((s.xs.length : Int) != (t.xs.length : Int)) = false := by simp [hl]
    have HL := Lib.hid hl; clear hl
    have H := Hp.start w
    go_enter Tryz.func221, Tryz.ntmps221
    go_wp2
    clear l1 l2 l3 l4
    go_loopw [13] (fun i wr => ∃ k : Nat, k ≤ s.xs.length ∧ i = .int .i64 k ∧ s.xs.take k = t.xs.take k ∧ Hp w wr []) (fun i _ => s.xs.length - (intOf i).toNat)
    case atStart => exact ⟨0, by omega, rfl, by simp, H⟩
    case round =>
      clear H
      obtain ⟨k, hk, rfl, ht, H⟩ := hrel
      have HT := Lib.hid ht; clear ht
      by_cases hk0 : k < s.xs.length
      · have hk1 : k < t.xs.length := by rw [← HL.out]; exact hk0
        obtain ⟨x, hx0⟩ : ∃ x, s.xs[k]? = some x := ⟨_, List.getElem?_eq_getElem hk0⟩
        have HY0 := Lib.hid hx0; clear hx0
        obtain ⟨y, hy0⟩ : ∃ y, t.xs[k]? = some y := ⟨_, List.getElem?_eq_getElem hk1⟩
        have HY1 := Lib.hid hy0; clear hy0
        cases e1 : (x.page == y.page) <;> cases e2 : (x.rights == y.rights)
        all_goals
          go_wp2
          refine wp_region_H (by kernel_rfl) (by kernel_rfl) H ?_
          intro C hC1 hC2
          repeat (first
            | go_big_quiet_skip
            | (go_big_quiet_want; (first
              | (refine quiet_index_nat hC1 rfl s R0 rfl rfl hk0 ?_; simp only [put_some, List.set_cons_succ, List.set_cons_zero]; go_big_quiet_on)
              | (refine quiet_index_nat hC1 rfl t R1 rfl rfl hk1 ?_; simp only [put_some, List.set_cons_succ, List.set_cons_zero]; go_big_quiet_on)
              | (refine quiet_loads_rd hC1 rfl s R0 rfl x HY0.out (by repeat (first | exact GetsAt.nil | apply GetsAt.here | apply GetsAt.there)) ?_; simp only [put_some, List.set_cons_succ, List.set_cons_zero]; go_big_quiet_on)
              | (refine quiet_loads_rd hC1 rfl t R1 rfl y HY1.out (by repeat (first | exact GetsAt.nil | apply GetsAt.here | apply GetsAt.there)) ?_; simp only [put_some, List.set_cons_succ, List.set_cons_zero]; go_big_quiet_on)
              | (go_big_quiet_op; (first | go_big_quiet_on | (refine ⟨_, fun _ _ => rfl, ?_⟩; go_big_quiet_on))))))
          refine wpQuiet_nil ?_
          clear hC1 hC2
          clear H
          intro w H
          go_wp2
        all_goals first
          | (go_ret; exact ⟨ret_bool (list_neSlot HY0.out HY1.out (by intro h; subst h; simp at e1 e2)), H.below⟩)
          | (go_roundw
             case rel => exact ⟨k + 1, by omega, by go_num, list_eqSlot HT.out HY0.out HY1.out (by obtain ⟨x1, x2⟩ := x; obtain ⟨y1, y2⟩ := y; simp at e1 e2; simp [e1, e2]), H⟩
             case measure => simp [intOf]; omega)
      · have hke : k = s.xs.length := by omega
        subst hke
        have hn0 : t.xs.length ≤ s.xs.length := by rw [HL.out]; exact Nat.le_refl _
        go_wp2
        go_ret
        exact ⟨ret_bool (beq_of_take HL.out HT.out).symm, H.below⟩
  · have l1 : (s.xs.length == t.xs.length) = false := by simp [hl]
    have l2 : (s.xs.length != t.xs.length) = true := by simp [hl]
    have l3 : ((s.xs.length : Int) == (t.xs.length : Int)) = false := by simp; omega
    have l4 : ((s.xs.length : Int) != (t.xs.length : Int)) = true := by simp; omega
    go_enter Tryz.func221, Tryz.ntmps221
    go_wp2
    go_ret
    exact ⟨ret_bool (beq_ne_len hl).symm, Below.refl _ _⟩
set_option maxRecDepth 100000 in
set_option maxHeartbeats 2000000 in
theorem equalInts_c (s t : Sl Int) (w : World) (R0 : Rd icell 1 w s) (R1 : Rd icell 1 w t) (Z : s.xs.length ≤ 4194304) : Calls Tryz.prog 154 #[.slice s.A s.xs.length s.c, .slice t.A t.xs.length t.c] w fun e w' => e = .returned (.bool (s.xs == t.xs)) ∧ Below w.heap.size w w' := by
  by_cases hl : s.xs.length = t.xs.length
  · have l1 : (s.xs.length == t.xs.length) = true := beq_iff_eq.2 hl
    have l2 : (s.xs.length != t.xs.length) = false := by simp [hl]
    have l3 : ((s.xs.length : Int) == (t.xs.length : Int)) = true := by simp [hl]
    have l4 : ((s.xs.length : Int) != (t.xs.length : Int)) = false := by simp [hl]
    have HL := Lib.hid hl; clear hl
    have H := Hp.start w
    go_enter Tryz.func154, Tryz.ntmps154
    go_wp2
    clear l1 l2 l3 l4
    go_loopw [13] (fun i wr => ∃ k : Nat, k ≤ s.xs.length ∧ i = .int .i64 k ∧ s.xs.take k = t.xs.take k ∧ Hp w wr []) (fun i _ => s.xs.length - (intOf i).toNat)
    case atStart => exact ⟨0, by omega, rfl, by simp, H⟩
    case round =>
      clear H
      obtain ⟨k, hk, rfl, ht, H⟩ := hrel
      have HT := Lib.hid ht; clear ht
      by_cases hk0 : k < s.xs.length
      · have hk1 : k < t.xs.length := by rw [← HL.out]; exact hk0
        obtain ⟨x, hx0⟩ : ∃ x, s.xs[k]? = some x := ⟨_, List.getElem?_eq_getElem hk0⟩
        have HY0 := Lib.hid hx0; clear hx0
        obtain ⟨y, hy0⟩ : ∃ y, t.xs[k]? = some y := ⟨_, List.getElem?_eq_getElem hk1⟩
        have HY1 := Lib.hid hy0; clear hy0
        cases e1 : (x == y)
        all_goals
          go_wp2
          refine wp_region_H (by kernel_rfl) (by kernel_rfl) H ?_
          intro C hC1 hC2
          repeat (first
            | go_big_quiet_skip
            | (go_big_quiet_want; (first
              | (refine quiet_index_nat hC1 rfl s R0 rfl rfl hk0 ?_; simp only [put_some, List.set_cons_succ, List.set_cons_zero]; go_big_quiet_on)
              | (refine quiet_index_nat hC1 rfl t R1 rfl rfl hk1 ?_; simp only [put_some, List.set_cons_succ, List.set_cons_zero]; go_big_quiet_on)
              | (refine quiet_load_rd hC1 rfl s R0 rfl x HY0.out rfl ?_; simp only [put_some, List.set_cons_succ, List.set_cons_zero]; go_big_quiet_on)
              | (refine quiet_load_rd hC1 rfl t R1 rfl y HY1.out rfl ?_; simp only [put_some, List.set_cons_succ, List.set_cons_zero]; go_big_quiet_on)
              | (go_big_quiet_op; (first | go_big_quiet_on | (refine ⟨_, fun _ _ => rfl, ?_⟩; go_big_quiet_on))))))
          refine wpQuiet_nil ?_
          clear hC1 hC2
          clear H
          intro w H
          go_wp2
        all_goals first
          | (go_ret; exact ⟨ret_bool (list_neInt HY0.out HY1.out (by intro h; rw [h] at e1; simp at e1)), H.below⟩)
          | (go_roundw
             case rel => exact ⟨k + 1, by omega, by go_num, list_eqInt HT.out HY0.out HY1.out (eq_of_beq e1), H⟩
             case measure => simp [intOf]; omega)
      · have hke : k = s.xs.length := by omega
        subst hke
        have hn0 : t.xs.length ≤ s.xs.length := by rw [HL.out]; exact Nat.le_refl _
        go_wp2
        go_ret
        exact ⟨ret_bool (beq_of_take HL.out HT.out).symm, H.below⟩
  · have l1 : (s.xs.length == t.xs.length) = false := by simp [hl]
    have l2 : (s.xs.length != t.xs.length) = true := by simp [hl]
    have l3 : ((s.xs.length : Int) == (t.xs.length : Int)) = false := by simp; omega
    have l4 : ((s.xs.length : Int) != (t.xs.length : Int)) = true := by simp; omega
    go_enter Tryz.func154, Tryz.ntmps154
    go_wp2
    go_ret
    exact ⟨ret_bool (beq_ne_len hl).symm, Below.refl _ _⟩
set_option maxRecDepth 100000 in
set_option maxHeartbeats 2000000 in
theorem sameProg_c (s t : Sl Ins) (w : World) (R0 : Rd Ins.cells 2 w s) (R1 : Rd Ins.cells 2 w t) (Z : s.xs.length ≤ 4194304) : Calls Tryz.prog 204 #[.slice s.A s.xs.length s.c, .slice t.A t.xs.length t.c] w fun e w' => e = .returned (.bool (s.xs == t.xs)) ∧ Below w.heap.size w w' := by
  have H := Hp.start w
  go_enter Tryz.func204, Tryz.ntmps204
  go_wp2_with (first
    | (refine wpList_box_H rfl rfl H rfl (by first | exact CellsOf.agg | exact CellsOf.int | exact CellsOf.bool | exact CellsOf.slice | exact CellsOf.string | exact CellsOf.pointer | exact CellsOf.func) ?_; clear H; intro b w H)
    | (refine wpList_alloc_H rfl rfl H ?_; clear H; intro b w H)
    | (refine wpList_load_H rfl rfl H rfl (by repeat (first | exact LoadAt.here rfl | apply LoadAt.there)) ?_)
    | (refine wpList_loads_H rfl rfl H rfl (by repeat (first | (apply LoadsAt.here; repeat (first | exact GetsAt.nil | apply GetsAt.here | apply GetsAt.there)) | apply LoadsAt.there)) ?_)
    | (refine wpList_store_H rfl rfl H rfl rfl (by repeat (first | (apply StoreAt.here; (first | exact CellsOf.agg | exact CellsOf.int | exact CellsOf.bool | exact CellsOf.slice | exact CellsOf.string | exact CellsOf.pointer | exact CellsOf.func); (repeat (first | exact SetsAt.nil | apply SetsAt.here | apply SetsAt.there)); exact rfl; exact rfl) | apply StoreAt.there)) ?_; clear H; intro w H)
    | (go_at_call 220; ((with_reducible refine (equalIns_c s t _ (R0.at_ H) (R1.at_ H) Z).mono ?_)); rintro e w ⟨rfl, hb⟩; replace H := H.still hb; clear hb))
  go_ret
  exact ⟨rfl, H.below⟩
set_option maxRecDepth 100000 in
set_option maxHeartbeats 2000000 in
theorem sameTable_c (s t : Sl Slot) (w : World) (R0 : Rd Slot.cells 2 w s) (R1 : Rd Slot.cells 2 w t) (Z : s.xs.length ≤ 4194304) : Calls Tryz.prog 205 #[.slice s.A s.xs.length s.c, .slice t.A t.xs.length t.c] w fun e w' => e = .returned (.bool (s.xs == t.xs)) ∧ Below w.heap.size w w' := by
  have H := Hp.start w
  go_enter Tryz.func205, Tryz.ntmps205
  go_wp2_with (first
    | (refine wpList_box_H rfl rfl H rfl (by first | exact CellsOf.agg | exact CellsOf.int | exact CellsOf.bool | exact CellsOf.slice | exact CellsOf.string | exact CellsOf.pointer | exact CellsOf.func) ?_; clear H; intro b w H)
    | (refine wpList_alloc_H rfl rfl H ?_; clear H; intro b w H)
    | (refine wpList_load_H rfl rfl H rfl (by repeat (first | exact LoadAt.here rfl | apply LoadAt.there)) ?_)
    | (refine wpList_loads_H rfl rfl H rfl (by repeat (first | (apply LoadsAt.here; repeat (first | exact GetsAt.nil | apply GetsAt.here | apply GetsAt.there)) | apply LoadsAt.there)) ?_)
    | (refine wpList_store_H rfl rfl H rfl rfl (by repeat (first | (apply StoreAt.here; (first | exact CellsOf.agg | exact CellsOf.int | exact CellsOf.bool | exact CellsOf.slice | exact CellsOf.string | exact CellsOf.pointer | exact CellsOf.func); (repeat (first | exact SetsAt.nil | apply SetsAt.here | apply SetsAt.there)); exact rfl; exact rfl) | apply StoreAt.there)) ?_; clear H; intro w H)
    | (go_at_call 221; ((with_reducible refine (equalSlots_c s t _ (R0.at_ H) (R1.at_ H) Z).mono ?_)); rintro e w ⟨rfl, hb⟩; replace H := H.still hb; clear hb))
  go_ret
  exact ⟨rfl, H.below⟩
end Go.Proofs.YtaafnenmdombiaaGreat

/- The laws' own sizes and comparisons on slices of slices, of guests, and on bare machines. No condition but that the arguments lie in memory. -/
namespace Go.Proofs.YtaafnenmdombiaaGreat
set_option linter.unusedSimpArgs false
set_option linter.unusedVariables false
open Go.RowKit
end Go.Proofs.YtaafnenmdombiaaGreat

/- The laws' own comparisons of slices of slices and of guests. No condition but that the arguments lie in memory. -/
namespace Go.Proofs.YtaafnenmdombiaaGreat
set_option linter.unusedSimpArgs false
set_option linter.unusedVariables false
open Go.RowKit
theorem mapt_succ {α β : Type} {f : α → β} {xs ys : List α} {k : Nat} {x y : α} (h : (xs.take k).map f = (ys.take k).map f) (hx : xs[k]? = some x) (hy : ys[k]? = some y) (e : f x = f y) : (xs.take (k + 1)).map f = (ys.take (k + 1)).map f := by
  rw [List.take_add_one, List.take_add_one, List.map_append, List.map_append, h, hx, hy]; simp [e]
theorem mapt_all {α β : Type} [BEq β] [LawfulBEq β] {f : α → β} {xs ys : List α} (hl : xs.length = ys.length) (h : (xs.take xs.length).map f = (ys.take xs.length).map f) : (xs.map f == ys.map f) = true := by
  rw [List.take_length, hl, List.take_length] at h; simp [h]
theorem mapt_ne {α β : Type} [BEq β] [LawfulBEq β] {f : α → β} {xs ys : List α} {k : Nat} {x y : α} (hx : xs[k]? = some x) (hy : ys[k]? = some y) (e : f x ≠ f y) : (xs.map f == ys.map f) = false := by
  rw [beq_eq_false_iff_ne]; intro h
  have h1 : (xs.map f)[k]? = (ys.map f)[k]? := by rw [h]
  rw [List.getElem?_map, List.getElem?_map, hx, hy] at h1
  exact e (by simpa using h1)
theorem mapt_len {α β : Type} [BEq β] [LawfulBEq β] {f : α → β} {xs ys : List α} (h : ¬ xs.length = ys.length) : (xs.map f == ys.map f) = false := by
  rw [beq_eq_false_iff_ne]; intro e
  exact h (by have := congrArg List.length e; simpa using this)
end Go.Proofs.YtaafnenmdombiaaGreat

/- The laws' own makers, sizes and comparisons on bare machines. No condition but that the arguments lie in memory. -/
namespace Go.Proofs.YtaafnenmdombiaaGreat
set_option linter.unusedSimpArgs false
set_option linter.unusedVariables false
open Go.RowKit
structure BWide (B : BV) : Prop where
  mem : B.mem.xs.length ≤ maxLen
  memi : ∀ s ∈ B.mem.xs, s.xs.length ≤ maxLen
  gs : B.gs.xs.length ≤ maxLen
  gsi : ∀ g ∈ B.gs.xs, GWide g
  outs : B.outs.xs.length ≤ maxLen
theorem meqB (B C : BV) : (B.m == C.m) = ((B.mem.xs.map (fun x => x.xs) == C.mem.xs.map (fun x => x.xs)) && (B.gs.xs.map (fun x => x.m) == C.gs.xs.map (fun x => x.m)) && (B.outs.xs == C.outs.xs) && (B.pend == C.pend)) := by
  rw [Bool.eq_iff_iff]
  simp [BV.m, memOf, gsOf, and_assoc]
end Go.Proofs.YtaafnenmdombiaaGreat
