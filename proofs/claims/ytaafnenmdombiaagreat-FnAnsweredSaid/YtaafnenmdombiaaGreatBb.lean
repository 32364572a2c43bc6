/- Contracts of the law's own helpers on guests: mark and held. -/
import Derived.Test.YtaafnenmdombiaaGreatLGe
import Derived.Test.YtaafnenmdombiaaGreatGWant
import Derived.Deep.RegionHeld3
import Derived.Deep.DrawnRows
import Derived.WalkSpells
import Derived.Test.YtaafnenmdombiaaGreatMk
import Derived.Test.YtaafnenmdombiaaGreatMl
import Derived.Test.YtaafnenmdombiaaGreatDl
import Derived.Test.YtaafnenmdombiaaGreatOk
namespace Go.Proofs.YtaafnenmdombiaaGreat
open Go.RowKit
theorem GOwn.apart {w : World} {lo : Nat} {g : GV} (h : GOwn w lo g) : (∀ x, g.prog.blk = some x → ∀ y, g.written.blk = some y → x ≠ y) ∧ (∀ x, g.prog.blk = some x → ∀ y, g.live.blk = some y → x ≠ y) ∧ (∀ x, g.prog.blk = some x → ∀ y, g.seen.blk = some y → x ≠ y) ∧
    (∀ x, g.written.blk = some x → ∀ y, g.live.blk = some y → x ≠ y) ∧ (∀ x, g.written.blk = some x → ∀ y, g.seen.blk = some y → x ≠ y) ∧ (∀ x, g.live.blk = some x → ∀ y, g.seen.blk = some y → x ≠ y) := by
  have h := h.nd
  unfold GV.blks at h
  simp only [List.nodup_append, List.mem_append, Option.mem_toList] at h
  obtain ⟨⟨⟨_, _, h1⟩, _, h2⟩, _, h3⟩ := h
  exact ⟨fun x hx y hy => h1 x hx y hy, fun x hx y hy => h2 x (.inl hx) y hy, fun x hx y hy => h3 x (.inl (.inl hx)) y hy, fun x hx y hy => h2 x (.inr hx) y hy, fun x hx y hy => h3 x (.inl (.inr hx)) y hy, fun x hx y hy => h3 x (.inr hx) y hy⟩
end Go.Proofs.YtaafnenmdombiaaGreat

/- Laws over a guest whose functions give back a bool or an integer. -/
namespace Go.Proofs.YtaafnenmdombiaaGreat
open Go.RowKit
attribute [local go_sem ↓] Go.wp_at_zero Go.wp_at_succ
end Go.Proofs.YtaafnenmdombiaaGreat

/- The law's own helpers on guests, said over the memory that the law has made; and the walks of the exact laws whose functions hand back a guest. No condition but that the arguments lie in memory. -/
namespace Go.Proofs.YtaafnenmdombiaaGreat
open Go.RowKit
attribute [local go_sem ↓] Go.wp_at_zero Go.wp_at_succ
theorem gbig_mm {d : GV} {m : MG} (h : MBig m) (e : Hid (d.m = m)) : GBig d := by have := e.out; unfold GBig; subst this; exact h
section
variable {w0 w : World} {L L' : List En}
theorem Hp.cells (H : Hp w0 w L) {b : Nat} {e : TypeId} {cs : List Value} (t : Take L (.box b e cs) L') : ∀ o, w.cell? ⟨b, o, none⟩ = cs.toArray[o]? := by
  have h : Rw w b e cs.toArray := H.get t
  exact fun o => h.c o
theorem Hp.swap {e e' : En} (H : Hp w0 w L) {w' : World} (t : Take L e L') (hT : Touch e.bl w w') (hok : e'.ok w') (hbl : e'.bl = e.bl) : Hp w0 w' (e' :: L') :=
  (H.take t).turn hT hok (fun b hb => .inl (by rw [← hbl]; exact hb)) (by
    rw [hbl]
    have nd := (H.take t).nd
    rw [List.flatMap_cons, List.nodup_append] at nd
    exact nd.1)
end
end Go.Proofs.YtaafnenmdombiaaGreat

/- The laws' own makers and sizes on slices of slices, of guests, and on bare machines. No condition but that the argument lies in memory. -/
namespace Go.Proofs.YtaafnenmdombiaaGreat
set_option linter.unusedSimpArgs false
set_option linter.unusedVariables false
open Go.RowKit
theorem map_snoc {α β : Type} {f : α → β} {ds xs : List α} {k : Nat} {d y : α} (h : ds.map f = (xs.take k).map f) (hy : xs[k]? = some y) (hd : f d = f y) : (ds ++ [d]).map f = (xs.take (k + 1)).map f := by
  rw [List.take_add_one, List.map_append, List.map_append, h, hy]; simp [hd]
end Go.Proofs.YtaafnenmdombiaaGreat

/- Contracts of the functions that compare two lists, of the program (slices.Equal, SameProg, SameTable) and of the reference. No condition but that the arguments lie in memory. -/
namespace Go.Proofs.YtaafnenmdombiaaGreat
open Go.RowKit
section
variable {P : Program} {o : Oper} {a : Act} {w0 : World} {L : List En} {C : World → Prop} {K : Act → Prop}
theorem quiet_index_nat (hC : ∀ w, C w → Hp w0 w L) {t : TypeId} {x ix : Operand} (ho : o.op = .indexAddr t x ix) {α : Type} {enc : α → List Value} {sz bytes e : Nat} [hE : EI P t enc sz bytes e] (s : Sl α) (hs : Rd enc sz w0 s) {k : Nat} (hx : a.eval x = .slice s.A s.xs.length s.c) (hi : a.eval ix = .int .i64 k)
    (h1 : k < s.xs.length) (h : K (a.put o.dst (.pointer (some ⟨ablk s.A, aoff s.A + k * sz, none⟩)))) : o.quiet P a C K := by
  refine ⟨_, fun w hw => ?_, h⟩
  obtain ⟨i, z, hi', hz, hsize, hby, hzs⟩ := hE.info.hi
  obtain ⟨hA, _⟩ := (hs.at_ (hC w hw)).addr (k := k) h1
  have hr : (Instr.indexAt t (.slice s.A s.xs.length s.c) (.int .i64 k)).run P w = .ok (.pointer (some ⟨ablk s.A, aoff s.A + k * sz, none⟩)) w := by
    rw [hA]
    simp [Instr.indexAt, asIntOf, run_underlying hE.info.ht, sizeOf, typeInfo, hi', hsize, h1, addj, ablk, aoff, go_sem]
  unfold Oper.quietAt execOp
  simp only [ho, hx, hi, Sem.run_bind, Sem.run_pure, Result.andThen_ok, hr, Oper.quietUpon]
  exact ⟨trivial, trivial⟩
theorem quiet_loads_rd (hC : ∀ w, C w → Hp w0 w L) {ty : TypeId} {x : Operand} (ho : o.op = .load ty x) {α : Type} {enc : α → List Value} {sz : Nat} (s : Sl α) (hs : Rd enc sz w0 s) {k : Nat} (hx : a.eval x = .pointer (some ⟨ablk s.A, aoff s.A + k * sz, none⟩)) {n : Nat} [hS : TyA P ty n] (y : α) (hk : s.xs[k]? = some y) {vs : List Value} (hv : GetsAt (enc y) 0 n vs)
    (h : K (a.put o.dst (.agg vs.toArray))) : o.quiet P a C K :=
  quiet_of_run ho (fun w hw => by rw [hx]; exact run_loads_rd (hs.at_ (hC w hw)) hS (j := 0) hk hv) h
theorem quiet_load_rd (hC : ∀ w, C w → Hp w0 w L) {ty : TypeId} {x : Operand} (ho : o.op = .load ty x) {α : Type} {enc : α → List Value} {sz : Nat} (s : Sl α) (hs : Rd enc sz w0 s) {k : Nat} (hx : a.eval x = .pointer (some ⟨ablk s.A, aoff s.A + k * sz, none⟩)) [hS : TyS P ty] (y : α) (hk : s.xs[k]? = some y) {v : Value} (hv : (enc y)[0]? = some v)
    (h : K (a.put o.dst v)) : o.quiet P a C K :=
  quiet_of_run ho (fun w hw => by rw [hx]; exact run_load_rd (hs.at_ (hC w hw)) hS (j := 0) hk hv) h
end
theorem beq_of_take {α : Type} [BEq α] [LawfulBEq α] {xs ys : List α} (hl : xs.length = ys.length) (h : xs.take xs.length = ys.take xs.length) : (xs == ys) = true := by
  rw [List.take_length, hl, List.take_length] at h; simp [h]
theorem beq_ne_len {α : Type} [BEq α] [LawfulBEq α] {xs ys : List α} (hl : ¬ xs.length = ys.length) : (xs == ys) = false := by
  rw [beq_eq_false_iff_ne]; intro e; exact hl (by rw [e])
end Go.Proofs.YtaafnenmdombiaaGreat

/- The laws' own sizes and comparisons on slices of slices, of guests, and on bare machines. No condition but that the arguments lie in memory. -/
namespace Go.Proofs.YtaafnenmdombiaaGreat
set_option linter.unusedSimpArgs false
set_option linter.unusedVariables false
open Go.RowKit
end Go.Proofs.YtaafnenmdombiaaGreat

/- The laws' own comparisons of slices of slices and of guests. No condition but that the arguments lie in memory. -/
namespace Go.Proofs.YtaafnenmdombiaaGreat
set_option linter.unusedSimpArgs false
set_option linter.unusedVariables false
open Go.RowKit
theorem mapt_succ {α β : Type} {f : α → β} {xs ys : List α} {k : Nat} {x y : α} (h : (xs.take k).map f = (ys.take k).map f) (hx : xs[k]? = some x) (hy : ys[k]? = some y) (e : f x = f y) : (xs.take (k + 1)).map f = (ys.take (k + 1)).map f := by
  rw [List.take_add_one, List.take_add_one, List.map_append, List.map_append, h, hx, hy]; simp [e]
theorem mapt_all {α β : Type} [BEq β] [LawfulBEq β] {f : α → β} {xs ys : List α} (hl : xs.length = ys.length) (h : (xs.take xs.length).map f = (ys.take xs.length).map f) : (xs.map f == ys.map f) = true := by
  rw [List.take_length, hl, List.take_length] at h; simp [h]
theorem mapt_ne {α β : Type} [BEq β] [LawfulBEq β] {f : α → β} {xs ys : List α} {k : Nat} {x y : α} (hx : xs[k]? = some x) (hy : ys[k]? = some y) (e : f x ≠ f y) : (xs.map f == ys.map f) = false := by
  rw [beq_eq_false_iff_ne]; intro h
  have h1 : (xs.map f)[k]? = (ys.map f)[k]? := by rw [h]
  rw [List.getElem?_map, List.getElem?_map, hx, hy] at h1
  exact e (by simpa using h1)
theorem mapt_len {α β : Type} [BEq β] [LawfulBEq β] {f : α → β} {xs ys : List α} (h : ¬ xs.length = ys.length) : (xs.map f == ys.map f) = false := by
  rw [beq_eq_false_iff_ne]; intro e
  exact h (by have := congrArg List.length e; simpa using this)
end Go.Proofs.YtaafnenmdombiaaGreat

/- The laws' own makers, sizes and comparisons on bare machines. No condition but that the arguments lie in memory. -/
namespace Go.Proofs.YtaafnenmdombiaaGreat
set_option linter.unusedSimpArgs false
set_option linter.unusedVariables false
open Go.RowKit
structure BWide (B : BV) : Prop where
  mem : B.mem.xs.length ≤ maxLen
  memi : ∀ s ∈ B.mem.xs, s.xs.length ≤ maxLen
  gs : B.gs.xs.length ≤ maxLen
  gsi : ∀ g ∈ B.gs.xs, GWide g
  outs : B.outs.xs.length ≤ maxLen
theorem meqB (B C : BV) : (B.m == C.m) = ((B.mem.xs.map (fun x => x.xs) == C.mem.xs.map (fun x => x.xs)) && (B.gs.xs.map (fun x => x.m) == C.gs.xs.map (fun x => x.m)) && (B.outs.xs == C.outs.xs) && (B.pend == C.pend)) := by
  rw [Bool.eq_iff_iff]
  simp [BV.m, memOf, gsOf, and_assoc]
end Go.Proofs.YtaafnenmdombiaaGreat
