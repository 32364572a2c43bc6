/- The laws' own comparisons of slices of slices and of guests. No condition but that the arguments lie in memory. -/
import Derived.Test.YtedjbholpdinkaaBs
namespace Go.Proofs.Ytedjbholpdinkaa
set_option linter.unusedSimpArgs false
set_option linter.unusedVariables false
open Go.RowKit
theorem mapt_succ {α β : Type} {f : α → β} {xs ys : List α} {k : Nat} {x y : α} (h : (xs.take k).map f = (ys.take k).map f) (hx : xs[k]? = some x) (hy : ys[k]? = some y) (e : f x = f y) : (xs.take (k + 1)).map f = (ys.take (k + 1)).map f := by
  rw [List.take_add_one, List.take_add_one, List.map_append, List.map_append, h, hx, hy]; simp [e]
theorem mapt_all {α β : Type} [BEq β] [LawfulBEq β] {f : α → β} {xs ys : List α} (hl : xs.length = ys.length) (h : (xs.take xs.length).map f = (ys.take xs.length).map f) : (xs.map f == ys.map f) = true := by
  rw [List.take_length, hl, List.take_length] at h; simp [h]
theorem mapt_ne {α β : Type} [BEq β] [LawfulBEq β] {f : α → β} {xs ys : List α} {k : Nat} {x y : α} (hx : xs[k]? = some x) (hy : ys[k]? = some y) (e : f x ≠ f y) : (xs.map f == ys.map f) = false := by
  rw [beq_eq_false_iff_ne]; intro h
  have h1 : (xs.map f)[k]? = (ys.map f)[k]? := by rw [h]
  rw [List.getElem?_map, List.getElem?_map, hx, hy] at h1
  exact e (by simpa using h1)
theorem mapt_len {α β : Type} [BEq β] [LawfulBEq β] {f : α → β} {xs ys : List α} (h : ¬ xs.length = ys.length) : (xs.map f == ys.map f) = false := by
  rw [beq_eq_false_iff_ne]; intro e
  exact h (by have := congrArg List.length e; simpa using this)
theorem eqGuest2_any (g h : GV) (w : World) (hg : GRd w g) (hh : GRd w h) (hz : GBig g) : Calls Try.prog 38 #[.agg (GV.cells g).toArray, .agg (GV.cells h).toArray] w fun e w' => e = .returned (.bool (g.m == h.m)) ∧ Below w.heap.size w w' := eqGuest_any g h w hg hh hz
end Go.Proofs.Ytedjbholpdinkaa
