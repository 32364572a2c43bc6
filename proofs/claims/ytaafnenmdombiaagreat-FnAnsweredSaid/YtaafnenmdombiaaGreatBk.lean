/- The laws' own marks on slices of slices. No condition but that the argument is the call's own. -/
import Derived.Test.YtaafnenmdombiaaGreatBb
namespace Go.Proofs.YtaafnenmdombiaaGreat
set_option linter.unusedSimpArgs false
set_option linter.unusedVariables false
open Go.RowKit
theorem Hp.recode {α : Type} {enc : α → List Value} {sz : Nat} {e : TypeId} {w0 w : World} {L L' : List En} {s : Sl α} (H : Hp w0 w L) (t : Take L (.sl enc sz e s) L') (xs : List α) (hl : xs.length = s.xs.length) (hf : xs.flatMap enc = s.xs.flatMap enc) : Hp w0 w (.sl enc sz e { s with xs := xs } :: L') := by
  refine (H.take t).equiv (List.Perm.refl _) fun h _ y hy => ?_
  rcases List.mem_cons.1 hy with rfl | hy
  · have h1 : Own enc sz e w 0 s := h (.sl enc sz e s) (by simp)
    show Own enc sz e w 0 { s with xs := xs }
    unfold Own at *
    simp only [hl, hf]
    exact h1
  · exact h y (by simp [hy])
theorem drop_cons {α : Type} {l : List α} {k : Nat} {y : α} (h : l[k]? = some y) : l.drop k = y :: l.drop (k + 1) := by
  obtain ⟨hk, rfl⟩ := List.getElem?_eq_some_iff.1 h
  exact List.drop_eq_getElem_cons hk
end Go.Proofs.YtaafnenmdombiaaGreat
