/- Contracts of CellAt, WithCell, SlotAt, WithSlot, of the program and of the reference. No condition but that the arguments lie in memory. -/
import Derived.Test.YtaafnenmdombiaaGreatBp
import Derived.Test.YtaafnenmdombiaaGreatOk2
import Derived.Test.YtaafnenmdombiaaGreatBk
namespace Go.Proofs.YtaafnenmdombiaaGreat
set_option linter.unusedSimpArgs false
set_option linter.unusedVariables false
open Go.RowKit
section
variable {s : Sl (Sl Int)} {k : Nat} {r : Sl Int}
end
theorem Hp.many_at {w0 w : World} {L : List En} {α : Type} {f : α → En} {l : List α} {k : Nat} {r : α} (hr : l[k]? = some r) (H : Hp w0 w (.many f l :: L)) : ∃ l1 l2, l = l1 ++ r :: l2 ∧ l1.length = k ∧ Hp w0 w (f r :: .many f l1 :: .many f l2 :: L) := by
  have hk : k < l.length := (List.getElem?_eq_some_iff.1 hr).1
  have e : l = l.take k ++ r :: l.drop (k + 1) := by rw [← drop_cons hr]; exact (List.take_append_drop _ _).symm
  refine ⟨l.take k, l.drop (k + 1), e, by rw [List.length_take]; omega, ?_⟩
  rw [e] at H
  exact H.many_split
/-- A row of rows of the call's own, one of which has turned within its block. -/
theorem Hp.row_set {w0 w : World} {L : List En} {d : Sl (Sl Int)} {l1 l2 : List (Sl Int)} {r : Sl Int} (e : d.xs = l1 ++ r :: l2) (xs : List Int) (hl : xs.length = r.xs.length) (H : Hp w0 w (.int ⟨r.A, r.c, xs⟩ :: .many En.int l1 :: .many En.int l2 :: .rows d :: L)) :
    Hp w0 w (.rows ⟨d.A, d.c, l1 ++ ⟨r.A, r.c, xs⟩ :: l2⟩ :: .many En.int (l1 ++ ⟨r.A, r.c, xs⟩ :: l2) :: L) := by
  have H1 := (Hp.many_join (f := En.int) H).recode (.tail .head) (l1 ++ ⟨r.A, r.c, xs⟩ :: l2) (by rw [e]; simp) (by rw [e]; simp [hcells, hl])
  exact H1
end Go.Proofs.YtaafnenmdombiaaGreat
