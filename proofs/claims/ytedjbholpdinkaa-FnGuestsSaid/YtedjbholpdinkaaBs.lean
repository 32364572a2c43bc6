/- The laws' own sizes and comparisons on slices of slices, of guests, and on bare machines. No condition but that the arguments lie in memory. -/
import Derived.Test.YtedjbholpdinkaaBl
import Derived.Test.YtedjbholpdinkaaEq
namespace Go.Proofs.Ytedjbholpdinkaa
set_option linter.unusedSimpArgs false
set_option linter.unusedVariables false
open Go.RowKit
theorem sum_take_succ {α : Type} {f : α → Nat} {l : List α} {k : Nat} {y : α} (hy : l[k]? = some y) : ((l.take (k + 1)).map f).sum = ((l.take k).map f).sum + f y := by
  rw [List.take_add_one, hy]; simp
theorem sum_take_le {α : Type} {f : α → Nat} {l : List α} {k : Nat} : ((l.take k).map f).sum ≤ (l.map f).sum := by
  have h : (l.map f).sum = ((l.take k).map f).sum + ((l.drop k).map f).sum := by
    rw [← List.sum_append, ← List.map_append, List.take_append_drop]
  omega
theorem szG_M (left : Int) (g : MG) : szG left g = szM left g.size := by
  unfold szG szM MG.size
  repeat' split
  all_goals (try unfold szM at *); (try split at *); (try omega)
theorem szM_neg {left : Int} {n : Nat} (h : left - n < 0) : szM left n = -1 := by unfold szM; rw [if_pos h]
theorem szM_pos {left : Int} {n : Nat} (h : ¬ left - n < 0) : szM left n = left - n := by unfold szM; rw [if_neg h]
theorem szGuest2_any (g : GV) (left : Int) (w : World) (hz : GWide g) (h0 : 0 ≤ left) (h1 : left ≤ 1048576) : Calls Try.prog 34 #[.agg #[.slice g.prog.A g.prog.xs.length g.prog.c, .int .i64 g.a, .int .i64 g.pc, .slice g.written.A g.written.xs.length g.written.c, .slice g.live.A g.live.xs.length g.live.c,
    .int .i64 g.ctl.traps, .int .i64 g.ctl.post, .bool g.ctl.opn, .int .i64 g.pending, .int .i64 g.exit.kind, .int .i64 g.exit.page, .bool g.exit.write, .int .i64 g.exit.n, .bool g.halted, .slice g.seen.A g.seen.xs.length g.seen.c], .int .i64 left] w fun e w' => e = .returned (.int .i64 (szM left g.m.size)) ∧ Below w.heap.size w w' := by
  rw [← szG_M]; exact szGuest_any g left w hz h0 h1
theorem szInt2_any (s : Sl Int) (left : Int) (w : World) (hl : s.xs.length ≤ maxLen) (h0 : 0 ≤ left) (h1 : left ≤ 1048576) : Calls Try.prog 94 #[.slice s.A s.xs.length s.c, .int .i64 left] w fun e w' => e = .returned (.int .i64 (szM left s.xs.length)) ∧ Below w.heap.size w w' :=
  (szIntS_any s left w hl h0 h1).mono fun _ _ ⟨he, hw⟩ => ⟨he, hw ▸ Below.refl _ _⟩
theorem szIns2_any (s : Sl Ins) (left : Int) (w : World) (hl : s.xs.length ≤ maxLen) (h0 : 0 ≤ left) (h1 : left ≤ 1048576) : Calls Try.prog 39 #[.slice s.A s.xs.length s.c, .int .i64 left] w fun e w' => e = .returned (.int .i64 (szM left s.xs.length)) ∧ Below w.heap.size w w' :=
  (szInsS_any s left w hl h0 h1).mono fun _ _ ⟨he, hw⟩ => ⟨he, hw ▸ Below.refl _ _⟩
end Go.Proofs.Ytedjbholpdinkaa
