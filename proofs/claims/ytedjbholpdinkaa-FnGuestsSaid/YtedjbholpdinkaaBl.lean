/- The laws' own makers and sizes on slices of slices, of guests, and on bare machines. No condition but that the argument lies in memory. -/
import Derived.Test.YtedjbholpdinkaaDr
import Derived.Test.YtedjbholpdinkaaLh
namespace Go.Proofs.Ytedjbholpdinkaa
set_option linter.unusedSimpArgs false
set_option linter.unusedVariables false
open Go.RowKit
abbrev En.irows (s : Sl (Sl Ins)) : En := En.sl hcells 1 26 s
theorem Hp.rdirows {w0 w : World} {L L' : List En} (H : Hp w0 w L) {s : Sl (Sl Ins)} (t : Take L (.irows s) L') : Rd hcells 1 w s := H.rd t h_len
theorem set_fill {α : Type} {ds : List α} {k n : Nat} {z d : α} (h : ds.length = k) (hk : k < n) : (ds ++ List.replicate (n - k) z).set k d = (ds ++ [d]) ++ List.replicate (n - (k + 1)) z := by
  subst h
  rw [show n - ds.length = (n - (ds.length + 1)) + 1 by omega, List.replicate_succ]
  simp
theorem get_fill {α : Type} {ds : List α} {k n : Nat} {z : α} (h : ds.length = k) (hk : k < n) : (ds ++ List.replicate (n - k) z)[k]? = some z := by
  subst h
  rw [List.getElem?_append_right (Nat.le_refl _), Nat.sub_self, show n - ds.length = (n - (ds.length + 1)) + 1 by omega, List.replicate_succ]; rfl
theorem map_snoc {α β : Type} {f : α → β} {ds xs : List α} {k : Nat} {d y : α} (h : ds.map f = (xs.take k).map f) (hy : xs[k]? = some y) (hd : f d = f y) : (ds ++ [d]).map f = (xs.take (k + 1)).map f := by
  rw [List.take_add_one, List.map_append, List.map_append, h, hy]; simp [hd]
theorem toG2_any (g : GV) (w : World) (hg : GRd w g) (hz : GBig g) : Calls Try.prog 36 #[g.val] w fun e w' => ∃ d : GV, e = .returned (.agg #[.slice d.prog.A d.prog.xs.length d.prog.c, .int .i64 d.a, .int .i64 d.pc, .slice d.written.A d.written.xs.length d.written.c, .slice d.live.A d.live.xs.length d.live.c,
    .int .i64 d.ctl.traps, .int .i64 d.ctl.post, .bool d.ctl.opn, .int .i64 d.pending, .int .i64 d.exit.kind, .int .i64 d.exit.page, .bool d.exit.write, .int .i64 d.exit.n, .bool d.halted, .slice d.seen.A d.seen.xs.length d.seen.c]) ∧ d.m = g.m ∧ GOwn w' w.heap.size d ∧ Below w.heap.size w w' := toGuest_any g w hg hz
end Go.Proofs.Ytedjbholpdinkaa
