/- Guards: what kind of operation stands next in a walk, told cheaply. Plain theorems; no condition. -/
import Derived.Test.YtaafnenmdombiaaGreatDp
namespace Go.Proofs.YtaafnenmdombiaaGreat
open Go.RowKit
section
variable {P : Program} {ops : Array Oper} {rest : List Oper} {a : Act} {w : World} {Q : Go.Exit → Act → World → Prop} {d : Option Tmp} {ty t : TypeId} {x y : Operand} {n : Nat} {parts : Array (Nat × Operand)} {p : String} {af : Array Edge} {g : Option (Nat × Bool)}
theorem at_box (h : wpList P ops Q (⟨d, .box ty x, t, p, af, g⟩ :: rest) a w) : wpList P ops Q (⟨d, .box ty x, t, p, af, g⟩ :: rest) a w := h
theorem at_alloc (h : wpList P ops Q (⟨d, .alloc ty, t, p, af, g⟩ :: rest) a w) : wpList P ops Q (⟨d, .alloc ty, t, p, af, g⟩ :: rest) a w := h
theorem at_load (h : wpList P ops Q (⟨d, .load ty x, t, p, af, g⟩ :: rest) a w) : wpList P ops Q (⟨d, .load ty x, t, p, af, g⟩ :: rest) a w := h
theorem at_store (h : wpList P ops Q (⟨d, .store ty x y, t, p, af, g⟩ :: rest) a w) : wpList P ops Q (⟨d, .store ty x y, t, p, af, g⟩ :: rest) a w := h
theorem at_index (h : wpList P ops Q (⟨d, .indexAddr ty x y, t, p, af, g⟩ :: rest) a w) : wpList P ops Q (⟨d, .indexAddr ty x y, t, p, af, g⟩ :: rest) a w := h
theorem at_slice (h : wpList P ops Q (⟨d, .buildSlice ty n parts, t, p, af, g⟩ :: rest) a w) : wpList P ops Q (⟨d, .buildSlice ty n parts, t, p, af, g⟩ :: rest) a w := h
theorem at_mkslice (h : wpList P ops Q (⟨d, .makeSlice ty x y, t, p, af, g⟩ :: rest) a w) : wpList P ops Q (⟨d, .makeSlice ty x y, t, p, af, g⟩ :: rest) a w := h
theorem at_append {args : Array Operand} {ts : Array TypeId} (h : wpList P ops Q (⟨d, .call { callee := .builtin .append, args := args, argTypes := ts }, t, p, af, g⟩ :: rest) a w) : wpList P ops Q (⟨d, .call { callee := .builtin .append, args := args, argTypes := ts }, t, p, af, g⟩ :: rest) a w := h
theorem at_dst (n : Tmp) {op : Op} (h : wpList P ops Q (⟨some n, op, t, p, af, g⟩ :: rest) a w) : wpList P ops Q (⟨some n, op, t, p, af, g⟩ :: rest) a w := h
end
section
variable {P : Program} {f : FuncId} {w : World} {R : Ending → World → Prop} {y z : Value}
theorem at_arg2 (x : Value) (h : Calls P f #[x, y] w R) : Calls P f #[x, y] w R := h
theorem at_arg3 (x : Value) (h : Calls P f #[x, y, z] w R) : Calls P f #[x, y, z] w R := h
end
section
variable {P : Program} {ops : Array Oper} {rest : List Oper} {o : Oper} {a : Act} {w0 w : World} {L L' : List En} {Q : Go.Exit → Act → World → Prop} {α : Type} {enc : α → List Value} {sz e : Nat}
/-- A cell of an element is read; its place said apart. -/
theorem wpList_load_at (hgd : Region.wanted o (yielded ops a.tmps) = true) {ty : TypeId} {x : Operand} (ho : o.op = .load ty x) (s : Sl α) (hs : Rd enc sz w s) {q : Nat} (hx : a.eval x = .pointer (some ⟨ablk s.A, q, none⟩)) [hS : TyS P ty] {k : Nat} (y : α) (hk : s.xs[k]? = some y) {j : Nat} (hq : q = aoff s.A + k * sz + j) {v : Value} (hv : (enc y)[j]? = some v)
    (h : wpList P ops Q rest (a.put o.dst v) w) : wpList P ops Q (o :: rest) a w := by
  subst hq
  exact wp_of_run hgd ho (by rw [hx]; exact run_load_rd hs hS hk hv) h
end
end Go.Proofs.YtaafnenmdombiaaGreat
