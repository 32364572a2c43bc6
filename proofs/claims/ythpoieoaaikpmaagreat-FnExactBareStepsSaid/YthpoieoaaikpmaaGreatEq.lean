/- Contracts of the functions that compare two lists, of the program (slices.Equal, SameProg, SameTable) and of the reference. No condition but that the arguments lie in memory. -/
import Derived.Test.YthpoieoaaikpmaaGreatOk
import Derived.Test.YthpoieoaaikpmaaGreatLSl
namespace Go.Proofs.YthpoieoaaikpmaaGreat
open Go.RowKit
section
variable {P : Program} {o : Oper} {a : Act} {w0 : World} {L : List En} {C : World → Prop} {K : Act → Prop}
theorem quiet_index_nat (hC : ∀ w, C w → Hp w0 w L) {t : TypeId} {x ix : Operand} (ho : o.op = .indexAddr t x ix) {α : Type} {enc : α → List Value} {sz bytes e : Nat} [hE : EI P t enc sz bytes e] (s : Sl α) (hs : Rd enc sz w0 s) {k : Nat} (hx : a.eval x = .slice s.A s.xs.length s.c) (hi : a.eval ix = .int .i64 k)
    (h1 : k < s.xs.length) (h : K (a.put o.dst (.pointer (some ⟨ablk s.A, aoff s.A + k * sz, none⟩)))) : o.quiet P a C K := by
  refine ⟨_, fun w hw => ?_, h⟩
  obtain ⟨i, z, hi', hz, hsize, hby, hzs⟩ := hE.info.hi
  obtain ⟨hA, _⟩ := (hs.at_ (hC w hw)).addr (k := k) h1
  have hr : (Instr.indexAt t (.slice s.A s.xs.length s.c) (.int .i64 k)).run P w = .ok (.pointer (some ⟨ablk s.A, aoff s.A + k * sz, none⟩)) w := by
    rw [hA]
    simp [Instr.indexAt, asIntOf, run_underlying hE.info.ht, sizeOf, typeInfo, hi', hsize, h1, addj, ablk, aoff, go_sem]
  unfold Oper.quietAt execOp
  simp only [ho, hx, hi, Sem.run_bind, Sem.run_pure, Result.andThen_ok, hr, Oper.quietUpon]
  exact ⟨trivial, trivial⟩
theorem quiet_loads_rd (hC : ∀ w, C w → Hp w0 w L) {ty : TypeId} {x : Operand} (ho : o.op = .load ty x) {α : Type} {enc : α → List Value} {sz : Nat} (s : Sl α) (hs : Rd enc sz w0 s) {k : Nat} (hx : a.eval x = .pointer (some ⟨ablk s.A, aoff s.A + k * sz, none⟩)) {n : Nat} [hS : TyA P ty n] (y : α) (hk : s.xs[k]? = some y) {vs : List Value} (hv : GetsAt (enc y) 0 n vs)
    (h : K (a.put o.dst (.agg vs.toArray))) : o.quiet P a C K :=
  quiet_of_run ho (fun w hw => by rw [hx]; exact run_loads_rd (hs.at_ (hC w hw)) hS (j := 0) hk hv) h
theorem quiet_load_rd (hC : ∀ w, C w → Hp w0 w L) {ty : TypeId} {x : Operand} (ho : o.op = .load ty x) {α : Type} {enc : α → List Value} {sz : Nat} (s : Sl α) (hs : Rd enc sz w0 s) {k : Nat} (hx : a.eval x = .pointer (some ⟨ablk s.A, aoff s.A + k * sz, none⟩)) [hS : TyS P ty] (y : α) (hk : s.xs[k]? = some y) {v : Value} (hv : (enc y)[0]? = some v)
    (h : K (a.put o.dst v)) : o.quiet P a C K :=
  quiet_of_run ho (fun w hw => by rw [hx]; exact run_load_rd (hs.at_ (hC w hw)) hS (j := 0) hk hv) h
end
theorem beq_of_take {α : Type} [BEq α] [LawfulBEq α] {xs ys : List α} (hl : xs.length = ys.length) (h : xs.take xs.length = ys.take xs.length) : (xs == ys) = true := by
  rw [List.take_length, hl, List.take_length] at h; simp [h]
theorem beq_ne_len {α : Type} [BEq α] [LawfulBEq α] {xs ys : List α} (hl : ¬ xs.length = ys.length) : (xs == ys) = false := by
  rw [beq_eq_false_iff_ne]; intro e; exact hl (by rw [e])
end Go.Proofs.YthpoieoaaikpmaaGreat
