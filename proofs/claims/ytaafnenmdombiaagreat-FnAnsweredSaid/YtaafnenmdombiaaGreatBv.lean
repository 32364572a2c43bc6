/- Contracts of BareRead, of the program and of the reference. No condition but that the arguments lie in memory. -/
import Derived.Test.YtaafnenmdombiaaGreatBu
namespace Go.Proofs.YtaafnenmdombiaaGreat
set_option linter.unusedSimpArgs false
set_option linter.unusedVariables false
open Go.RowKit
section
variable {P : Program} {ops : Array Oper} {S : World → Prop} {o : Oper} {a : Act} {w0 w : World} {L L' : List En} {α : Type} {enc : α → List Value} {sz e : Nat}
theorem yields_index_n (hw : Region.wanted o (yielded ops a.tmps) = true) {t : TypeId} {x ix : Operand} (ho : o.op = .indexAddr t x ix) {bytes : Nat} [hE : EI P t enc sz bytes e] (s : Sl α) (hR : ∀ w, S w → Rd enc sz w s) {k m : Nat} (hx : a.eval x = .slice s.A m s.c) (hi : a.eval ix = .int .i64 k)
    (hm : s.xs.length = m) (h1 : k < m) : YieldsIf P ops S o (.pointer (some ⟨ablk s.A, aoff s.A + k * sz, none⟩)) a := by
  subst hm
  refine .inl ⟨hw, fun w hS => ?_⟩
  obtain ⟨i, z, hi', hz, hsize, hby, hzs⟩ := hE.info.hi
  obtain ⟨hA, _⟩ := (hR w hS).addr (k := k) h1
  have hr : (Instr.indexAt t (.slice s.A s.xs.length s.c) (.int .i64 k)).run P w = .ok (.pointer (some ⟨ablk s.A, aoff s.A + k * sz, none⟩)) w := by
    rw [hA]
    simp [Instr.indexAt, asIntOf, run_underlying hE.info.ht, sizeOf, typeInfo, hi', hsize, h1, addj, ablk, aoff, go_sem]
  unfold execOp
  simp only [ho, hx, hi, Sem.run_bind, Sem.run_pure, Result.andThen_ok, hr]
theorem yields_load_rd (hw : Region.wanted o (yielded ops a.tmps) = true) {ty : TypeId} {x : Operand} (ho : o.op = .load ty x) (s : Sl α) (hR : ∀ w, S w → Rd enc sz w s) {q : Nat} (hx : a.eval x = .pointer (some ⟨ablk s.A, q, none⟩)) [hT : TyS P ty] {k : Nat} (y : α) (hk : s.xs[k]? = some y) {j : Nat} (hq : q = aoff s.A + k * sz + j) {v : Value} (hv : (enc y)[j]? = some v) :
    YieldsIf P ops S o v a := by
  subst hq
  refine .inl ⟨hw, fun w hS => ?_⟩
  have hr : (Instr.loadAt ty (a.eval x)).run P w = .ok v w := by rw [hx]; exact run_load_rd (hR w hS) hT hk hv
  unfold execOp
  simp only [ho, Sem.run_bind, Sem.run_pure, Result.andThen_ok, hr]
end
end Go.Proofs.YtaafnenmdombiaaGreat
