/- Contracts of PutOut and WithGuest, of the program and of the reference. No condition but that the arguments lie in memory. -/
import Derived.Test.YtaafnenmdombiaaBc
import Derived.Test.YtaafnenmdombiaaGd
namespace Go.Proofs.Ytaafnenmdombiaa
set_option linter.unusedSimpArgs false
set_option linter.unusedVariables false
open Go.RowKit
def withGuestM (m : MB) (g : Int) (x : MG) : MB := if hasM m g then { m with guests := m.guests.set g.toNat x } else m
section
variable {B d : BV}
theorem m_big (h : Hid (d.m = B.m)) (Z : BBig B) : BBig d := by unfold BBig at *; rw [h.out]; exact Z
end
theorem Hp.many_set {w0 w : World} {L : List En} {α : Type} {f : α → En} {l : List α} {k : Nat} {x : α} (hk : k < l.length) (H : Hp w0 w (f x :: .many f l :: L)) : Hp w0 w (.many f (l.set k x) :: L) := by
  have e : l = l.take k ++ l[k] :: l.drop (k + 1) := by
    rw [List.getElem_cons_drop]; exact (List.take_append_drop _ _).symm
  have e2 : l.set k x = l.take k ++ x :: l.drop (k + 1) := by rw [List.set_eq_take_append_cons_drop, if_pos hk]
  rw [e2]
  rw [e] at H
  have H1 := (H.perm (List.Perm.swap _ _ _)).many_split.drop
  refine Hp.many_join (H1.perm ?_)
  exact ((List.Perm.swap _ _ _).cons _).trans (List.Perm.swap _ _ _)
section
variable {P : Program} {ops : Array Oper} {o : Oper} {a : Act} {w0 w : World} {L L' : List En} {Q : Go.Exit → Act → World → Prop} {K : Act → World → Prop} {α : Type} {enc : α → List Value} {sz e : Nat}
theorem wp_index_n {t : TypeId} {x ix : Operand} (ho : o.op = .indexAddr t x ix) {bytes : Nat} [hE : EI P t enc sz bytes e] (s : Sl α) (hs : Rd enc sz w s) {k m : Nat} (hx : a.eval x = .slice s.A m s.c) (hi : a.eval ix = .int .i64 k)
    (hm : s.xs.length = m) (h1 : k < m) (h : K (a.put o.dst (.pointer (some ⟨ablk s.A, aoff s.A + k * sz, none⟩))) w) : o.wp P a w K Q := by
  subst hm
  obtain ⟨i, z, hi', hz, hsize, hby, hzs⟩ := hE.info.hi
  obtain ⟨hA, _⟩ := hs.addr (k := k) h1
  have h1' : (k : Int) < s.xs.length := by omega
  have hr : (Instr.indexAt t (.slice s.A s.xs.length s.c) (.int .i64 k)).run P w = .ok (.pointer (some ⟨ablk s.A, aoff s.A + k * sz, none⟩)) w := by
    rw [hA]
    simp [Instr.indexAt, asIntOf, run_underlying hE.info.ht, sizeOf, typeInfo, hi', hsize, h1, addj, ablk, aoff, go_sem]
  unfold Oper.wp execOp
  simp only [ho, hx, hi, Sem.run_bind, Sem.run_pure, Result.andThen_ok, hr]
  exact h
theorem wp_store_el {ty : TypeId} {x y0 : Operand} (ho : o.op = .store ty x y0) (H : Hp w0 w L) (s : Sl α) (tk : Take L (.sl enc sz e s) L') (henc : ∀ x, (enc x).length = sz) {k j : Nat}
    {q : Nat} (hx : a.eval x = .pointer (some ⟨ablk s.A, q, none⟩)) {v : Value} (hy : a.eval y0 = v) {n : Nat} [hN : TyN P ty n] (y y' : α) (hk : s.xs[k]? = some y) (hq : q = aoff s.A + k * sz + j) {vs : List Value} (hv : CellsOf v vs) (hS : SetsAt (enc y) j vs (enc y')) (hn : vs.length = n) (h1 : vs.all Value.oneCell' = true)
    (h : ∀ w', Hp w0 w' (.sl enc sz e { s with xs := s.xs.set k y' } :: L') → K (a.put o.dst undef) w') : o.wp P a w K Q := by
  subst hq
  obtain ⟨w', hr, hH⟩ := run_store_el (P := P) (ty := ty) H tk henc hk hv hS hn h1
  unfold Oper.wp execOp
  simp only [ho, hx, hy, Instr.storeAt, Instr.sureAddr, Sem.run_bind, Sem.run_pure, Result.andThen_ok, hr]
  exact h w' hH
end
end Go.Proofs.Ytaafnenmdombiaa
