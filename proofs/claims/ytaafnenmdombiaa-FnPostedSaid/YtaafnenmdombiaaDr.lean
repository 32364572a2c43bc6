/- Regions that draw their order, walked by hand: a cut behind a region, and laws for one operation of it, over the memory that a call has made. Plain theorems; no condition. -/
import Derived.Test.YtaafnenmdombiaaDp
import Derived.Deep.RegionHeld3
namespace Go.Proofs.Ytaafnenmdombiaa
open Go.RowKit
section
variable {P : Program} {ops : Array Oper} {md : Region.Mode} {S : World → Prop} {o : Oper} {a : Act} {w0 w : World} {L L' : List En} {Q : Go.Exit → Act → World → Prop} {K : Act → World → Prop}
theorem Hp.rw_ (H : Hp w0 w L) {b : Nat} {e : TypeId} {cs : List Value} (t : Take L (.box b e cs) L') : Rw w b e cs.toArray := H.get t
/-- A cut behind a piece of code: what is known there, of the frame as it was ahead of it. -/
theorem wp_cut {c : Code} (M : Act → Act → World → Prop) (h1 : c.wp P (fun e a' w' => e = .normal ∧ M a a' w') a w) (h2 : ∀ a' w', M a a' w' → Q .normal a' w') : c.wp P Q a w :=
  Code.wp_mono (fun e a' w' ⟨he, h⟩ => by subst he; exact h2 a' w' h) h1
/-- A frame with some temporaries laid. -/
def puts (a : Act) (l : List (Tmp × Value)) : Act := l.foldl (fun a x => a.put (some x.1) x.2) a
theorem puts_nil (a : Act) : puts a [] = a := rfl
theorem puts_cons (a : Act) (k : Tmp) (v : Value) (l : List (Tmp × Value)) : puts a ((k, v) :: l) = puts (a.put (some k) v) l := rfl
/-- An operation of a region, written out. -/
inductive OpAt : List Oper → Nat → Oper → Prop
  | here {o l} : OpAt (o :: l) 0 o
  | there {x l n o} : OpAt l n o → OpAt (x :: l) (n + 1) o
theorem OpAt.eq {l : List Oper} {n : Nat} {o : Oper} (h : OpAt l n o) : l[n]? = some o := by
  induction h with
  | here => rfl
  | there _ ih => simpa using ih
theorem wpOp_at {i : Nat} {l : List Oper} (hl : ops = l.toArray) (hi : OpAt l i o) (hw : Region.wanted o (yielded ops a.tmps) = true) (h : o.wp P a w K Q) : wpOp P ops Q i K a w := by
  have hi' : ops[i]? = some o := by rw [hl]; simpa using hi.eq
  unfold wpOp; simp only [hi', hw, if_true]; exact .inl h
section
variable {fuel : Nat} {listed : Array Bool} {i j k : Nat}
end
theorem wp_of_val {v : Value} (hr : (execOp a.eval o).run P w = .ok (.value v) w) (h : K (a.put o.dst v) w) : o.wp P a w K Q := by
  unfold Oper.wp; rw [hr]; exact h
theorem wp_alloc_H {ty : TypeId} (ho : o.op = .alloc ty) (H : Hp w0 w L) {cs : List Value} [hz : TyZ P ty cs]
    (h : ∀ b w', Hp w0 w' (.box b ty cs :: L) → K (a.put o.dst (.pointer (some ⟨b, 0, none⟩))) w') : o.wp P a w K Q := by
  have hz := hz.zero
  cases hq : P.info? ty with
  | none => simp [hq] at hz
  | some i =>
    cases hq2 : i.zero with
    | none => simp [hq, hq2] at hz
    | some z =>
      have hc : z.cells.toList = cs := by simpa [hq, hq2] using hz
      have hr : (Instr.alloc ty true (.tuple #[])).run P w = .ok (.pointer (some ⟨w.heap.size, 0, none⟩)) (w.alloc (.cells cs.toArray ty)) := by
        rw [← hc]; simp [Instr.alloc, newVar, newRow, zeroValue, typeInfo, hq, hq2, go_sem]
      unfold Oper.wp execOp
      simp only [ho, Sem.run_bind, Sem.run_pure, Result.andThen_ok, hr]
      exact h _ _ (H.add_box cs ty)
/-- A call, by its contract. -/
theorem wp_call_H {c : Call} {n : FuncId} (fn : Func) (ho : o.op = .call c) (hc : c.callee = .value (.func n)) (hf : P.funcs[n]? = some fn) (hb : (fn.name == "runtime.NumGoroutine" || fn.body.isNone) = false) {xs : List Operand} (hx : c.args = xs.toArray) {args : List Value} (ha : xs.map a.eval = args) {R : Value → World → Prop}
    (h : Calls P n args.toArray w (fun e w' => ∃ v, e = .returned v ∧ R v w')) (hk : ∀ v w', R v w' → K (a.put o.dst v) w') : o.wp P a w K Q := by
  have hb' := hb
  rw [Bool.or_eq_false_iff] at hb'
  obtain ⟨hb1, hb2⟩ := hb'
  have hp : program.run P w = .ok P w := rfl
  have hr : (execOp a.eval o).run P w = .ok (.enter n args.toArray) w := by
    have ha' : c.args.map a.eval = args.toArray := by rw [hx, ← ha]; simp
    unfold execOp
    simp only [ho, resolve, hc, Act.eval, Deferred.ofValue, Sem.run_bind, Sem.run_pure, Result.andThen_ok, invoke, callFunc, hp, hf, hb1, hb2, Bool.false_eq_true, if_false, Array.append_empty, Array.empty_append, ha']
  unfold Oper.wp
  rw [hr]
  show Calls P n args.toArray w _
  exact h.mono fun e w' ⟨v, he, hR⟩ => by subst he; exact hk v w' hR
section
variable {fuel : Nat} {listed : Array Bool} {i j k : Nat}
theorem anyH_1 (hr : Region.ready md ops listed = [i]) (h : wpOp P ops Q i (fun a' w' => S w' ∧ wpAnyH P md ops Q S fuel (listed.setIfInBounds i true) a' w') a w) : wpAnyH P md ops Q S (fuel + 1) listed a w :=
  wpAnyH_all hr (by simp) (by simpa using h)
theorem anyH_2 (hr : Region.ready md ops listed = [i, j]) (h : wpOp P ops Q i (fun a' w' => S w' ∧ wpAnyH P md ops Q S fuel (listed.setIfInBounds i true) a' w') a w) (h' : wpOp P ops Q j (fun a' w' => S w' ∧ wpAnyH P md ops Q S fuel (listed.setIfInBounds j true) a' w') a w) : wpAnyH P md ops Q S (fuel + 1) listed a w :=
  wpAnyH_all hr (by simp) (by simpa using ⟨h, h'⟩)
end
theorem yields_loads_R (hw : Region.wanted o (yielded ops a.tmps) = true) {ty : TypeId} {x : Operand} (ho : o.op = .load ty x) {b i n : Nat} (hx : a.eval x = .pointer (some ⟨b, i, none⟩)) [hT : TyA P ty n] {e : TypeId} {cs vs : List Value} (hR : ∀ w, S w → Rw w b e cs.toArray) (hv : GetsAt cs i n vs) :
    YieldsIf P ops S o (.agg vs.toArray) a := by
  refine .inl ⟨hw, fun w hS => ?_⟩
  have hB := hR w hS
  obtain ⟨hn, hv⟩ := hv.eq
  have hr : (Instr.loadAt ty (a.eval x)).run P w = .ok (.agg vs.toArray) w := by
    rw [hx]; exact run_cells hT hn fun j v hj => by rw [hB.c]; simpa using hv j v hj
  unfold execOp
  simp only [ho, Sem.run_bind, Sem.run_pure, Result.andThen_ok, hr]
/-- A load is taken first. -/
theorem takeH {i : Nat} {l : List Oper} {v : Value} {fuel : Nat} {listed : Array Bool} (hl : ops = l.toArray) (hi : OpAt l i o) (hs : Region.noSelect ops = true) (hf : Region.free md ops listed i = true) (hr : (Region.ready md ops listed).contains i = true)
    (hQ : ∀ c a w, Q (.panic c) (a.put o.dst v) w → Q (.panic c) a w) (hy : YieldsIf P ops S o v a) (hS : S w)
    (h : wpAnyH P md ops Q S fuel (listed.setIfInBounds i true) (a.put o.dst v) w) : wpAnyH P md ops Q S (fuel + 1) listed a w :=
  wpAnyH_take (by rw [hl]; simpa using hi.eq) hs hf hr hQ hy hS h
theorem calls_ex {α : Type} {f : FuncId} {args : Array Value} {val : α → Value} {A : α → World → Prop} (h : Calls P f args w (fun e w' => ∃ d : α, e = .returned (val d) ∧ A d w')) : Calls P f args w (fun e w' => ∃ v, e = .returned v ∧ ∃ d : α, v = val d ∧ A d w') :=
  h.mono fun _ _ ⟨d, he, h⟩ => ⟨_, he, d, rfl, h⟩
end
end Go.Proofs.Ytaafnenmdombiaa
