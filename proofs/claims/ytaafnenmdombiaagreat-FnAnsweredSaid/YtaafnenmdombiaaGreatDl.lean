/- Regions that draw their order, walked by hand: a cut behind a region, and laws for one operation of it, over the memory that a call has made. Plain theorems; no condition. -/
import Derived.Test.YtaafnenmdombiaaGreatDp
import Derived.Deep.RegionHeld3
namespace Go.Proofs.YtaafnenmdombiaaGreat
open Go.RowKit
section
variable {P : Program} {ops : Array Oper} {md : Region.Mode} {S : World → Prop} {o : Oper} {a : Act} {w0 w : World} {L L' : List En} {Q : Go.Exit → Act → World → Prop} {K : Act → World → Prop}
theorem Hp.rw_ (H : Hp w0 w L) {b : Nat} {e : TypeId} {cs : List Value} (t : Take L (.box b e cs) L') : Rw w b e cs.toArray := H.get t
/-- A cut behind a piece of code: what is known there, of the frame as it was ahead of it. -/
theorem wp_cut {c : Code} (M : Act → Act → World → Prop) (h1 : c.wp P (fun e a' w' => e = .normal ∧ M a a' w') a w) (h2 : ∀ a' w', M a a' w' → Q .normal a' w') : c.wp P Q a w :=
  Code.wp_mono (fun e a' w' ⟨he, h⟩ => by subst he; exact h2 a' w' h) h1
/-- A frame with some temporaries laid. -/
def puts (a : Act) (l : List (Tmp × Value)) : Act := l.foldl (fun a x => a.put (some x.1) x.2) a
theorem puts_nil (a : Act) : puts a [] = a := rfl
theorem puts_cons (a : Act) (k : Tmp) (v : Value) (l : List (Tmp × Value)) : puts a ((k, v) :: l) = puts (a.put (some k) v) l := rfl
/-- An operation of a region, written out. -/
inductive OpAt : List Oper → Nat → Oper → Prop
  | here {o l} : OpAt (o :: l) 0 o
  | there {x l n o} : OpAt l n o → OpAt (x :: l) (n + 1) o
theorem OpAt.eq {l : List Oper} {n : Nat} {o : Oper} (h : OpAt l n o) : l[n]? = some o := by
  induction h with
  | here => rfl
  | there _ ih => simpa using ih
theorem wpOp_at {i : Nat} {l : List Oper} (hl : ops = l.toArray) (hi : OpAt l i o) (hw : Region.wanted o (yielded ops a.tmps) = true) (h : o.wp P a w K Q) : wpOp P ops Q i K a w := by
  have hi' : ops[i]? = some o := by rw [hl]; simpa using hi.eq
  unfold wpOp; simp only [hi', hw, if_true]; exact .inl h
section
variable {fuel : Nat} {listed : Array Bool} {i j k : Nat}
end
theorem wp_of_val {v : Value} (hr : (execOp a.eval o).run P w = .ok (.value v) w) (h : K (a.put o.dst v) w) : o.wp P a w K Q := by
  unfold Oper.wp; rw [hr]; exact h
theorem wp_assign_H {x : Operand} (ho : o.op = .assign x) (h : K (a.put o.dst (a.eval x)) w) : o.wp P a w K Q := by
  refine wp_of_val ?_ h
  unfold execOp
  simp only [ho, Sem.run_pure]
theorem wp_alloc_H {ty : TypeId} (ho : o.op = .alloc ty) (H : Hp w0 w L) {cs : List Value} [hz : TyZ P ty cs]
    (h : ∀ b w', Hp w0 w' (.box b ty cs :: L) → K (a.put o.dst (.pointer (some ⟨b, 0, none⟩))) w') : o.wp P a w K Q := by
  have hz := hz.zero
  cases hq : P.info? ty with
  | none => simp [hq] at hz
  | some i =>
    cases hq2 : i.zero with
    | none => simp [hq, hq2] at hz
    | some z =>
      have hc : z.cells.toList = cs := by simpa [hq, hq2] using hz
      have hr : (Instr.alloc ty true (.tuple #[])).run P w = .ok (.pointer (some ⟨w.heap.size, 0, none⟩)) (w.alloc (.cells cs.toArray ty)) := by
        rw [← hc]; simp [Instr.alloc, newVar, newRow, zeroValue, typeInfo, hq, hq2, go_sem]
      unfold Oper.wp execOp
      simp only [ho, Sem.run_bind, Sem.run_pure, Result.andThen_ok, hr]
      exact h _ _ (H.add_box cs ty)
/-- A call, by its contract. -/
theorem wp_call_H {c : Call} {n : FuncId} (fn : Func) (ho : o.op = .call c) (hc : c.callee = .value (.func n)) (hf : P.funcs[n]? = some fn) (hb : (fn.name == "runtime.NumGoroutine" || fn.body.isNone) = false) {xs : List Operand} (hx : c.args = xs.toArray) {args : List Value} (ha : xs.map a.eval = args) {R : Value → World → Prop}
    (h : Calls P n args.toArray w (fun e w' => ∃ v, e = .returned v ∧ R v w')) (hk : ∀ v w', R v w' → K (a.put o.dst v) w') : o.wp P a w K Q := by
  have hb' := hb
  rw [Bool.or_eq_false_iff] at hb'
  obtain ⟨hb1, hb2⟩ := hb'
  have hp : program.run P w = .ok P w := rfl
  have hr : (execOp a.eval o).run P w = .ok (.enter n args.toArray) w := by
    have ha' : c.args.map a.eval = args.toArray := by rw [hx, ← ha]; simp
    unfold execOp
    simp only [ho, resolve, hc, Act.eval, Deferred.ofValue, Sem.run_bind, Sem.run_pure, Result.andThen_ok, invoke, callFunc, hp, hf, hb1, hb2, Bool.false_eq_true, if_false, Array.append_empty, Array.empty_append, ha']
  unfold Oper.wp
  rw [hr]
  show Calls P n args.toArray w _
  exact h.mono fun e w' ⟨v, he, hR⟩ => by subst he; exact hk v w' hR
section
variable {fuel : Nat} {listed : Array Bool} {i j k : Nat}
theorem anyH_1 (hr : Region.ready md ops listed = [i]) (h : wpOp P ops Q i (fun a' w' => S w' ∧ wpAnyH P md ops Q S fuel (listed.setIfInBounds i true) a' w') a w) : wpAnyH P md ops Q S (fuel + 1) listed a w :=
  wpAnyH_all hr (by simp) (by simpa using h)
theorem anyH_2 (hr : Region.ready md ops listed = [i, j]) (h : wpOp P ops Q i (fun a' w' => S w' ∧ wpAnyH P md ops Q S fuel (listed.setIfInBounds i true) a' w') a w) (h' : wpOp P ops Q j (fun a' w' => S w' ∧ wpAnyH P md ops Q S fuel (listed.setIfInBounds j true) a' w') a w) : wpAnyH P md ops Q S (fuel + 1) listed a w :=
  wpAnyH_all hr (by simp) (by simpa using ⟨h, h'⟩)
end
theorem yields_loads_R (hw : Region.wanted o (yielded ops a.tmps) = true) {ty : TypeId} {x : Operand} (ho : o.op = .load ty x) {b i n : Nat} (hx : a.eval x = .pointer (some ⟨b, i, none⟩)) [hT : TyA P ty n] {e : TypeId} {cs vs : List Value} (hR : ∀ w, S w → Rw w b e cs.toArray) (hv : GetsAt cs i n vs) :
    YieldsIf P ops S o (.agg vs.toArray) a := by
  refine .inl ⟨hw, fun w hS => ?_⟩
  have hB := hR w hS
  obtain ⟨hn, hv⟩ := hv.eq
  have hr : (Instr.loadAt ty (a.eval x)).run P w = .ok (.agg vs.toArray) w := by
    rw [hx]; exact run_cells hT hn fun j v hj => by rw [hB.c]; simpa using hv j v hj
  unfold execOp
  simp only [ho, Sem.run_bind, Sem.run_pure, Result.andThen_ok, hr]
/-- A load is taken first. -/
theorem takeH {i : Nat} {l : List Oper} {v : Value} {fuel : Nat} {listed : Array Bool} (hl : ops = l.toArray) (hi : OpAt l i o) (hs : Region.noSelect ops = true) (hf : Region.free md ops listed i = true) (hr : (Region.ready md ops listed).contains i = true)
    (hQ : ∀ c a w, Q (.panic c) (a.put o.dst v) w → Q (.panic c) a w) (hy : YieldsIf P ops S o v a) (hS : S w)
    (h : wpAnyH P md ops Q S fuel (listed.setIfInBounds i true) (a.put o.dst v) w) : wpAnyH P md ops Q S (fuel + 1) listed a w :=
  wpAnyH_take (by rw [hl]; simpa using hi.eq) hs hf hr hQ hy hS h
theorem OpAt.of {l : List Oper} {i : Nat} {o : Oper} (h : l[i]? = some o) : OpAt l i o := by
  induction l generalizing i with
  | nil => simp at h
  | cons x l ih =>
    cases i with
    | zero =>
      have e : x = o := by simpa using h
      rw [e]; exact OpAt.here
    | succ i => exact OpAt.there (ih (by simpa using h))
theorem tkH {i : Nat} {l : List Oper} {v : Value} {fuel : Nat} {listed : Array Bool} (hl : ops = l.toArray) (hi : OpAt l i o) (hy : YieldsIf P ops S o v a) (hS : S w) (h : wpAnyH P md ops Q S fuel (listed.setIfInBounds i true) (a.put o.dst v) w)
    (hs : Region.noSelect ops = true := by kernel_rfl) (hf : Region.free md ops listed i = true := by kernel_rfl) (hr : (Region.ready md ops listed).contains i = true := by kernel_rfl) (hQ : ∀ c a w, Q (.panic c) (a.put o.dst v) w → Q (.panic c) a w := by exact fun _ _ _ h => absurd h.1 (by simp)) : wpAnyH P md ops Q S (fuel + 1) listed a w :=
  takeH hl hi hs hf hr hQ hy hS h
theorem calls_ex {α : Type} {f : FuncId} {args : Array Value} {val : α → Value} {A : α → World → Prop} (h : Calls P f args w (fun e w' => ∃ d : α, e = .returned (val d) ∧ A d w')) : Calls P f args w (fun e w' => ∃ v, e = .returned v ∧ ∃ d : α, v = val d ∧ A d w') :=
  h.mono fun _ _ ⟨d, he, h⟩ => ⟨_, he, d, rfl, h⟩
end
end Go.Proofs.YtaafnenmdombiaaGreat

/- Regions that draw, whose last operation (one that waits for all others) may turn what the others look at. Plain theorems; no condition. -/
namespace Go.Proofs.YtaafnenmdombiaaGreat
open Go.RowKit
/-- Number j waits for number i. -/
def waitsOn (md : Region.Mode) (ops : Array Oper) (j i : Nat) : Bool := ((ops[j]?).map fun o => o.after.any fun e => Region.binds md e && e.on == i).getD false
section
variable {P : Program} {ops : Array Oper} {md : Region.Mode} {S : World → Prop} {Q : Go.Exit → Act → World → Prop} {z : Nat}
/-- Every order of a region; behind each operation but number z S is to be shown anew. -/
def wpAnyL (P : Program) (md : Region.Mode) (ops : Array Oper) (Q : Go.Exit → Act → World → Prop) (S : World → Prop) (z : Nat) : Nat → Array Bool → Act → World → Prop
  | 0, listed, a, w => Region.ready md ops listed = [] ∧ Q .normal a w
  | fuel + 1, listed, a, w => (Region.ready md ops listed = [] → Q .normal a w) ∧
    ∀ i ∈ Region.ready md ops listed, wpOp P ops Q i (fun a' w' => (i ≠ z → S w') ∧ wpAnyL P md ops Q S z fuel (listed.setIfInBounds i true) a' w') a w
theorem anyL_any : ∀ (fuel : Nat) (listed : Array Bool) (a : Act) (w : World), wpAnyL P md ops Q S z fuel listed a w → wpAny P md ops Q fuel listed a w
  | 0, _, _, _, h => h
  | n + 1, _, _, _, h => ⟨h.1, fun i hi => wpOp_mono (fun a' w' hk => anyL_any n _ a' w' hk.2) (h.2 i hi)⟩
theorem waitsOn_no {j i : Nat} {oj : Oper} (hj : ops[j]? = some oj) (hno : ∀ e ∈ oj.after, Region.binds md e = true → e.on ≠ i) : waitsOn md ops j i = false := by
  rw [Bool.eq_false_iff]
  intro h
  simp only [waitsOn, hj, Option.map_some, Option.getD_some, Array.any_eq_true, Bool.and_eq_true, beq_iff_eq] at h
  obtain ⟨k, hk, hb, ho⟩ := h
  exact hno _ (Array.getElem_mem hk) hb ho
theorem anyL_take {i : Nat} {oi : Oper} {v : Value} (hi : ops[i]? = some oi) (hsel : ∀ (j : Nat) (o : Oper) cs b, ops[j]? = some o → o.op ≠ .select cs b) (hQ : ∀ c a w, Q (.panic c) (a.put oi.dst v) w → Q (.panic c) a w) (hz : waitsOn md ops z i = true) (fuel : Nat) :
    ∀ (listed : Array Bool) (a : Act) (w : World), (∀ j oj, ops[j]? = some oj → j ≠ i → listed.getD j true = false → (∀ e ∈ oj.after, Region.binds md e = true → e.on ≠ i) → oi.apart ops oj = true) →
      i ∈ Region.ready md ops listed → YieldsIf P ops S oi v a → S w → wpAnyL P md ops Q S z fuel (listed.setIfInBounds i true) (a.put oi.dst v) w → wpAnyL P md ops Q S z (fuel + 1) listed a w := by
  induction fuel with
  | zero =>
    intro listed a w _ hr hy hS hn
    refine ⟨fun h0 => absurd hr (by rw [h0]; simp), fun j hj => ?_⟩
    rcases Nat.decEq j i with hne | rfl
    · have hm := ready_mono hj hne
      rw [hn.1] at hm; cases hm
    · exact hy.wpOp hi hS ⟨fun _ => hS, hn⟩
  | succ n ih =>
    intro listed a w hap hr hy hS hn
    refine ⟨fun h0 => absurd hr (by rw [h0]; simp), fun j hj => ?_⟩
    by_cases hne : j = i
    · subst hne; exact hy.wpOp hi hS ⟨fun _ => hS, hn⟩
    obtain ⟨hun, oj, hoj, haft⟩ := mem_ready.1 hj
    have hiun := (mem_ready.1 hr).1
    have hno : ∀ e ∈ oj.after, Region.binds md e = true → e.on ≠ i := by
      intro e he hb heq
      have h1 := haft e he hb
      rw [heq] at h1
      by_cases hs : i < listed.size
      · simp [hs] at hiun h1; rw [hiun] at h1; cases h1
      · simp [Array.getElem?_eq_none (Nat.le_of_not_lt hs)] at h1
    have hwa : j ≠ z := by
      intro hjz; subst hjz
      rw [waitsOn_no hoj hno] at hz; cases hz
    have step := wpOp_putIf hoj (hap j oj hoj hne hun hno) (fun cs b => hsel i oi cs b hi) (fun cs b => hsel j oj cs b hoj) hQ hy (hn.2 j (ready_mono hj hne))
    refine wpOp_mono (fun a' w' hk => ⟨fun _ => hk.2.1 hwa, ?_⟩) step
    refine ih (listed.setIfInBounds j true) a' w' ?_ (ready_mono hr (Ne.symm hne)) hk.1 (hk.2.1 hwa) ?_
    · intro k ok hok hki hku
      refine hap k ok hok hki ?_
      by_cases hjk : j = k
      · subst hjk; exact hun
      · rwa [getD_set_ne true hjk] at hku
    · rw [Array.setIfInBounds_comm _ _ hne]; exact hk.2.2
end
section
variable {P : Program} {ops : Array Oper} {md : Region.Mode} {S : World → Prop} {Q : Go.Exit → Act → World → Prop} {o : Oper} {a : Act} {w : World} {fuel z : Nat} {listed : Array Bool} {i j k : Nat}
theorem takeL {i : Nat} {l : List Oper} {v : Value} (hl : ops = l.toArray) (hi : OpAt l i o) (hs : Region.noSelect ops = true) (hf : Region.free md ops listed i = true) (hr : (Region.ready md ops listed).contains i = true)
    (hQ : ∀ c a w, Q (.panic c) (a.put o.dst v) w → Q (.panic c) a w) (hz : waitsOn md ops z i = true) (hy : YieldsIf P ops S o v a) (hS : S w)
    (h : wpAnyL P md ops Q S z fuel (listed.setIfInBounds i true) (a.put o.dst v) w) : wpAnyL P md ops Q S z (fuel + 1) listed a w := by
  have hi' : ops[i]? = some o := by rw [hl]; simpa using hi.eq
  exact anyL_take hi' (Region.noSelect_spec hs) hQ hz fuel listed a w (Region.free_spec hi' hf) (by simpa using hr) hy hS h
theorem tkL {i : Nat} {l : List Oper} {v : Value} (hl : ops = l.toArray) (hi : OpAt l i o) (hy : YieldsIf P ops S o v a) (hS : S w) (h : wpAnyL P md ops Q S z fuel (listed.setIfInBounds i true) (a.put o.dst v) w)
    (hs : Region.noSelect ops = true := by kernel_rfl) (hf : Region.free md ops listed i = true := by kernel_rfl) (hr : (Region.ready md ops listed).contains i = true := by kernel_rfl) (hQ : ∀ c a w, Q (.panic c) (a.put o.dst v) w → Q (.panic c) a w := by exact fun _ _ _ h => absurd h.1 (by simp)) (hz : waitsOn md ops z i = true := by kernel_rfl) : wpAnyL P md ops Q S z (fuel + 1) listed a w :=
  takeL hl hi hs hf hr hQ hz hy hS h
theorem anyL_1 (hr : Region.ready md ops listed = [i]) (h : wpOp P ops Q i (fun a' w' => (i ≠ z → S w') ∧ wpAnyL P md ops Q S z fuel (listed.setIfInBounds i true) a' w') a w) : wpAnyL P md ops Q S z (fuel + 1) listed a w :=
  ⟨fun h0 => (by rw [hr] at h0; cases h0), (by rw [hr]; simpa using h)⟩
theorem anyL_done (hr : Region.ready md ops listed = []) (h : Q .normal a w) : ∀ fuel, wpAnyL P md ops Q S z fuel listed a w
  | 0 => ⟨hr, h⟩
  | _ + 1 => ⟨fun _ => h, by rw [hr]; simp⟩
theorem wp_region_last (z : Nat) {id : Nat} (hm : P.follows .mixedOrders = true) (h : wpAnyL P .any ops Q S z ops.size (Array.replicate ops.size false) a w.drew) : (Code.region id ops true).wp P Q a w :=
  wp_region_any hm (anyL_any _ _ _ _ h)
end
end Go.Proofs.YtaafnenmdombiaaGreat
