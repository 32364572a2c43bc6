/- Laws for a walk: a struct that is stored into, or read out of, a variable of the call's own. Over any program. -/
import Derived.Test.YtglolhdccaabbaaGv
import Derived.KernelRfl
namespace Go.Proofs.Ytglolhdccaabbaa
open Go.RowKit

/-- Nothing but block b has turned, and no block is new. -/
structure Only (b : Nat) (w w' : World) : Prop where
  os : w'.os = w.os
  tape : w'.tape = w.tape
  output : w'.output = w.output
  size : w'.heap.size = w.heap.size
  block : ∀ k, k ≠ b → w'.heap[k]? = w.heap[k]?
theorem only_below {B b : Nat} {a w w' : World} (h : Below B a w) (ho : Only b w w') (hb : B ≤ b) : Below B a w' :=
  h.trans ⟨ho.os, ho.tape, ho.output, by rw [ho.size]; exact Nat.le_refl _, fun k hk => ho.block k (by omega)⟩
theorem Keeps.only {lo hi b : Nat} {w w' w'' : World} (h : Keeps lo hi w w') (ho : Only b w' w'') (hb : b < lo ∨ hi ≤ b) : Keeps lo hi w w'' :=
  fun k h1 h2 => (ho.block k (by omega)).trans (h k h1 h2)
theorem Bx.only {w w' : World} {b b' : Nat} {cs : Array Value} (h : Bx w b cs) (ho : Only b' w w') (hb : b ≠ b') : Bx w' b cs := h.keep (ho.block b hb)
theorem only_setCell (w : World) (p : Addr) (u : Value) : Only p.block w (w.setCell p u) := ⟨rfl, rfl, rfl, by simp [World.setCell], fun k hk => Below.heap_setCell w p u k hk⟩
theorem only_setRow (w : World) (g : Nat) (cs : Array Value) : Only g w (w.setRow g cs) := ⟨rfl, rfl, rfl, by simp, fun k hk => setRow_other w g k _ hk⟩

section
variable {P : Program}
theorem run_storeVar_all (w : World) (b : Nat) (ty : TypeId) (old new : Array Value) (hB : Bx w b old) (hz : new.size = old.size) (hi : (P.info? ty).map (·.size) = some new.size) (h1 : ∀ u ∈ new.toList, u.oneCell' = true) :
    ∃ w', (storeVar ty ⟨b, 0, none⟩ (.agg new)).run P w = .ok () w' ∧ Bx w' b new ∧ Only b w w' := by
  obtain ⟨t, hB⟩ := hB
  cases hq : P.info? ty with
  | none => simp [hq] at hi
  | some i =>
    have hs : i.size = new.size := by simpa [hq] using hi
    have hst := run_storeCells_at P b 0 t new.toList 0 old w hB (by simp [hz]) h1
    refine ⟨w.setRow b new, ?_, ⟨t, setRow_heap w b old new t _ hB⟩, only_setRow w b new⟩
    have e1 : (old.toList.take 0 ++ new.toList ++ old.toList.drop (0 + 0 + new.toList.length)).toArray = new := by
      have hd : old.toList.drop old.size = [] := List.drop_eq_nil_of_le (by simp)
      simp [hz, hd]
    rw [e1] at hst
    simp [storeVar, sizeOf, typeInfo, hq, hs, Value.cells, hst]
theorem wpList_store_all {ops : Array Oper} {rest : List Oper} {o : Oper} {a : Act} {w : World} {Q : Go.Exit → Act → World → Prop} (hgd : o.guard = none) (ty : TypeId) (x y : Operand) (ho : o.op = .store ty x y)
    (b : Nat) (old new : Array Value) (hx : a.eval x = .pointer (some ⟨b, 0, none⟩)) (hy : a.eval y = .agg new) (hB : Bx w b old) (hz : new.size = old.size) (hi : (P.info? ty).map (·.size) = some new.size) (h1 : ∀ u ∈ new.toList, u.oneCell' = true)
    (h : ∀ w', Bx w' b new → Only b w w' → wpList P ops Q rest (a.put o.dst undef) w') : wpList P ops Q (o :: rest) a w := by
  refine wpList_plain hgd fun _ hK => ?_
  obtain ⟨w', hr, h2, h3⟩ := run_storeVar_all (P := P) w b ty old new hB hz hi h1
  unfold Oper.wp execOp
  simp only [ho, hx, hy, Instr.storeAt, Instr.sureAddr, Sem.run_bind, Sem.run_pure, Result.andThen_ok, hr]
  exact hK _ _ (h w' h2 h3)
theorem wpList_load_all {ops : Array Oper} {rest : List Oper} {o : Oper} {a : Act} {w : World} {Q : Go.Exit → Act → World → Prop} (hgd : o.guard = none) (ty : TypeId) (x : Operand) (ho : o.op = .load ty x)
    (b : Nat) (cs : Array Value) (d : TypeDesc) (hx : a.eval x = .pointer (some ⟨b, 0, none⟩)) (hB : Bx w b cs)
    (hu : P.underlying ty = some d) (hd : (match d with | .struct _ | .array _ _ => true | _ => false) = true) (hi : (P.info? ty).map (·.size) = some cs.size)
    (h : wpList P ops Q rest (a.put o.dst (.agg cs)) w) : wpList P ops Q (o :: rest) a w := by
  obtain ⟨t, hB⟩ := hB
  exact wpList_load_row hgd ty x ho b hx t cs (0, 0) d hB hu hd hi h
theorem results_all {fn : Func} {p : Tmp} {ty : TypeId} (h : fn.results = #[.cell p ty]) (tmps : Array Value) (w : World) (b : Nat) (cs : Array Value) (d : TypeDesc)
    (hp : tmps.getD p undef = .pointer (some ⟨b, 0, none⟩)) (hB : Bx w b cs)
    (hu : P.underlying ty = some d) (hd : (match d with | .struct _ | .array _ _ => true | _ => false) = true) (hi : (P.info? ty).map (·.size) = some cs.size) :
    (results fn tmps).run P w = .ok (.agg cs) w := by
  obtain ⟨t, hB⟩ := hB
  exact results_cell_row h tmps w b t cs (0, 0) d hp hB hu hd hi
theorem results_all2 {fn : Func} {p q : Tmp} {ty : TypeId} (h : fn.results = #[.cell p ty, .tmp q]) (tmps : Array Value) (w : World) (b : Nat) (cs : Array Value) (d : TypeDesc)
    (hp : tmps.getD p undef = .pointer (some ⟨b, 0, none⟩)) (hB : Bx w b cs)
    (hu : P.underlying ty = some d) (hd : (match d with | .struct _ | .array _ _ => true | _ => false) = true) (hi : (P.info? ty).map (·.size) = some cs.size) :
    (results fn tmps).run P w = .ok (.tuple #[.agg cs, tmps.getD q undef]) w := by
  obtain ⟨t, hB⟩ := hB
  rw [results_cell_tmp h, hp]
  simp [asAddr, run_loadVar_row w b t ty cs (0, 0) d hB hu hd hi]
end
theorem garr_one (g : GV) : ∀ u ∈ (garr g).toList, u.oneCell' = true := by
  intro u hu
  simp at hu
  rcases hu with rfl | rfl | rfl | rfl | rfl | rfl | rfl | rfl | rfl | rfl | rfl | rfl | rfl | rfl | rfl <;> rfl
end Go.Proofs.Ytglolhdccaabbaa
