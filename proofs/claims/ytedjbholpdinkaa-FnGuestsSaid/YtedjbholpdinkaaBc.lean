/- Contracts of the copies of slices of slices, of guests, and of bare machines, of the program and of the reference. No condition but that the argument lies in memory. -/
import Derived.Test.YtedjbholpdinkaaBa
import Derived.Great.FillDense
namespace Go.Proofs.Ytedjbholpdinkaa
set_option linter.unusedSimpArgs false
set_option linter.unusedVariables false
open Go.RowKit
theorem nil_app {α : Type} {c : Sl α} {l : List α} (h : Hid (c.xs = [] ++ l)) : Hid (c.xs = l) := h.out
section
variable {P : Program} {ops : Array Oper} {rest : List Oper} {o : Oper} {a : Act} {w0 w : World} {L : List En} {Q : Go.Exit → Act → World → Prop} {α : Type} {enc : α → List Value} {sz bytes e : Nat}
theorem fill_one {v : Value} {cs : List Value} (hv : v.cells = cs.toArray) (hl : cs.length = sz) (hp : 0 < sz) {cur : Array Value} (hc : cur.size = sz) : Instr.fill (fun i => some (i * sz, sz)) cur [(0, v)] = some cs.toArray := by
  have hs : v.cells.size = sz := by rw [hv]; simpa using hl
  obtain ⟨r, h1, h2, h3⟩ := Go.Great.fill_dense hp [v] 0 cur (by simpa using hs) (by simp; omega)
  simp only [List.zipIdx_cons, List.zipIdx_nil, List.map_cons, List.map_nil] at h1
  rw [h1]
  congr 1
  apply Array.ext_getElem?
  intro k
  rw [h3 k]
  simp only [List.length_cons, List.length_nil, Nat.zero_mul, Nat.zero_le, true_and, Nat.zero_add, Nat.one_mul, Nat.sub_zero]
  by_cases hk : k < sz
  · rw [if_pos hk, Nat.div_eq_of_lt hk, Nat.mod_eq_of_lt hk]; simp [hv]
  · rw [if_neg hk, Array.getElem?_eq_none (by omega), Array.getElem?_eq_none (by simp; omega)]
/-- A slice of one element is made. -/
theorem wpList_one_H (hgd : Region.wanted o (yielded ops a.tmps) = true) {t : TypeId} {x : Operand} (ho : o.op = .buildSlice t 1 #[(0, x)]) (H : Hp w0 w L) [hE : EI P t enc sz bytes e] {zc : List Value} [hZ : TyZ P e zc] (y : α) {v : Value} {cs : List Value} (hx : a.eval x = v) (hv : CellsOf v cs) (he : enc y = cs) (hsm : sz ≤ 2 ^ 24)
    (h : ∀ b w', Hp w0 w' (.sl enc sz e ⟨some ⟨b, 0, none⟩, 1, [y]⟩ :: L) → wpList P ops Q rest (a.put o.dst (.slice (some ⟨b, 0, none⟩) 1 1)) w') : wpList P ops Q (o :: rest) a w := by
  subst he
  refine wpList_lit_H hgd ho H [y] ?_ rfl (by have := hE.info.hsz; omega) (by omega) h
  have h1 := fill_one (cur := (Array.range ([y].length * sz)).map (zc.toArray[· % zc.toArray.size]!)) hv.eq (hE.info.henc y) hE.info.hsz (by simp)
  simpa [hx] using h1
end
section
variable {P : Program} {ops : Array Oper} {md : Region.Mode} {S : World → Prop} {o : Oper} {a : Act} {w0 w : World} {L L' : List En} {Q : Go.Exit → Act → World → Prop} {K : Act → World → Prop}
theorem yields_load1_R (hw : Region.wanted o (yielded ops a.tmps) = true) {ty : TypeId} {x : Operand} (ho : o.op = .load ty x) {b i : Nat} (hx : a.eval x = .pointer (some ⟨b, i, none⟩)) [hT : TyS P ty] {e : TypeId} {cs : List Value} {v : Value} (hR : ∀ w, S w → Rw w b e cs.toArray) (hv : cs[i]? = some v) :
    YieldsIf P ops S o v a := by
  refine .inl ⟨hw, fun w hS => ?_⟩
  have hc : w.cell? ⟨b, i, none⟩ = some v := by rw [(hR w hS).c]; simpa using hv
  have hr : (Instr.loadAt ty (a.eval x)).run P w = .ok v w := by
    rw [hx]; simp [Instr.loadAt, Instr.sureAddr, loadVar, hT.isAgg, hc, go_sem]
  unfold execOp
  simp only [ho, Sem.run_bind, Sem.run_pure, Result.andThen_ok, hr]
theorem yields_val {v : Value} (hw : Region.wanted o (yielded ops a.tmps) = true) (hr : ∀ w, (execOp a.eval o).run P w = .ok (.value v) w) : YieldsIf P ops S o v a := .inl ⟨hw, fun w _ => hr w⟩
/-- A call that makes something, told for a region that draws. -/
theorem made_H {f : FuncId} {args : Array Value} {α : Type} {val : α → Value} {F : α → Prop} {M : α → List En} (H : Hp w0 w L) (h : Calls P f args w (fun e w' => ∃ d : α, e = .returned (val d) ∧ F d ∧ Hp w w' (M d))) :
    Calls P f args w (fun e w' => ∃ v, e = .returned v ∧ ∃ d : α, v = val d ∧ Hid (F d) ∧ Hp w0 w' (M d ++ L)) :=
  h.mono fun _ _ ⟨d, he, hf, K⟩ => ⟨_, he, d, rfl, hf, H.add_all K⟩
theorem madesl_H {f : FuncId} {args : Array Value} {α : Type} {enc : α → List Value} {sz e : Nat} {F : Sl α → Prop} (H : Hp w0 w L) (h : Calls P f args w (fun r w' => ∃ d : Sl α, r = .returned (.slice d.A d.xs.length d.c) ∧ F d ∧ Own enc sz e w' w.heap.size d ∧ Below w.heap.size w w')) :
    Calls P f args w (fun r w' => ∃ v, r = .returned v ∧ ∃ d : Sl α, v = .slice d.A d.xs.length d.c ∧ Hid (F d) ∧ Hp w0 w' (.sl enc sz e d :: L)) :=
  h.mono fun _ _ ⟨d, he, hf, ho, hb⟩ => ⟨_, he, d, rfl, hf, H.add_sl ho hb⟩
theorem wp_nil_H {t : TypeId} (ho : o.op = .buildSlice t 0 #[]) (H : Hp w0 w L) {α : Type} {enc : α → List Value} {sz bytes e : Nat} [hE : EI P t enc sz bytes e]
    (h : ∀ b w', Hp w0 w' (.sl enc sz e ⟨some ⟨b, 0, none⟩, 0, []⟩ :: L) → K (a.put o.dst (.slice (some ⟨b, 0, none⟩) 0 0)) w') : o.wp P a w K Q := by
  obtain ⟨i, z, hi, hz, hsize, hby, hzs⟩ := hE.info.hi
  have hr : (Instr.buildSlice t 0 #[]).run P w = .ok (.slice (some ⟨w.heap.size, 0, none⟩) 0 0) (w.alloc (.cells #[] e)) := by
    simp [Instr.buildSlice, run_underlying hE.info.ht, sizeOf, typeInfo, hi, Instr.fill, newRow, go_sem]
  unfold Oper.wp execOp
  simp only [ho, List.map_toArray, List.map_nil, Sem.run_bind, Sem.run_pure, Result.andThen_ok, hr]
  exact h _ _ (H.add_sl (own_nothing w (Nat.le_refl _)) ((Below.refl _ _).alloc (Nat.le_refl _) _))
theorem wp_append_H {s x : Operand} {t : TypeId} (ho : o.op = .call { callee := .builtin .append, args := #[s, x], argTypes := #[t, t] }) (H : Hp w0 w L) {α : Type} {enc : α → List Value} {sz bytes e : Nat} [hE : EI P t enc sz bytes e] (d src : Sl α)
    (hds : a.eval s = .slice d.A d.xs.length d.c) (hsx : a.eval x = .slice src.A src.xs.length src.c) (tk : Take L (.sl enc sz e d) L') (hs : Rd enc sz w src) (h63 : d.xs.length + src.xs.length ≤ 8388608) (hbt : bytes ≤ 4096)
    (h : ∀ d' w', Hid (d'.xs = d.xs ++ src.xs) → Hp w0 w' (.sl enc sz e d' :: L') → K (a.put o.dst (.slice d'.A d'.xs.length d'.c)) w') : o.wp P a w K Q := by
  refine wp_append_Sl w hE.info s x ho 0 d hds (H.get tk) src hsx hs (by unfold maxLen; omega) ?_ (Nat.zero_le _) fun d' w' hx ho' hg hat => (h d' w' hx ?_)
  · exact Nat.le_trans (Nat.mul_le_mul h63 hbt) (by decide)
  · refine (H.take tk).turn (e' := .sl enc sz e d') (touch_grown hg) ho' ?_ (blk_nodup d')
    intro b hb
    rcases hat with hat | hat
    · left; simpa [En.sl, Sl.blk, hat] using hb
    · right; simp [En.sl, Sl.blk, hat] at hb; omega
theorem val_H {f : FuncId} {args : Array Value} {v : Value} (H : Hp w0 w L) (h : Calls P f args w (fun e w' => e = .returned v ∧ Hp w w' [])) : Calls P f args w (fun e w' => ∃ u, e = .returned u ∧ (u = v ∧ Hp w0 w' L)) :=
  h.mono fun _ _ ⟨he, K⟩ => ⟨_, he, rfl, H.add_all K⟩
end
end Go.Proofs.Ytedjbholpdinkaa
