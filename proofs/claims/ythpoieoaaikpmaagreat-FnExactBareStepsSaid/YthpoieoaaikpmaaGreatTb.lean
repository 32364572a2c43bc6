/- Contracts of BareRead, of the program and of the reference. No condition but that the arguments lie in memory. -/
import Derived.Test.YthpoieoaaikpmaaGreatBu
import Derived.Test.YthpoieoaaikpmaaGreatDl
import Derived.Test.YthpoieoaaikpmaaGreatGd
namespace Go.Proofs.YthpoieoaaikpmaaGreat
set_option linter.unusedSimpArgs false
set_option linter.unusedVariables false
open Go.RowKit
section
variable {P : Program} {ops : Array Oper} {S : World → Prop} {o : Oper} {a : Act} {w0 w : World} {L L' : List En} {α : Type} {enc : α → List Value} {sz e : Nat}
theorem yields_index_n (hw : Region.wanted o (yielded ops a.tmps) = true) {t : TypeId} {x ix : Operand} (ho : o.op = .indexAddr t x ix) {bytes : Nat} [hE : EI P t enc sz bytes e] (s : Sl α) (hR : ∀ w, S w → Rd enc sz w s) {k m : Nat} (hx : a.eval x = .slice s.A m s.c) (hi : a.eval ix = .int .i64 k)
    (hm : s.xs.length = m) (h1 : k < m) : YieldsIf P ops S o (.pointer (some ⟨ablk s.A, aoff s.A + k * sz, none⟩)) a := by
  subst hm
  refine .inl ⟨hw, fun w hS => ?_⟩
  obtain ⟨i, z, hi', hz, hsize, hby, hzs⟩ := hE.info.hi
  obtain ⟨hA, _⟩ := (hR w hS).addr (k := k) h1
  have hr : (Instr.indexAt t (.slice s.A s.xs.length s.c) (.int .i64 k)).run P w = .ok (.pointer (some ⟨ablk s.A, aoff s.A + k * sz, none⟩)) w := by
    rw [hA]
    simp [Instr.indexAt, asIntOf, run_underlying hE.info.ht, sizeOf, typeInfo, hi', hsize, h1, addj, ablk, aoff, go_sem]
  unfold execOp
  simp only [ho, hx, hi, Sem.run_bind, Sem.run_pure, Result.andThen_ok, hr]
theorem yields_load_rd (hw : Region.wanted o (yielded ops a.tmps) = true) {ty : TypeId} {x : Operand} (ho : o.op = .load ty x) (s : Sl α) (hR : ∀ w, S w → Rd enc sz w s) {q : Nat} (hx : a.eval x = .pointer (some ⟨ablk s.A, q, none⟩)) [hT : TyS P ty] {k : Nat} (y : α) (hk : s.xs[k]? = some y) {j : Nat} (hq : q = aoff s.A + k * sz + j) {v : Value} (hv : (enc y)[j]? = some v) :
    YieldsIf P ops S o v a := by
  subst hq
  refine .inl ⟨hw, fun w hS => ?_⟩
  have hr : (Instr.loadAt ty (a.eval x)).run P w = .ok v w := by rw [hx]; exact run_load_rd (hR w hS) hT hk hv
  unfold execOp
  simp only [ho, Sem.run_bind, Sem.run_pure, Result.andThen_ok, hr]
end
def atPM (m : MB) (g a n : Int) : Int := if reachOkM m g a then walkPageM (gAtM m g).live (addrPageM a) n else -1
theorem gs_m {B : BV} {k : Nat} {y : GV} (hy : B.gs.xs[k]? = some y) : gAtM B.m k = y.m := (gAtM_hit hy).1
end Go.Proofs.YthpoieoaaikpmaaGreat

/- Contracts of PostIrq and of the program's ways to change a guest of a bare machine. No condition but that the arguments lie in memory. -/
namespace Go.Proofs.YthpoieoaaikpmaaGreat
set_option linter.unusedSimpArgs false
set_option linter.unusedVariables false
open Go.RowKit
def setG (p : Int) (s : Slot) (x : MG) : MG := { x with written := withSlotM x.written p s }
def flushG (p : Int) (x : MG) : MG := { x with live := withSlotM x.live p (slotAtM x.written p) }
def answerG (kind v : Int) (x : MG) : MG := movedM (stoppedM (if kind = 2 then { x with a := v } else x) ⟨0, 0, false, 0⟩)
def resumeG (kind : Int) (x : MG) : MG := if kind = 4 then heldM { x with exit := ⟨0, 0, false, 0⟩ } else { x with exit := ⟨0, 0, false, 0⟩ }
def injectG (p : Int) (x : MG) : MG := { x with pending := p }
def ctlG (c : Ctl) (x : MG) : MG := { x with ctl := c }
def chOkM (m : MB) (g : Int) (c : Bool) : Bool := bareOkM m && hasM m g && c
def changedM (m : MB) (g : Int) (c : Bool) (F : MG → MG) : MB := if chOkM m g c then withGuestM m g (F (gAtM m g)) else m
def postOkM (p n : Int) : Bool := pendB p && inB n 0 7
def postM (p n : Int) : Int := if postOkM p n then bits .or .i64 p (wrap64 (2 ^ n.toNat)) else p
theorem withSlot_len (t : List Slot) (p : Int) (s : Slot) : (withSlotM t p s).length = t.length := by unfold withSlotM; split <;> simp
section
variable {P : Program} {ops : Array Oper} {rest : List Oper} {S : World → Prop} {o : Oper} {a : Act} {w0 w : World} {L L' : List En} {Q : Go.Exit → Act → World → Prop} {K : Act → World → Prop}
theorem Rw.at_ {b e : Nat} {cs : Array Value} (h : Rw w0 b e cs) (H : Hp w0 w L) : Rw w b e cs := h.keep (H.below.block b h.lt)
theorem Rw.below_ {b e : Nat} {cs : Array Value} (h : Rw w0 b e cs) (H : Below w0.heap.size w0 w) : Rw w b e cs := h.keep (H.block b h.lt)
/-- A variable that was there is read. -/
theorem wpList_loadc (hgd : Region.wanted o (yielded ops a.tmps) = true) {ty : TypeId} {x : Operand} (ho : o.op = .load ty x) (H : Hp w0 w L) {b i : Nat} (hx : a.eval x = .pointer (some ⟨b, i, none⟩)) [hS : TyS P ty] {e : Nat} {cs : List Value} (hR : Rw w0 b e cs.toArray) {v : Value} (hv : cs[i]? = some v)
    (h : wpList P ops Q rest (a.put o.dst v) w) : wpList P ops Q (o :: rest) a w := by
  refine wp_of_run hgd ho ?_ h
  have hc : w.cell? ⟨b, i, none⟩ = some v := by rw [(hR.at_ H).c]; simpa using hv
  rw [hx]; simp [Instr.loadAt, Instr.sureAddr, loadVar, hS.isAgg, hc, go_sem]
theorem wpList_loadsc (hgd : Region.wanted o (yielded ops a.tmps) = true) {ty : TypeId} {x : Operand} (ho : o.op = .load ty x) (H : Hp w0 w L) {b i : Nat} (hx : a.eval x = .pointer (some ⟨b, i, none⟩)) {n : Nat} [hS : TyA P ty n] {e : Nat} {cs : List Value} (hR : Rw w0 b e cs.toArray) {vs : List Value} (hv : GetsAt cs i n vs)
    (h : wpList P ops Q rest (a.put o.dst (.agg vs.toArray)) w) : wpList P ops Q (o :: rest) a w := by
  refine wp_of_run hgd ho ?_ h
  have hB := hR.at_ H
  obtain ⟨hn, hv⟩ := hv.eq
  rw [hx]; exact run_cells hS hn fun j v hj => by rw [hB.c]; simpa using hv j v hj
/-- A call of a function value. -/
theorem wp_callv_H {c : Call} {n : FuncId} {y : Operand} {caps : Array Value} (fn : Func) (ho : o.op = .call c) (hc : c.callee = .value y) (hy : a.eval y = .func (.func n) #[] caps) (hf : P.funcs[n]? = some fn) (hb : (fn.name == "runtime.NumGoroutine" || fn.body.isNone) = false) {xs : List Operand} (hx : c.args = xs.toArray) {args : List Value} (ha : xs.map a.eval = args) {R : Value → World → Prop}
    (h : Calls P n (args.toArray ++ caps) w (fun e w' => ∃ v, e = .returned v ∧ R v w')) (hk : ∀ v w', R v w' → K (a.put o.dst v) w') : o.wp P a w K Q := by
  have hb' := hb
  rw [Bool.or_eq_false_iff] at hb'
  obtain ⟨hb1, hb2⟩ := hb'
  have hp : program.run P w = .ok P w := rfl
  have hr : (execOp a.eval o).run P w = .ok (.enter n (args.toArray ++ caps)) w := by
    have ha' : c.args.map a.eval = args.toArray := by rw [hx, ← ha]; simp
    unfold execOp
    simp only [ho, resolve, hc, hy, Deferred.ofValue, Sem.run_bind, Sem.run_pure, Result.andThen_ok, invoke, callFunc, hp, hf, hb1, hb2, Bool.false_eq_true, if_false, Array.append_empty, Array.empty_append, ha']
  unfold Oper.wp
  rw [hr]
  show Calls P n (args.toArray ++ caps) w _
  exact h.mono fun e w' ⟨v, he, hR⟩ => by subst he; exact hk v w' hR
theorem below_H {f : FuncId} {args : Array Value} {α : Type} {val : α → Value} {F : α → World → Prop} (H : Hp w0 w L) (h : Calls P f args w (fun e w' => ∃ d : α, e = .returned (val d) ∧ F d w' ∧ Below w.heap.size w w')) :
    Calls P f args w (fun e w' => ∃ v, e = .returned v ∧ ∃ d : α, v = val d ∧ F d w' ∧ Hp w0 w' L) :=
  h.mono fun _ _ ⟨d, he, hf, hb⟩ => ⟨_, he, d, rfl, hf, H.still hb⟩
end
end Go.Proofs.YthpoieoaaikpmaaGreat

/- Contracts of BareCtl and BareInject, of the program and of the reference. No condition but that the arguments lie in memory. -/
namespace Go.Proofs.YthpoieoaaikpmaaGreat
set_option linter.unusedSimpArgs false
set_option linter.unusedVariables false
open Go.RowKit
section
variable {w0 w : World} {L : List En} {l l1 l2 : List GV} {k : Nat} {y : GV}
theorem Hp.gst_open (hr : l[k]? = some y) (H : Hp w0 w (.many En.gst l :: L)) : ∃ l1 l2, l = l1 ++ y :: l2 ∧ l1.length = k ∧ Hp w0 w (.ins y.prog :: .slot y.written :: .slot y.live :: .int y.seen :: .many En.gst l1 :: .many En.gst l2 :: L) := by
  obtain ⟨l1, l2, h1, h2, H1⟩ := Hp.many_at hr H
  exact ⟨l1, l2, h1, h2, H1.slices⟩
theorem Hp.gst_close {p : Sl Ins} {wr lv : Sl Slot} {sn : Sl Int} (a pc : Int) (ctl : Ctl) (pn : Int) (x : Exit) (hd : Bool) (H : Hp w0 w (.ins p :: .slot wr :: .slot lv :: .int sn :: .many En.gst l1 :: .many En.gst l2 :: L)) : Hp w0 w (.many En.gst (l1 ++ ⟨p, a, pc, wr, lv, ctl, pn, x, hd, sn⟩ :: l2) :: L) :=
  Hp.many_join (f := En.gst) (H.guest a pc ctl pn x hd)
theorem set_app {α : Type} {l l1 l2 : List α} {k : Nat} {y : α} (h : l = l1 ++ y :: l2) (h1 : l1.length = k) (x : α) : l.set k x = l1 ++ x :: l2 := by subst h; subst h1; simp
theorem Hp.gst_scal (hr : l[k]? = some y) (a pc : Int) (ctl : Ctl) (pn : Int) (x : Exit) (hd : Bool) (H : Hp w0 w (.many En.gst l :: L)) : Hp w0 w (.many En.gst (l.set k ⟨y.prog, a, pc, y.written, y.live, ctl, pn, x, hd, y.seen⟩) :: L) := by
  obtain ⟨l1, l2, h1, h2, H1⟩ := Hp.gst_open hr H
  rw [set_app h1 h2]
  exact Hp.gst_close a pc ctl pn x hd H1
end
theorem ch_hit {m : MB} {g : Int} {c : Bool} {F : MG → MG} (h : chOkM m g c = true) : changedM m g c F = withGuestM m g (F (gAtM m g)) := by unfold changedM; rw [if_pos h]
theorem wg_hit {B : BV} {k : Nat} {y : GV} (hy : B.gs.xs[k]? = some y) (F : MG → MG) : withGuestM B.m k (F (gAtM B.m k)) = { B.m with guests := B.m.guests.set k (F y.m) } := by
  unfold withGuestM; rw [if_pos (gAtM_hit hy).2, (gAtM_hit hy).1]; rfl
theorem bare_set {d : BV} {gs : Sl GV} {m : MB} (h : d.m = m) : (⟨d.mem, gs, d.outs, d.pend⟩ : BV).m = { m with guests := gsOf gs } := by rw [← h]; rfl
theorem below_v {P : Program} {f : FuncId} {args : Array Value} {w0 w : World} {L : List En} {v : Value} (H : Hp w0 w L) (h : Calls P f args w (fun e w' => e = .returned v ∧ Below w.heap.size w w')) : Calls P f args w (fun e w' => ∃ u, e = .returned u ∧ (u = v ∧ Hp w0 w' L)) :=
  h.mono fun _ _ ⟨he, hb⟩ => ⟨_, he, rfl, H.still hb⟩
theorem same_v {P : Program} {f : FuncId} {args : Array Value} {w0 w : World} {L : List En} {v : Value} (H : Hp w0 w L) (h : Calls P f args w (fun e w' => e = .returned v ∧ w = w')) : Calls P f args w (fun e w' => ∃ u, e = .returned u ∧ (u = v ∧ Hp w0 w' L)) :=
  h.mono fun _ _ ⟨he, hw⟩ => ⟨_, he, rfl, hw ▸ H⟩
end Go.Proofs.YthpoieoaaikpmaaGreat

/- Contracts of BareInject, BareFlush and BareSet, of the program and of the reference. No condition but that the arguments lie in memory. -/
namespace Go.Proofs.YthpoieoaaikpmaaGreat
set_option linter.unusedSimpArgs false
set_option linter.unusedVariables false
open Go.RowKit
theorem list_set_same {α : Type} {l : List α} {k : Nat} {y : α} (h : l[k]? = some y) : l.set k y = l := by
  apply List.ext_getElem?
  intro i
  by_cases hi : k = i
  · subst hi; rw [List.getElem?_set_self (List.getElem?_eq_some_iff.1 h).1, h]
  · rw [List.getElem?_set_ne hi]
theorem ch_miss {m : MB} {g : Int} {c : Bool} {F : MG → MG} (h : chOkM m g c = false) : changedM m g c F = m := by unfold changedM; rw [h]; rfl
def injC (m : MB) (g n : Int) : Bool := postOkM (gAtM m g).pending n
def injF (m : MB) (g n : Int) : MG → MG := injectG (postM (gAtM m g).pending n)
end Go.Proofs.YthpoieoaaikpmaaGreat

/- Slices of bools: cells, comparisons, marks. No condition but that the arguments lie in memory. -/
namespace Go.Proofs.YthpoieoaaikpmaaGreat
open Go.RowKit
attribute [local go_sem ↓] Go.wp_at_zero Go.wp_at_succ
section
variable {ops : Array Oper} {S : World → Prop} {o : Oper} {a : Act} {α : Type} {enc : α → List Value} {sz e : Nat} {P : Program}
theorem yields_index_nT (hw : Region.wanted o (yielded ops a.tmps) = true) {t : TypeId} {x ix : Operand} (ho : o.op = .indexAddr t x ix) {bytes : Nat} [hE : EI P t enc sz bytes e] (s : Sl α) (hR : ∀ w, S w → Rd enc sz w s) {k m : Nat} (hx : a.eval x = .slice s.A m s.c) (hi : a.eval ix = .int .i64 k)
    (hm : s.xs.length = m) (h1 : k < m) : YieldsIf P ops S o (.pointer (some ⟨ablk s.A, aoff s.A + k * sz, none⟩)) a := by
  subst hm
  refine .inl ⟨hw, fun w hS => ?_⟩
  obtain ⟨i, z, hi', hz, hsize, hby, hzs⟩ := hE.info.hi
  obtain ⟨hA, _⟩ := (hR w hS).addr (k := k) h1
  have hr : (Instr.indexAt t (.slice s.A s.xs.length s.c) (.int .i64 k)).run P w = .ok (.pointer (some ⟨ablk s.A, aoff s.A + k * sz, none⟩)) w := by
    rw [hA]
    simp [Instr.indexAt, asIntOf, run_underlying hE.info.ht, sizeOf, typeInfo, hi', hsize, h1, addj, ablk, aoff, go_sem]
  unfold execOp
  simp only [ho, hx, hi, Sem.run_bind, Sem.run_pure, Result.andThen_ok, hr]
theorem yields_load_rdT (hw : Region.wanted o (yielded ops a.tmps) = true) {ty : TypeId} {x : Operand} (ho : o.op = .load ty x) (s : Sl α) (hR : ∀ w, S w → Rd enc sz w s) {q : Nat} (hx : a.eval x = .pointer (some ⟨ablk s.A, q, none⟩)) [hT : TyS P ty] {k : Nat} (y : α) (hk : s.xs[k]? = some y) {j : Nat} (hq : q = aoff s.A + k * sz + j) {v : Value} (hv : (enc y)[j]? = some v) :
    YieldsIf P ops S o v a := by
  subst hq
  refine .inl ⟨hw, fun w hS => ?_⟩
  have hr : (Instr.loadAt ty (a.eval x)).run P w = .ok v w := by rw [hx]; exact run_load_rd (hR w hS) hT hk hv
  unfold execOp
  simp only [ho, Sem.run_bind, Sem.run_pure, Result.andThen_ok, hr]
end
theorem Hp.sealT {w0 w : World} {x : En} {L : List En} (H : Hp w0 w (x :: L)) : Hp w0 w [x, .all L] :=
  H.equiv (by simp [En.all]) fun h _ y hy => by
    rcases List.mem_cons.1 hy with rfl | hy
    · exact h _ (by simp)
    · rw [List.mem_singleton] at hy; subst hy; exact fun e he => h e (by simp [he])
theorem Hp.unsealT {w0 w : World} {x : En} {L : List En} (H : Hp w0 w [x, .all L]) : Hp w0 w (x :: L) :=
  H.equiv (by simp [En.all]) fun h _ y hy => by
    rcases List.mem_cons.1 hy with rfl | hy
    · exact h _ (by simp)
    · have h2 : (En.all L).ok w := h _ (by simp)
      exact h2 y hy
abbrev bcel (b : Bool) : List Value := [.bool b]
theorem bool_len (b : Bool) : (bcel b).length = 1 := rfl
theorem bool_one (b : Bool) : ∀ u ∈ bcel b, u.oneCell' = true := by
  intro u hu
  simp only [List.mem_cons, List.not_mem_nil, or_false] at hu
  subst hu; rfl
theorem info_boolT : (Tryz.prog.info? 4).map (fun i => (i.zero, i.size, i.bytes)) = some (some (.bool false), 1, 1) := by kernel_rfl
instance eiBools : EI Tryz.prog 37 bcel 1 1 4 := ⟨⟨Tryz.underlying37, by obtain ⟨i, h1, h2, h3, h4⟩ := info_parts info_boolT; exact ⟨i, _, h1, h2, h3, h4, rfl⟩, by decide, bool_len, bool_one⟩⟩
abbrev En.bools (s : Sl Bool) : En := En.sl bcel 1 4 s
theorem take_eqF {α : Type} {xs ys : List α} {k : Nat} (h : xs.take k = ys.take k) {x y : α} (hx : xs[k]? = some x) (hy : ys[k]? = some y) (hxy : x = y) : xs.take (k + 1) = ys.take (k + 1) := by
  rw [List.take_add_one, List.take_add_one, h, hx, hy, hxy]
theorem list_neF {α : Type} [BEq α] [LawfulBEq α] {xs ys : List α} {k : Nat} {x y : α} (hx : xs[k]? = some x) (hy : ys[k]? = some y) (hxy : x ≠ y) : false = (xs == ys) := by
  symm
  rw [beq_eq_false_iff_ne]
  rintro rfl
  rw [hx] at hy; injection hy with hy; exact hxy hy
def mixB (k0 : Int) (xs : List Bool) (i : Nat) : List Bool := (List.range xs.length).map fun j => if j < i then (k0 + j) % 3 == 0 else xs.getD j false
abbrev marksB (k0 : Int) (n : Nat) : List Bool := (List.range n).map fun (j : Nat) => (k0 + j) % 3 == 0
theorem mixB_len (k0 : Int) (xs : List Bool) (i : Nat) : (mixB k0 xs i).length = xs.length := by simp [mixB]
theorem mixB_0 (k0 : Int) (xs : List Bool) : mixB k0 xs 0 = xs := by
  apply List.ext_getElem
  · simp [mixB]
  · intro j h1 h2
    simp [mixB, List.getD_eq_getElem?_getD, h2]
theorem mixB_all (k0 : Int) (xs : List Bool) : mixB k0 xs xs.length = marksB k0 xs.length := by
  unfold mixB marksB
  apply List.map_congr_left
  intro j hj
  rw [if_pos (List.mem_range.1 hj)]
theorem mixB_set (k0 : Int) (xs : List Bool) (i : Nat) (_ : i < xs.length) : (mixB k0 xs i).set i ((k0 + i) % 3 == 0) = mixB k0 xs (i + 1) := by
  apply List.ext_getElem
  · simp [mixB]
  · intro j h1 h2
    rw [List.getElem_set]
    simp only [mixB, List.getElem_map, List.getElem_range]
    by_cases hj : i = j
    · subst hj; simp
    · rw [if_neg hj]
      by_cases h3 : j < i
      · rw [if_pos h3, if_pos (by omega)]
      · rw [if_neg h3, if_neg (by omega)]
set_option linter.unusedSimpArgs false in
set_option linter.unusedVariables false in
set_option maxRecDepth 100000 in
set_option maxHeartbeats 4000000 in
theorem eqBoolS_c (s t : Sl Bool) (W0 : World) (Rs : Rd bcel 1 W0 s) (Rt : Rd bcel 1 W0 t) (Z : s.xs.length ≤ 4194304) : Calls Tryz.prog 15 #[.slice s.A s.xs.length s.c, .slice t.A t.xs.length t.c] W0 fun e w' => e = .returned (.bool (s.xs == t.xs)) ∧ Hp W0 w' [] := by
  have H := Hp.start W0
  by_cases hl : s.xs.length = t.xs.length
  · have l1 : (s.xs.length == t.xs.length) = true := beq_iff_eq.2 hl
    have l2 : (s.xs.length != t.xs.length) = false := by simp [hl]
    have l3 : ((s.xs.length : Int) == (t.xs.length : Int)) = true := by simp [hl]
    have l4 : ((s.xs.length : Int) != (t.xs.length : Int)) = false := by simp [hl]
    have HL := Lib.hid hl; clear hl
    go_enter Tryz.func15, Tryz.ntmps15
    go_wp2
    clear l1 l2 l3 l4
    go_loopw [5] (fun i wr => ∃ k : Nat, k ≤ s.xs.length ∧ i = .int .i64 k ∧ Hid (s.xs.take k = t.xs.take k) ∧ Hp W0 wr []) (fun i _ => s.xs.length - (intOf i).toNat)
    case atStart => exact ⟨0, by omega, rfl, Lib.hid (by simp), H⟩
    case round =>
      clear H
      obtain ⟨k, hk, rfl, HT, H⟩ := hrel
      by_cases hk0 : k < s.xs.length
      · have hk1 : k < t.xs.length := by rw [← HL.out]; exact hk0
        obtain ⟨x, hx0⟩ : ∃ x, s.xs[k]? = some x := ⟨_, List.getElem?_eq_getElem hk0⟩
        have HX := Lib.hid hx0; clear hx0
        obtain ⟨y, hy0⟩ : ∃ y, t.xs[k]? = some y := ⟨_, List.getElem?_eq_getElem hk1⟩
        have HY := Lib.hid hy0; clear hy0
        cases e1 : (x != y)
        · skip
          go_wp2_with (first
            | go_skip
            | ((with_reducible refine at_box ?_); first | (refine wpList_box_H rfl rfl H rfl (by first | exact CellsOf.agg | exact CellsOf.int | exact CellsOf.bool | exact CellsOf.slice | exact CellsOf.string | exact CellsOf.pointer | exact CellsOf.func) ?_; clear H; intro b w H))
            | ((with_reducible refine at_alloc ?_); first | (refine wpList_alloc_H rfl rfl H ?_; clear H; intro b w H))
            | ((with_reducible refine at_load ?_); first | (refine wpList_load_H rfl rfl H rfl (by repeat (first | exact LoadAt.here rfl | apply LoadAt.there)) ?_) | (refine wpList_loads_H rfl rfl H rfl (by repeat (first | (apply LoadsAt.here; repeat (first | exact GetsAt.nil | apply GetsAt.here | apply GetsAt.there)) | apply LoadsAt.there)) ?_))
            | ((with_reducible refine at_store ?_); first | (refine wpList_store_H rfl rfl H rfl rfl (by repeat (first | (apply StoreAt.here; (first | exact CellsOf.agg | exact CellsOf.int | exact CellsOf.bool | exact CellsOf.slice | exact CellsOf.string | exact CellsOf.pointer | exact CellsOf.func); (repeat (first | exact SetsAt.nil | apply SetsAt.here | apply SetsAt.there)); exact rfl; exact rfl) | apply StoreAt.there)) ?_; clear H; intro w H)))
          refine wp_cut (fun u a' w' => ∃ (_ : Unit), Hp W0 w' [] ∧ a' = puts u [(17, (.slice s.A s.xs.length s.c)), (18, (.int .i64 k)), (19, (.pointer (some ⟨ablk s.A, aoff s.A + k * 1, none⟩))), (20, (.bool x)), (21, (.slice t.A t.xs.length t.c)), (22, (.int .i64 k)), (23, (.pointer (some ⟨ablk t.A, aoff t.A + k * 1, none⟩))), (24, (.bool y)), (25, (.bool false))]) ?_ ?_
          · refine wp_region_held (S := (fun w' => Rd bcel 1 w' s ∧ Rd bcel 1 w' t)) (by kernel_rfl) ?_
            replace H := H.drew
            refine takeH (i := 0) rfl .here (by kernel_rfl) (by kernel_rfl) (by kernel_rfl) (fun _ _ _ h => absurd h.1 (by simp)) (yields_val (v := (.slice s.A s.xs.length s.c)) rfl (fun _ => by go_simp)) ⟨Rs.at_ H, Rt.at_ H⟩ ?_
            (try simp only [Act.put, List.setIfInBounds_toArray, List.set_cons_succ, List.set_cons_zero])
            refine takeH (i := 1) rfl (.there .here) (by kernel_rfl) (by kernel_rfl) (by kernel_rfl) (fun _ _ _ h => absurd h.1 (by simp)) (yields_val (v := (.int .i64 k)) rfl (fun _ => by go_simp)) ⟨Rs.at_ H, Rt.at_ H⟩ ?_
            (try simp only [Act.put, List.setIfInBounds_toArray, List.set_cons_succ, List.set_cons_zero])
            refine takeH (i := 2) rfl (.there (.there .here)) (by kernel_rfl) (by kernel_rfl) (by kernel_rfl) (fun _ _ _ h => absurd h.1 (by simp)) (yields_index_nT rfl rfl (k := k) s (fun _ hS => hS.1) rfl rfl rfl hk0) ⟨Rs.at_ H, Rt.at_ H⟩ ?_
            (try simp only [Act.put, List.setIfInBounds_toArray, List.set_cons_succ, List.set_cons_zero])
            refine takeH (i := 3) rfl (.there (.there (.there .here))) (by kernel_rfl) (by kernel_rfl) (by kernel_rfl) (fun _ _ _ h => absurd h.1 (by simp)) (yields_load_rdT rfl rfl s (fun _ hS => hS.1) rfl x HX.out (by first | exact rfl | exact (Nat.add_zero _).symm) rfl) ⟨Rs.at_ H, Rt.at_ H⟩ ?_
            (try simp only [Act.put, List.setIfInBounds_toArray, List.set_cons_succ, List.set_cons_zero])
            refine takeH (i := 4) rfl (.there (.there (.there (.there .here)))) (by kernel_rfl) (by kernel_rfl) (by kernel_rfl) (fun _ _ _ h => absurd h.1 (by simp)) (yields_val (v := (.slice t.A t.xs.length t.c)) rfl (fun _ => by go_simp)) ⟨Rs.at_ H, Rt.at_ H⟩ ?_
            (try simp only [Act.put, List.setIfInBounds_toArray, List.set_cons_succ, List.set_cons_zero])
            refine takeH (i := 5) rfl (.there (.there (.there (.there (.there .here))))) (by kernel_rfl) (by kernel_rfl) (by kernel_rfl) (fun _ _ _ h => absurd h.1 (by simp)) (yields_val (v := (.int .i64 k)) rfl (fun _ => by go_simp)) ⟨Rs.at_ H, Rt.at_ H⟩ ?_
            (try simp only [Act.put, List.setIfInBounds_toArray, List.set_cons_succ, List.set_cons_zero])
            refine takeH (i := 6) rfl (.there (.there (.there (.there (.there (.there .here)))))) (by kernel_rfl) (by kernel_rfl) (by kernel_rfl) (fun _ _ _ h => absurd h.1 (by simp)) (yields_index_nT rfl rfl (k := k) t (fun _ hS => hS.2) rfl rfl rfl hk1) ⟨Rs.at_ H, Rt.at_ H⟩ ?_
            (try simp only [Act.put, List.setIfInBounds_toArray, List.set_cons_succ, List.set_cons_zero])
            refine takeH (i := 7) rfl (.there (.there (.there (.there (.there (.there (.there .here))))))) (by kernel_rfl) (by kernel_rfl) (by kernel_rfl) (fun _ _ _ h => absurd h.1 (by simp)) (yields_load_rdT rfl rfl t (fun _ hS => hS.2) rfl y HY.out (by first | exact rfl | exact (Nat.add_zero _).symm) rfl) ⟨Rs.at_ H, Rt.at_ H⟩ ?_
            (try simp only [Act.put, List.setIfInBounds_toArray, List.set_cons_succ, List.set_cons_zero])
            refine takeH (i := 8) rfl (.there (.there (.there (.there (.there (.there (.there (.there .here)))))))) (by kernel_rfl) (by kernel_rfl) (by kernel_rfl) (fun _ _ _ h => absurd h.1 (by simp)) (yields_val (v := (.bool false)) rfl (fun _ => by (first | (go_simp; done) | (go_simp; rw [e1]) | (rw [← e1]; go_simp; done) | (go_simp; omega) | (go_simp; simpa using e1)))) ⟨Rs.at_ H, Rt.at_ H⟩ ?_
            (try simp only [Act.put, List.setIfInBounds_toArray, List.set_cons_succ, List.set_cons_zero])
            refine wpAnyH_done (by kernel_rfl) ?_ _
            exact ⟨rfl, (), H.pick .nil, by first | (simp only [puts_cons, puts_nil, Act.put, List.setIfInBounds_toArray, List.set_cons_succ, List.set_cons_zero]; done) | (simp only [puts_cons, puts_nil, Act.put, List.setIfInBounds_toArray, List.set_cons_succ, List.set_cons_zero]; rfl)⟩
          clear H
          rintro u w ⟨_, H, rfl⟩
          simp only [puts_cons, puts_nil, Act.put, List.setIfInBounds_toArray, List.set_cons_succ, List.set_cons_zero]
          go_wp2
          go_roundw
          case rel => exact ⟨k + 1, by omega, by go_num, Lib.hid (take_eqF HT.out HX.out HY.out (bne_eq_false_iff_eq.1 e1)), H.pick .nil⟩
          case measure => simp [intOf]; omega
        · skip
          go_wp2_with (first
            | go_skip
            | ((with_reducible refine at_box ?_); first | (refine wpList_box_H rfl rfl H rfl (by first | exact CellsOf.agg | exact CellsOf.int | exact CellsOf.bool | exact CellsOf.slice | exact CellsOf.string | exact CellsOf.pointer | exact CellsOf.func) ?_; clear H; intro b w H))
            | ((with_reducible refine at_alloc ?_); first | (refine wpList_alloc_H rfl rfl H ?_; clear H; intro b w H))
            | ((with_reducible refine at_load ?_); first | (refine wpList_load_H rfl rfl H rfl (by repeat (first | exact LoadAt.here rfl | apply LoadAt.there)) ?_) | (refine wpList_loads_H rfl rfl H rfl (by repeat (first | (apply LoadsAt.here; repeat (first | exact GetsAt.nil | apply GetsAt.here | apply GetsAt.there)) | apply LoadsAt.there)) ?_))
            | ((with_reducible refine at_store ?_); first | (refine wpList_store_H rfl rfl H rfl rfl (by repeat (first | (apply StoreAt.here; (first | exact CellsOf.agg | exact CellsOf.int | exact CellsOf.bool | exact CellsOf.slice | exact CellsOf.string | exact CellsOf.pointer | exact CellsOf.func); (repeat (first | exact SetsAt.nil | apply SetsAt.here | apply SetsAt.there)); exact rfl; exact rfl) | apply StoreAt.there)) ?_; clear H; intro w H)))
          refine wp_cut (fun u a' w' => ∃ (_ : Unit), Hp W0 w' [] ∧ a' = puts u [(17, (.slice s.A s.xs.length s.c)), (18, (.int .i64 k)), (19, (.pointer (some ⟨ablk s.A, aoff s.A + k * 1, none⟩))), (20, (.bool x)), (21, (.slice t.A t.xs.length t.c)), (22, (.int .i64 k)), (23, (.pointer (some ⟨ablk t.A, aoff t.A + k * 1, none⟩))), (24, (.bool y)), (25, (.bool true))]) ?_ ?_
          · refine wp_region_held (S := (fun w' => Rd bcel 1 w' s ∧ Rd bcel 1 w' t)) (by kernel_rfl) ?_
            replace H := H.drew
            refine takeH (i := 0) rfl .here (by kernel_rfl) (by kernel_rfl) (by kernel_rfl) (fun _ _ _ h => absurd h.1 (by simp)) (yields_val (v := (.slice s.A s.xs.length s.c)) rfl (fun _ => by go_simp)) ⟨Rs.at_ H, Rt.at_ H⟩ ?_
            (try simp only [Act.put, List.setIfInBounds_toArray, List.set_cons_succ, List.set_cons_zero])
            refine takeH (i := 1) rfl (.there .here) (by kernel_rfl) (by kernel_rfl) (by kernel_rfl) (fun _ _ _ h => absurd h.1 (by simp)) (yields_val (v := (.int .i64 k)) rfl (fun _ => by go_simp)) ⟨Rs.at_ H, Rt.at_ H⟩ ?_
            (try simp only [Act.put, List.setIfInBounds_toArray, List.set_cons_succ, List.set_cons_zero])
            refine takeH (i := 2) rfl (.there (.there .here)) (by kernel_rfl) (by kernel_rfl) (by kernel_rfl) (fun _ _ _ h => absurd h.1 (by simp)) (yields_index_nT rfl rfl (k := k) s (fun _ hS => hS.1) rfl rfl rfl hk0) ⟨Rs.at_ H, Rt.at_ H⟩ ?_
            (try simp only [Act.put, List.setIfInBounds_toArray, List.set_cons_succ, List.set_cons_zero])
            refine takeH (i := 3) rfl (.there (.there (.there .here))) (by kernel_rfl) (by kernel_rfl) (by kernel_rfl) (fun _ _ _ h => absurd h.1 (by simp)) (yields_load_rdT rfl rfl s (fun _ hS => hS.1) rfl x HX.out (by first | exact rfl | exact (Nat.add_zero _).symm) rfl) ⟨Rs.at_ H, Rt.at_ H⟩ ?_
            (try simp only [Act.put, List.setIfInBounds_toArray, List.set_cons_succ, List.set_cons_zero])
            refine takeH (i := 4) rfl (.there (.there (.there (.there .here)))) (by kernel_rfl) (by kernel_rfl) (by kernel_rfl) (fun _ _ _ h => absurd h.1 (by simp)) (yields_val (v := (.slice t.A t.xs.length t.c)) rfl (fun _ => by go_simp)) ⟨Rs.at_ H, Rt.at_ H⟩ ?_
            (try simp only [Act.put, List.setIfInBounds_toArray, List.set_cons_succ, List.set_cons_zero])
            refine takeH (i := 5) rfl (.there (.there (.there (.there (.there .here))))) (by kernel_rfl) (by kernel_rfl) (by kernel_rfl) (fun _ _ _ h => absurd h.1 (by simp)) (yields_val (v := (.int .i64 k)) rfl (fun _ => by go_simp)) ⟨Rs.at_ H, Rt.at_ H⟩ ?_
            (try simp only [Act.put, List.setIfInBounds_toArray, List.set_cons_succ, List.set_cons_zero])
            refine takeH (i := 6) rfl (.there (.there (.there (.there (.there (.there .here)))))) (by kernel_rfl) (by kernel_rfl) (by kernel_rfl) (fun _ _ _ h => absurd h.1 (by simp)) (yields_index_nT rfl rfl (k := k) t (fun _ hS => hS.2) rfl rfl rfl hk1) ⟨Rs.at_ H, Rt.at_ H⟩ ?_
            (try simp only [Act.put, List.setIfInBounds_toArray, List.set_cons_succ, List.set_cons_zero])
            refine takeH (i := 7) rfl (.there (.there (.there (.there (.there (.there (.there .here))))))) (by kernel_rfl) (by kernel_rfl) (by kernel_rfl) (fun _ _ _ h => absurd h.1 (by simp)) (yields_load_rdT rfl rfl t (fun _ hS => hS.2) rfl y HY.out (by first | exact rfl | exact (Nat.add_zero _).symm) rfl) ⟨Rs.at_ H, Rt.at_ H⟩ ?_
            (try simp only [Act.put, List.setIfInBounds_toArray, List.set_cons_succ, List.set_cons_zero])
            refine takeH (i := 8) rfl (.there (.there (.there (.there (.there (.there (.there (.there .here)))))))) (by kernel_rfl) (by kernel_rfl) (by kernel_rfl) (fun _ _ _ h => absurd h.1 (by simp)) (yields_val (v := (.bool true)) rfl (fun _ => by (first | (go_simp; done) | (go_simp; rw [e1]) | (rw [← e1]; go_simp; done) | (go_simp; omega) | (go_simp; simpa using e1)))) ⟨Rs.at_ H, Rt.at_ H⟩ ?_
            (try simp only [Act.put, List.setIfInBounds_toArray, List.set_cons_succ, List.set_cons_zero])
            refine wpAnyH_done (by kernel_rfl) ?_ _
            exact ⟨rfl, (), H.pick .nil, by first | (simp only [puts_cons, puts_nil, Act.put, List.setIfInBounds_toArray, List.set_cons_succ, List.set_cons_zero]; done) | (simp only [puts_cons, puts_nil, Act.put, List.setIfInBounds_toArray, List.set_cons_succ, List.set_cons_zero]; rfl)⟩
          clear H
          rintro u w ⟨_, H, rfl⟩
          simp only [puts_cons, puts_nil, Act.put, List.setIfInBounds_toArray, List.set_cons_succ, List.set_cons_zero]
          go_wp2
          go_ret
          exact ⟨ret_bool (list_neF HX.out HY.out (bne_iff_ne.1 e1)), H.pick .nil⟩
      · have hke : k = s.xs.length := by omega
        subst hke
        have hn0 : t.xs.length ≤ s.xs.length := by rw [HL.out]; exact Nat.le_refl _
        go_wp2
        go_ret
        refine ⟨ret_bool ?_, H⟩
        have h := HT.out
        rw [List.take_length, HL.out, List.take_length] at h
        simp [h]
  · have l1 : (s.xs.length == t.xs.length) = false := by simp [hl]
    have l2 : (s.xs.length != t.xs.length) = true := by simp [hl]
    have l3 : ((s.xs.length : Int) == (t.xs.length : Int)) = false := by simp; omega
    have l4 : ((s.xs.length : Int) != (t.xs.length : Int)) = true := by simp; omega
    go_enter Tryz.func15, Tryz.ntmps15
    go_wp2
    go_ret
    refine ⟨ret_bool ?_, H⟩
    symm
    rw [beq_eq_false_iff_ne]
    intro h
    exact hl (by rw [h])
set_option linter.unusedSimpArgs false in
set_option linter.unusedVariables false in
set_option maxRecDepth 100000 in
set_option maxHeartbeats 4000000 in
theorem markBoolS_H (s : Sl Bool) (k0 : Int) (h0 : 0 ≤ k0) (h1 : k0 ≤ 1000000000000) {w0 W0 : World} {L L' : List En} (H : Hp w0 W0 L) (t : Take L (.bools s) L') (Z : s.xs.length ≤ 4194304) : Calls Tryz.prog 18 #[.slice s.A s.xs.length s.c, .int .i64 k0] W0 fun e w' => e = .returned (.int .i64 (k0 + 1 * (s.xs.length : Int))) ∧ Hp w0 w' (.bools ⟨s.A, s.c, marksB k0 s.xs.length⟩ :: L') := by
  replace H := (H.take t).sealT
  clear t
  have e0 : (⟨s.A, s.c, mixB k0 s.xs 0⟩ : Sl Bool) = s := by rw [mixB_0]
  rw [← e0] at H
  clear e0
  go_enter Tryz.func18, Tryz.ntmps18
  go_wp2
  go_loopw [1, 5] (fun kv i' wr => ∃ i : Nat, i ≤ s.xs.length ∧ i' = .int .i64 i ∧ kv = .int .i64 (k0 + i) ∧ Hp w0 wr [.bools ⟨s.A, s.c, mixB k0 s.xs i⟩, .all L']) (fun _ i _ => s.xs.length - (intOf i).toNat)
  case atStart => exact ⟨0, by omega, rfl, by simp, H⟩
  case round =>
    clear H
    obtain ⟨i, hi, rfl, rfl, H⟩ := hrel
    by_cases hk : i < s.xs.length
    · skip
      go_wp2_with (first
        | go_skip
        | ((with_reducible refine at_store ?_); first | (refine wpList_store_el (enc := bcel) (sz := 1) rfl rfl H ⟨s.A, s.c, mixB k0 s.xs i⟩ (by repeat (first | exact Take.head | apply Take.tail)) bool_len rfl rfl ((mixB k0 s.xs i)[i]'(by rw [mixB_len]; exact hk)) ((k0 + i) % 3 == 0) (List.getElem?_eq_getElem _) (by first | exact CellsOf.agg | exact CellsOf.int | exact CellsOf.bool | exact CellsOf.slice | exact CellsOf.string | exact CellsOf.pointer | exact CellsOf.func) (by repeat (first | exact SetsAt.nil | apply SetsAt.here | apply SetsAt.there)) (by first | exact rfl | simp) (by exact rfl) (by exact rfl) ?_; clear H; intro w H))
        | ((with_reducible refine at_index ?_); first | (refine wpList_index_n rfl rfl (k := i) ⟨s.A, s.c, mixB k0 s.xs i⟩ (H.rd (s := ⟨s.A, s.c, mixB k0 s.xs i⟩) (by repeat (first | exact Take.head | apply Take.tail)) bool_len) rfl rfl (by show (mixB k0 s.xs i).length = _; rw [mixB_len]) hk ?_)))
      rw [mixB_set _ _ _ hk] at H
      go_roundw
      case rel => exact ⟨i + 1, by omega, by go_num, by go_num, H⟩
      case measure => simp [intOf]; omega
    · have hke : i = s.xs.length := by omega
      subst hke
      go_wp2
      go_ret
      rw [mixB_all] at H
      exact ⟨ret_int (by omega), H.unsealT⟩
set_option linter.unusedSimpArgs false in
set_option linter.unusedVariables false in
set_option maxRecDepth 100000 in
set_option maxHeartbeats 4000000 in
theorem heldBoolS_H (s : Sl Bool) (k0 : Int) (h0 : 0 ≤ k0) (h1 : k0 ≤ 1000000000000) {w0 W0 : World} {L L' : List En} (H : Hp w0 W0 L) (t : Take L (.bools s) L') (hm : s.xs = marksB k0 s.xs.length) (Z : s.xs.length ≤ 4194304) : Calls Tryz.prog 19 #[.slice s.A s.xs.length s.c, .int .i64 k0] W0 fun e w' => e = .returned (.int .i64 (k0 + 1 * (s.xs.length : Int))) ∧ Hp w0 w' (.bools s :: L') := by
  replace H := (H.take t).sealT
  clear t
  have HM := Lib.hid hm
  clear hm
  go_enter Tryz.func19, Tryz.ntmps19
  go_wp2
  go_loopw [1, 5] (fun kv i' wr => ∃ i : Nat, i ≤ s.xs.length ∧ i' = .int .i64 i ∧ kv = .int .i64 (k0 + i) ∧ Hp w0 wr [.bools s, .all L']) (fun _ i _ => s.xs.length - (intOf i).toNat)
  case atStart => exact ⟨0, by omega, rfl, by simp, H⟩
  case round =>
    clear H
    obtain ⟨i, hi, rfl, rfl, H⟩ := hrel
    by_cases hk : i < s.xs.length
    · have hv : s.xs[i]? = some ((k0 + i) % 3 == 0) := by rw [HM.out]; simp [marksB, hk]
      have HV := Lib.hid hv; clear hv
      go_wp2_with (first
        | go_skip
        | ((with_reducible refine at_load ?_); first | (refine wpList_load_rd rfl rfl s (H.rd (s := s) (by repeat (first | exact Take.head | apply Take.tail)) bool_len) rfl ((k0 + i) % 3 == 0) HV.out rfl ?_))
        | ((with_reducible refine at_index ?_); first | (refine wpList_index_n rfl rfl (k := i) s (H.rd (s := s) (by repeat (first | exact Take.head | apply Take.tail)) bool_len) rfl rfl rfl hk ?_)))
      go_roundw
      case rel => exact ⟨i + 1, by omega, by go_num, by go_num, H⟩
      case measure => simp [intOf]; omega
    · have hke : i = s.xs.length := by omega
      subst hke
      go_wp2
      go_ret
      exact ⟨ret_int (by omega), H.unsealT⟩
end Go.Proofs.YthpoieoaaikpmaaGreat
