/- Contracts of the law's own helpers on guests: mark and held. -/
import Derived.Test.YtjiiobliadeldaaLGe
import Derived.Test.YtjiiobliadeldaaGWant
import Derived.Deep.RegionHeld3
import Derived.Deep.DrawnRows
import Derived.WalkSpells
import Derived.Test.YtjiiobliadeldaaMk
import Derived.Test.YtjiiobliadeldaaDr
import Derived.Test.YtjiiobliadeldaaOk
namespace Go.Proofs.Ytjiiobliadeldaa
open Go.RowKit
/-- The guest whose lists markGuest has written over, from k on. -/
def GV.marked (g : GV) (k : Int) : GV := { g with
  prog := ⟨g.prog.A, g.prog.c, marksIns k g.prog.xs.length⟩
  written := ⟨g.written.A, g.written.c, marksSlot (k + 2 * g.prog.xs.length) g.written.xs.length⟩
  live := ⟨g.live.A, g.live.c, marksSlot (k + 2 * g.prog.xs.length + 2 * g.written.xs.length) g.live.xs.length⟩
  seen := ⟨g.seen.A, g.seen.c, marksInt (k + 2 * g.prog.xs.length + 2 * g.written.xs.length + 2 * g.live.xs.length) g.seen.xs.length⟩ }
def GV.markEnd (g : GV) (k : Int) : Int := k + 2 * g.prog.xs.length + 2 * g.written.xs.length + 2 * g.live.xs.length + 1 * g.seen.xs.length
theorem GV.marked_blks (g : GV) (k : Int) : (g.marked k).blks = g.blks := rfl
theorem GOwn.apart {w : World} {lo : Nat} {g : GV} (h : GOwn w lo g) : (∀ x, g.prog.blk = some x → ∀ y, g.written.blk = some y → x ≠ y) ∧ (∀ x, g.prog.blk = some x → ∀ y, g.live.blk = some y → x ≠ y) ∧ (∀ x, g.prog.blk = some x → ∀ y, g.seen.blk = some y → x ≠ y) ∧
    (∀ x, g.written.blk = some x → ∀ y, g.live.blk = some y → x ≠ y) ∧ (∀ x, g.written.blk = some x → ∀ y, g.seen.blk = some y → x ≠ y) ∧ (∀ x, g.live.blk = some x → ∀ y, g.seen.blk = some y → x ≠ y) := by
  have h := h.nd
  unfold GV.blks at h
  simp only [List.nodup_append, List.mem_append, Option.mem_toList] at h
  obtain ⟨⟨⟨_, _, h1⟩, _, h2⟩, _, h3⟩ := h
  exact ⟨fun x hx y hy => h1 x hx y hy, fun x hx y hy => h2 x (.inl hx) y hy, fun x hx y hy => h3 x (.inl (.inl hx)) y hy, fun x hx y hy => h2 x (.inr hx) y hy, fun x hx y hy => h3 x (.inl (.inr hx)) y hy, fun x hx y hy => h3 x (.inr hx) y hy⟩
theorem notin_lo {w : World} {lo b : Nat} {g : GV} (h : GOwn w lo g) (hb : b < lo) : b ∉ g.blks := fun hm => by have := (h.blk_lt hm).1; omega
theorem notin_hi {w : World} {lo : Nat} {g : GV} (h : GOwn w lo g) : w.heap.size ∉ g.blks := fun hm => by have := (h.blk_lt hm).2; omega
theorem notin_blk {α : Type} {s : Sl α} {g : Nat} (h : ∀ y, s.blk = some y → g ≠ y) : g ∉ s.blk.toList := fun hm => h g (by simpa using hm) rfl
end Go.Proofs.Ytjiiobliadeldaa

/- Laws over a guest whose functions give back a bool or an integer. -/
namespace Go.Proofs.Ytjiiobliadeldaa
open Go.RowKit
attribute [local go_sem ↓] Go.wp_at_zero Go.wp_at_succ
theorem gbig_of {g d : GV} (h : GBig g) (e : d.m = g.m) : GBig d := by
  simp only [GV.m, MG.mk.injEq] at e
  unfold GBig at *
  rw [e.1, e.2.2.2.1, e.2.2.2.2.1, e.2.2.2.2.2.2.2.2.2]
  exact h

end Go.Proofs.Ytjiiobliadeldaa

/- The law's own helpers on guests, said over the memory that the law has made; and the walks of the exact laws whose functions hand back a guest. No condition but that the arguments lie in memory. -/
namespace Go.Proofs.Ytjiiobliadeldaa
open Go.RowKit
attribute [local go_sem ↓] Go.wp_at_zero Go.wp_at_succ
theorem gbig_m {g d : GV} (h : GBig g) (e : Hid (d.m = g.m)) : GBig d := gbig_of h e.out
theorem gbig_mm {d : GV} {m : MG} (h : MBig m) (e : Hid (d.m = m)) : GBig d := by have := e.out; unfold GBig; subst this; exact h
section
variable {w0 w : World} {L L' : List En}
theorem Hp.cells (H : Hp w0 w L) {b : Nat} {e : TypeId} {cs : List Value} (t : Take L (.box b e cs) L') : ∀ o, w.cell? ⟨b, o, none⟩ = cs.toArray[o]? := by
  have h : Rw w b e cs.toArray := H.get t
  exact fun o => h.c o
theorem step_store_H {P : Program} {ops : Array Oper} {o : Oper} {a : Act} {Q : Go.Exit → Act → World → Prop} {E : Prop} (hgd : Region.wanted o (yielded ops a.tmps) = true) {ty : TypeId} {x y : Operand} (ho : o.op = .store ty x y) (H : Hp w0 w L) {b i : Nat} (hx : a.eval x = .pointer (some ⟨b, i, none⟩)) {v : Value} (hy : a.eval y = v) {n : Nat} [hN : TyN P ty n] (hS : StoreAt L b i v n L')
    {K : Act → World → Prop} (h : ∀ w', Hp w0 w' L' → K (a.put o.dst undef) w') : if Region.wanted o (yielded ops a.tmps) = true then Oper.wp P o a w K Q else E := by
  rw [if_pos hgd]; exact wp_store_H ho H hx hy hS h
theorem mkG_H {f : FuncId} {args : Array Value} {m : MG} (H : Hp w0 w L) (h : Calls Try.prog f args w (MkG w m)) : Calls Try.prog f args w fun e w' => ∃ d : GV, e = .returned d.val ∧ Hid (d.m = m) ∧ Hp w0 w' (.gst d :: L) :=
  h.mono fun _ _ h => by obtain ⟨d, he, hm, ho, hb⟩ := MkGc.val h; exact ⟨d, he, hm, H.add_gst ho hb⟩
theorem Hp.swap {e e' : En} (H : Hp w0 w L) {w' : World} (t : Take L e L') (hT : Touch e.bl w w') (hok : e'.ok w') (hbl : e'.bl = e.bl) : Hp w0 w' (e' :: L') :=
  (H.take t).turn hT hok (fun b hb => .inl (by rw [← hbl]; exact hb)) (by
    rw [hbl]
    have nd := (H.take t).nd
    rw [List.flatMap_cons, List.nodup_append] at nd
    exact nd.1)
theorem marked_val (g : GV) : (g.marked 1).val = g.val := by simp [GV.val, GV.marked, marksIns_len, marksSlot_len, marksInt_len]
theorem marked_end (g : GV) : (g.marked 1).markEnd 1 = g.markEnd 1 := by simp [GV.markEnd, GV.marked, marksIns_len, marksSlot_len, marksInt_len]
theorem markEnd_pos (g : GV) : 0 ≤ g.markEnd 1 := by unfold GV.markEnd; omega
end
end Go.Proofs.Ytjiiobliadeldaa

/- The laws' own makers and sizes on slices of slices, of guests, and on bare machines. No condition but that the argument lies in memory. -/
namespace Go.Proofs.Ytjiiobliadeldaa
set_option linter.unusedSimpArgs false
set_option linter.unusedVariables false
open Go.RowKit
abbrev En.irows (s : Sl (Sl Ins)) : En := En.sl hcells 1 35 s
theorem Hp.rdirows {w0 w : World} {L L' : List En} (H : Hp w0 w L) {s : Sl (Sl Ins)} (t : Take L (.irows s) L') : Rd hcells 1 w s := H.rd t h_len
theorem set_fill {α : Type} {ds : List α} {k n : Nat} {z d : α} (h : ds.length = k) (hk : k < n) : (ds ++ List.replicate (n - k) z).set k d = (ds ++ [d]) ++ List.replicate (n - (k + 1)) z := by
  subst h
  rw [show n - ds.length = (n - (ds.length + 1)) + 1 by omega, List.replicate_succ]
  simp
theorem get_fill {α : Type} {ds : List α} {k n : Nat} {z : α} (h : ds.length = k) (hk : k < n) : (ds ++ List.replicate (n - k) z)[k]? = some z := by
  subst h
  rw [List.getElem?_append_right (Nat.le_refl _), Nat.sub_self, show n - ds.length = (n - (ds.length + 1)) + 1 by omega, List.replicate_succ]; rfl
theorem map_snoc {α β : Type} {f : α → β} {ds xs : List α} {k : Nat} {d y : α} (h : ds.map f = (xs.take k).map f) (hy : xs[k]? = some y) (hd : f d = f y) : (ds ++ [d]).map f = (xs.take (k + 1)).map f := by
  rw [List.take_add_one, List.map_append, List.map_append, h, hy]; simp [hd]
end Go.Proofs.Ytjiiobliadeldaa

/- Contracts of the functions that compare two lists, of the program (slices.Equal, SameProg, SameTable) and of the reference. No condition but that the arguments lie in memory. -/
namespace Go.Proofs.Ytjiiobliadeldaa
open Go.RowKit
section
variable {P : Program} {o : Oper} {a : Act} {w0 : World} {L : List En} {C : World → Prop} {K : Act → Prop}
theorem quiet_index_nat (hC : ∀ w, C w → Hp w0 w L) {t : TypeId} {x ix : Operand} (ho : o.op = .indexAddr t x ix) {α : Type} {enc : α → List Value} {sz bytes e : Nat} [hE : EI P t enc sz bytes e] (s : Sl α) (hs : Rd enc sz w0 s) {k : Nat} (hx : a.eval x = .slice s.A s.xs.length s.c) (hi : a.eval ix = .int .i64 k)
    (h1 : k < s.xs.length) (h : K (a.put o.dst (.pointer (some ⟨ablk s.A, aoff s.A + k * sz, none⟩)))) : o.quiet P a C K := by
  refine ⟨_, fun w hw => ?_, h⟩
  obtain ⟨i, z, hi', hz, hsize, hby, hzs⟩ := hE.info.hi
  obtain ⟨hA, _⟩ := (hs.at_ (hC w hw)).addr (k := k) h1
  have hr : (Instr.indexAt t (.slice s.A s.xs.length s.c) (.int .i64 k)).run P w = .ok (.pointer (some ⟨ablk s.A, aoff s.A + k * sz, none⟩)) w := by
    rw [hA]
    simp [Instr.indexAt, asIntOf, run_underlying hE.info.ht, sizeOf, typeInfo, hi', hsize, h1, addj, ablk, aoff, go_sem]
  unfold Oper.quietAt execOp
  simp only [ho, hx, hi, Sem.run_bind, Sem.run_pure, Result.andThen_ok, hr, Oper.quietUpon]
  exact ⟨trivial, trivial⟩
theorem quiet_loads_rd (hC : ∀ w, C w → Hp w0 w L) {ty : TypeId} {x : Operand} (ho : o.op = .load ty x) {α : Type} {enc : α → List Value} {sz : Nat} (s : Sl α) (hs : Rd enc sz w0 s) {k : Nat} (hx : a.eval x = .pointer (some ⟨ablk s.A, aoff s.A + k * sz, none⟩)) {n : Nat} [hS : TyA P ty n] (y : α) (hk : s.xs[k]? = some y) {vs : List Value} (hv : GetsAt (enc y) 0 n vs)
    (h : K (a.put o.dst (.agg vs.toArray))) : o.quiet P a C K :=
  quiet_of_run ho (fun w hw => by rw [hx]; exact run_loads_rd (hs.at_ (hC w hw)) hS (j := 0) hk hv) h
theorem quiet_load_rd (hC : ∀ w, C w → Hp w0 w L) {ty : TypeId} {x : Operand} (ho : o.op = .load ty x) {α : Type} {enc : α → List Value} {sz : Nat} (s : Sl α) (hs : Rd enc sz w0 s) {k : Nat} (hx : a.eval x = .pointer (some ⟨ablk s.A, aoff s.A + k * sz, none⟩)) [hS : TyS P ty] (y : α) (hk : s.xs[k]? = some y) {v : Value} (hv : (enc y)[0]? = some v)
    (h : K (a.put o.dst v)) : o.quiet P a C K :=
  quiet_of_run ho (fun w hw => by rw [hx]; exact run_load_rd (hs.at_ (hC w hw)) hS (j := 0) hk hv) h
end
theorem beq_of_take {α : Type} [BEq α] [LawfulBEq α] {xs ys : List α} (hl : xs.length = ys.length) (h : xs.take xs.length = ys.take xs.length) : (xs == ys) = true := by
  rw [List.take_length, hl, List.take_length] at h; simp [h]
theorem beq_ne_len {α : Type} [BEq α] [LawfulBEq α] {xs ys : List α} (hl : ¬ xs.length = ys.length) : (xs == ys) = false := by
  rw [beq_eq_false_iff_ne]; intro e; exact hl (by rw [e])
end Go.Proofs.Ytjiiobliadeldaa

/- The laws' own sizes and comparisons on slices of slices, of guests, and on bare machines. No condition but that the arguments lie in memory. -/
namespace Go.Proofs.Ytjiiobliadeldaa
set_option linter.unusedSimpArgs false
set_option linter.unusedVariables false
open Go.RowKit
theorem sum_take_succ {α : Type} {f : α → Nat} {l : List α} {k : Nat} {y : α} (hy : l[k]? = some y) : ((l.take (k + 1)).map f).sum = ((l.take k).map f).sum + f y := by
  rw [List.take_add_one, hy]; simp
theorem sum_take_le {α : Type} {f : α → Nat} {l : List α} {k : Nat} : ((l.take k).map f).sum ≤ (l.map f).sum := by
  have h : (l.map f).sum = ((l.take k).map f).sum + ((l.drop k).map f).sum := by
    rw [← List.sum_append, ← List.map_append, List.take_append_drop]
  omega
theorem szG_M (left : Int) (g : MG) : szG left g = szM left g.size := by
  unfold szG szM MG.size
  repeat' split
  all_goals (try unfold szM at *); (try split at *); (try omega)
theorem szM_neg {left : Int} {n : Nat} (h : left - n < 0) : szM left n = -1 := by unfold szM; rw [if_pos h]
theorem szM_pos {left : Int} {n : Nat} (h : ¬ left - n < 0) : szM left n = left - n := by unfold szM; rw [if_neg h]
end Go.Proofs.Ytjiiobliadeldaa

/- The laws' own comparisons of slices of slices and of guests. No condition but that the arguments lie in memory. -/
namespace Go.Proofs.Ytjiiobliadeldaa
set_option linter.unusedSimpArgs false
set_option linter.unusedVariables false
open Go.RowKit
theorem mapt_succ {α β : Type} {f : α → β} {xs ys : List α} {k : Nat} {x y : α} (h : (xs.take k).map f = (ys.take k).map f) (hx : xs[k]? = some x) (hy : ys[k]? = some y) (e : f x = f y) : (xs.take (k + 1)).map f = (ys.take (k + 1)).map f := by
  rw [List.take_add_one, List.take_add_one, List.map_append, List.map_append, h, hx, hy]; simp [e]
theorem mapt_all {α β : Type} [BEq β] [LawfulBEq β] {f : α → β} {xs ys : List α} (hl : xs.length = ys.length) (h : (xs.take xs.length).map f = (ys.take xs.length).map f) : (xs.map f == ys.map f) = true := by
  rw [List.take_length, hl, List.take_length] at h; simp [h]
theorem mapt_ne {α β : Type} [BEq β] [LawfulBEq β] {f : α → β} {xs ys : List α} {k : Nat} {x y : α} (hx : xs[k]? = some x) (hy : ys[k]? = some y) (e : f x ≠ f y) : (xs.map f == ys.map f) = false := by
  rw [beq_eq_false_iff_ne]; intro h
  have h1 : (xs.map f)[k]? = (ys.map f)[k]? := by rw [h]
  rw [List.getElem?_map, List.getElem?_map, hx, hy] at h1
  exact e (by simpa using h1)
theorem mapt_len {α β : Type} [BEq β] [LawfulBEq β] {f : α → β} {xs ys : List α} (h : ¬ xs.length = ys.length) : (xs.map f == ys.map f) = false := by
  rw [beq_eq_false_iff_ne]; intro e
  exact h (by have := congrArg List.length e; simpa using this)
end Go.Proofs.Ytjiiobliadeldaa

/- The laws' own makers, sizes and comparisons on bare machines. No condition but that the arguments lie in memory. -/
namespace Go.Proofs.Ytjiiobliadeldaa
set_option linter.unusedSimpArgs false
set_option linter.unusedVariables false
open Go.RowKit
structure BWide (B : BV) : Prop where
  mem : B.mem.xs.length ≤ maxLen
  memi : ∀ s ∈ B.mem.xs, s.xs.length ≤ maxLen
  gs : B.gs.xs.length ≤ maxLen
  gsi : ∀ g ∈ B.gs.xs, GWide g
  outs : B.outs.xs.length ≤ maxLen
theorem rowsSize_of (s : Sl (Sl Int)) : s.xs.length + (s.xs.map (fun x => x.xs.length)).sum = rowsSize (memOf s) := by simp [rowsSize, memOf, List.map_map, Function.comp_def]
theorem gsSize_of (s : Sl GV) : s.xs.length + (s.xs.map (fun x => x.m.size)).sum = gsSize (gsOf s) := by simp [gsSize, gsOf, List.map_map, Function.comp_def]
theorem szM_split {left : Int} {a b c : Nat} (h : left - a < 0) : szM left (a + b + c) = -1 := szM_neg (by omega)
theorem meqB (B C : BV) : (B.m == C.m) = ((B.mem.xs.map (fun x => x.xs) == C.mem.xs.map (fun x => x.xs)) && (B.gs.xs.map (fun x => x.m) == C.gs.xs.map (fun x => x.m)) && (B.outs.xs == C.outs.xs) && (B.pend == C.pend)) := by
  rw [Bool.eq_iff_iff]
  simp [BV.m, memOf, gsOf, and_assoc]
end Go.Proofs.Ytjiiobliadeldaa
