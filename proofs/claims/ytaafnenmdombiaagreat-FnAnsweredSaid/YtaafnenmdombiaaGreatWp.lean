/- The plain data of the program (instructions, slots, control words, exits, guests) and how a guest's value lies in memory. Plain definitions and theorems; no condition. -/
import Derived.Test.YtaafnenmdombiaaGreatMem
import Derived.KernelRfl
namespace Go.Proofs.YtaafnenmdombiaaGreat
open Go.RowKit

structure Ins where
  op : Int
  x : Int
  deriving DecidableEq
structure Slot where
  page : Int
  rights : Int
  deriving DecidableEq
structure Ctl where
  traps : Int
  post : Int
  opn : Bool
  deriving DecidableEq
structure Exit where
  kind : Int
  page : Int
  write : Bool
  n : Int
  deriving DecidableEq
def Ins.cells (i : Ins) : List Value := [.int .i64 i.op, .int .i64 i.x]
def Slot.cells (s : Slot) : List Value := [.int .i64 s.page, .int .i64 s.rights]
def icell (n : Int) : List Value := [.int .i64 n]
def bcell1 (b : Bool) : List Value := [.bool b]
abbrev Ins.val (i : Ins) : Value := .agg #[.int .i64 i.op, .int .i64 i.x]
abbrev Slot.val (s : Slot) : Value := .agg #[.int .i64 s.page, .int .i64 s.rights]
abbrev Ctl.val (c : Ctl) : Value := .agg #[.int .i64 c.traps, .int .i64 c.post, .bool c.opn]
abbrev Exit.val (e : Exit) : Value := .agg #[.int .i64 e.kind, .int .i64 e.page, .bool e.write, .int .i64 e.n]
attribute [go_sem] Ins.val Slot.val Ctl.val Exit.val

/-- A guest as plain data. -/
structure MG where
  prog : List Ins
  a : Int
  pc : Int
  written : List Slot
  live : List Slot
  ctl : Ctl
  pending : Int
  exit : Exit
  halted : Bool
  seen : List Int
  deriving DecidableEq
/-- A guest as it lies in memory. -/
structure GV where
  prog : Sl Ins
  a : Int
  pc : Int
  written : Sl Slot
  live : Sl Slot
  ctl : Ctl
  pending : Int
  exit : Exit
  halted : Bool
  seen : Sl Int
abbrev GV.val (g : GV) : Value := .agg #[.slice g.prog.A g.prog.xs.length g.prog.c, .int .i64 g.a, .int .i64 g.pc, .slice g.written.A g.written.xs.length g.written.c, .slice g.live.A g.live.xs.length g.live.c,
  .int .i64 g.ctl.traps, .int .i64 g.ctl.post, .bool g.ctl.opn, .int .i64 g.pending, .int .i64 g.exit.kind, .int .i64 g.exit.page, .bool g.exit.write, .int .i64 g.exit.n, .bool g.halted, .slice g.seen.A g.seen.xs.length g.seen.c]
attribute [go_sem] GV.val
def GV.m (g : GV) : MG := ⟨g.prog.xs, g.a, g.pc, g.written.xs, g.live.xs, g.ctl, g.pending, g.exit, g.halted, g.seen.xs⟩
def GV.blks (g : GV) : List Nat := g.prog.blk.toList ++ g.written.blk.toList ++ g.live.blk.toList ++ g.seen.blk.toList

structure GRd (w : World) (g : GV) : Prop where
  prog : Rd Ins.cells 2 w g.prog
  written : Rd Slot.cells 2 w g.written
  live : Rd Slot.cells 2 w g.live
  seen : Rd icell 1 w g.seen
structure GOwn (w : World) (lo : Nat) (g : GV) : Prop where
  prog : Own Ins.cells 2 45 w lo g.prog
  written : Own Slot.cells 2 56 w lo g.written
  live : Own Slot.cells 2 56 w lo g.live
  seen : Own icell 1 3 w lo g.seen
  nd : g.blks.Nodup
theorem ins_len (x : Ins) : (Ins.cells x).length = 2 := rfl
theorem slot_len (x : Slot) : (Slot.cells x).length = 2 := rfl
theorem int_len (x : Int) : (icell x).length = 1 := rfl
section
variable {w w' : World} {lo : Nat} {g : GV}
theorem GRd.below (h : GRd w g) {B : Nat} (hb : Below B w w') (hB : w.heap.size ≤ B) : GRd w' g := ⟨h.prog.below hb hB, h.written.below hb hB, h.live.below hb hB, h.seen.below hb hB⟩
theorem GOwn.rd (h : GOwn w lo g) : GRd w g := ⟨h.prog.rd ins_len, h.written.rd slot_len, h.live.rd slot_len, h.seen.rd int_len⟩
theorem GOwn.below (h : GOwn w lo g) {B : Nat} (hb : Below B w w') (hB : w.heap.size ≤ B) : GOwn w' lo g := ⟨h.prog.below hb hB, h.written.below hb hB, h.live.below hb hB, h.seen.below hb hB, h.nd⟩
theorem GOwn.keep (h : GOwn w lo g) (hk : Keeps lo w.heap.size w w') : GOwn w' lo g := ⟨h.prog.keep hk, h.written.keep hk, h.live.keep hk, h.seen.keep hk, h.nd⟩
theorem GOwn.mono {lo' : Nat} (h : GOwn w lo g) (hl : lo' ≤ lo) : GOwn w lo' g := ⟨h.prog.mono hl, h.written.mono hl, h.live.mono hl, h.seen.mono hl, h.nd⟩
theorem GOwn.blk_lt (h : GOwn w lo g) {b : Nat} (hb : b ∈ g.blks) : lo ≤ b ∧ b < w.heap.size := by
  simp only [GV.blks, List.mem_append, Option.mem_toList] at hb
  rcases hb with ((hb | hb) | hb) | hb
  · exact h.prog.blk_lt hb
  · exact h.written.blk_lt hb
  · exact h.live.blk_lt hb
  · exact h.seen.blk_lt hb
end

/-! ### a variable of the call's own, known whole -/
def Bx (w : World) (b : Nat) (cs : Array Value) : Prop := ∃ t, w.heap[b]? = some (.cells cs t (0, 0))
section
variable {w w' : World} {b : Nat} {cs : Array Value}
theorem Bx.c (h : Bx w b cs) : ∀ o, w.cell? ⟨b, o, none⟩ = cs[o]? := fun o => by obtain ⟨t, h⟩ := h; exact cell_of_row w b o cs t (0, 0) h
theorem Bx.f (h : Bx w b cs) : ∀ o, w.frozen? ⟨b, o, none⟩ = false := fun o => by obtain ⟨t, h⟩ := h; simp [World.frozen?, h]
theorem Bx.lt (h : Bx w b cs) : b < w.heap.size := by obtain ⟨t, h⟩ := h; exact (Array.getElem?_eq_some_iff.1 h).1
theorem Bx.new (w : World) (cs : Array Value) (t : TypeId) : Bx (w.alloc (.cells cs t)) w.heap.size cs := ⟨t, heap_alloc_new w _⟩
theorem Bx.at_ (h : Bx w b cs) {b' : Nat} (e : b = b') : Bx w b' cs := e ▸ h
theorem Bx.keep (h : Bx w b cs) (hk : w'.heap[b]? = w.heap[b]?) : Bx w' b cs := by obtain ⟨t, h⟩ := h; exact ⟨t, hk.trans h⟩
theorem Bx.below (h : Bx w b cs) {B : Nat} (hb : Below B w w') (hB : b < B) : Bx w' b cs := h.keep (hb.block b hB)
theorem Bx.alloc (h : Bx w b cs) (o : Obj) : Bx (w.alloc o) b cs := h.keep (Below.heap_alloc w o b h.lt)
theorem Bx.drew (h : Bx w b cs) : Bx w.drew b cs := by obtain ⟨t, h⟩ := h; exact ⟨t, h⟩
theorem Bx.grown (h : Bx w b cs) {row : Option Nat} (hg : w.grownBy w' row) (hr : row ≠ some b) : Bx w' b cs := h.keep (hg.block b h.lt (fun e => hr e.symm))
end
/-- A guest's cells. -/
abbrev garr (g : GV) : Array Value := #[.slice g.prog.A g.prog.xs.length g.prog.c, .int .i64 g.a, .int .i64 g.pc, .slice g.written.A g.written.xs.length g.written.c, .slice g.live.A g.live.xs.length g.live.c,
  .int .i64 g.ctl.traps, .int .i64 g.ctl.post, .bool g.ctl.opn, .int .i64 g.pending, .int .i64 g.exit.kind, .int .i64 g.exit.page, .bool g.exit.write, .int .i64 g.exit.n, .bool g.halted, .slice g.seen.A g.seen.xs.length g.seen.c]
attribute [go_sem] garr
/-- The guest's zero value. -/
abbrev gzero : GV := ⟨⟨none, 0, []⟩, 0, 0, ⟨none, 0, []⟩, ⟨none, 0, []⟩, ⟨0, 0, false⟩, 0, ⟨0, 0, false, 0⟩, false, ⟨none, 0, []⟩⟩

/-! ### reading one element in a round of a walk -/
section
variable {w : World} {k : Nat}
theorem Rd.ins {s : Sl Ins} (h : Rd Ins.cells 2 w s) (hk : k < s.xs.length) : ∃ x b o, s.A = some ⟨b, o, none⟩ ∧ b < w.heap.size ∧ s.xs[k]? = some x ∧ w.cell? ⟨b, o + k * 2, none⟩ = some (.int .i64 x.op) ∧ w.cell? ⟨b, o + k * 2 + 1, none⟩ = some (.int .i64 x.x) := by
  obtain ⟨b, o, hA, hb, hc⟩ := h k _ (List.getElem?_eq_getElem hk)
  exact ⟨_, b, o, hA, hb, List.getElem?_eq_getElem hk, hc 0 _ rfl, hc 1 _ rfl⟩
theorem Rd.slot {s : Sl Slot} (h : Rd Slot.cells 2 w s) (hk : k < s.xs.length) : ∃ x b o, s.A = some ⟨b, o, none⟩ ∧ b < w.heap.size ∧ s.xs[k]? = some x ∧ w.cell? ⟨b, o + k * 2, none⟩ = some (.int .i64 x.page) ∧ w.cell? ⟨b, o + k * 2 + 1, none⟩ = some (.int .i64 x.rights) := by
  obtain ⟨b, o, hA, hb, hc⟩ := h k _ (List.getElem?_eq_getElem hk)
  exact ⟨_, b, o, hA, hb, List.getElem?_eq_getElem hk, hc 0 _ rfl, hc 1 _ rfl⟩
theorem Rd.int {s : Sl Int} (h : Rd icell 1 w s) (hk : k < s.xs.length) : ∃ x b o, s.A = some ⟨b, o, none⟩ ∧ b < w.heap.size ∧ s.xs[k]? = some x ∧ w.cell? ⟨b, o + k, none⟩ = some (.int .i64 x) := by
  obtain ⟨b, o, hA, hb, hc⟩ := h k _ (List.getElem?_eq_getElem hk)
  exact ⟨_, b, o, hA, hb, List.getElem?_eq_getElem hk, by simpa using hc 0 _ rfl⟩
theorem Rd.bool {s : Sl Bool} (h : Rd bcell1 1 w s) (hk : k < s.xs.length) : ∃ x b o, s.A = some ⟨b, o, none⟩ ∧ b < w.heap.size ∧ s.xs[k]? = some x ∧ w.cell? ⟨b, o + k, none⟩ = some (.bool x) := by
  obtain ⟨b, o, hA, hb, hc⟩ := h k _ (List.getElem?_eq_getElem hk)
  exact ⟨_, b, o, hA, hb, List.getElem?_eq_getElem hk, by simpa using hc 0 _ rfl⟩
end
end Go.Proofs.YtaafnenmdombiaaGreat

/- Laws for a walk: a struct that is stored into, or read out of, a variable of the call's own. Over any program. -/
namespace Go.Proofs.YtaafnenmdombiaaGreat
set_option linter.unusedSimpArgs false
set_option linter.unusedVariables false
open Go.RowKit

/-- Nothing but block b has turned, and no block is new. -/
structure Only (b : Nat) (w w' : World) : Prop where
  os : w'.os = w.os
  tape : w'.tape = w.tape
  output : w'.output = w.output
  size : w'.heap.size = w.heap.size
  block : ∀ k, k ≠ b → w'.heap[k]? = w.heap[k]?
theorem Keeps.only {lo hi b : Nat} {w w' w'' : World} (h : Keeps lo hi w w') (ho : Only b w' w'') (hb : b < lo ∨ hi ≤ b) : Keeps lo hi w w'' :=
  fun k h1 h2 => (ho.block k (by omega)).trans (h k h1 h2)
theorem Bx.only {w w' : World} {b b' : Nat} {cs : Array Value} (h : Bx w b cs) (ho : Only b' w w') (hb : b ≠ b') : Bx w' b cs := h.keep (ho.block b hb)
theorem only_setRow (w : World) (g : Nat) (cs : Array Value) : Only g w (w.setRow g cs) := ⟨rfl, rfl, rfl, by simp, fun k hk => setRow_other w g k _ hk⟩

section
variable {P : Program}
theorem wpList_load_all {ops : Array Oper} {rest : List Oper} {o : Oper} {a : Act} {w : World} {Q : Go.Exit → Act → World → Prop} (hgd : o.guard = none) (ty : TypeId) (x : Operand) (ho : o.op = .load ty x)
    (b : Nat) (cs : Array Value) (d : TypeDesc) (hx : a.eval x = .pointer (some ⟨b, 0, none⟩)) (hB : Bx w b cs)
    (hu : P.underlying ty = some d) (hd : (match d with | .struct _ | .array _ _ => true | _ => false) = true) (hi : (P.info? ty).map (·.size) = some cs.size)
    (h : wpList P ops Q rest (a.put o.dst (.agg cs)) w) : wpList P ops Q (o :: rest) a w := by
  obtain ⟨t, hB⟩ := hB
  exact wpList_load_row hgd ty x ho b hx t cs (0, 0) d hB hu hd hi h
end
/-! ### a row of the call's own, filled in a loop -/
def Rw (w : World) (g : Nat) (e : TypeId) (cs : Array Value) : Prop := w.heap[g]? = some (.cells cs e (0, 0))
section
variable {w w' : World} {g : Nat} {e : TypeId} {cs : Array Value}
theorem Rw.new (w : World) (e : TypeId) (cs : Array Value) : Rw (w.alloc (.cells cs e)) w.heap.size e cs := heap_alloc_new w _
theorem Rw.lt (h : Rw w g e cs) : g < w.heap.size := (Array.getElem?_eq_some_iff.1 h).1
theorem Rw.keep (h : Rw w g e cs) (hk : w'.heap[g]? = w.heap[g]?) : Rw w' g e cs := hk.trans h
theorem Rw.below (h : Rw w g e cs) {B : Nat} (hb : Below B w w') (hB : w.heap.size ≤ B) : Rw w' g e cs := h.keep (hb.block g (Nat.lt_of_lt_of_le h.lt hB))
theorem Rw.alloc (h : Rw w g e cs) (o : Obj) : Rw (w.alloc o) g e cs := h.keep (Below.heap_alloc w o g h.lt)
theorem Rw.drew (h : Rw w g e cs) : Rw w.drew g e cs := h
theorem Rw.only (h : Rw w g e cs) {b : Nat} (ho : Only b w w') (hb : g ≠ b) : Rw w' g e cs := h.keep (ho.block g hb)
theorem Rw.c (h : Rw w g e cs) (o : Nat) : w.cell? ⟨g, o, none⟩ = cs[o]? := cell_of_row w g o cs e (0, 0) h
theorem Rw.f (h : Rw w g e cs) (o : Nat) : w.frozen? ⟨g, o, none⟩ = false := by unfold Rw at h; simp [World.frozen?, h]
end
section
variable {P : Program}
theorem run_storeVar_row (w : World) (g o : Nat) (e ty : TypeId) (cur : Array Value) (v : Value) (hR : Rw w g e cur) (hz : o + v.cells.size ≤ cur.size) (hi : (P.info? ty).map (·.size) = some v.cells.size) (h1 : ∀ u ∈ v.cells.toList, u.oneCell' = true) :
    ∃ w', (storeVar ty ⟨g, o, none⟩ v).run P w = .ok () w' ∧ Rw w' g e (cur.toList.take o ++ v.cells.toList ++ cur.toList.drop (o + v.cells.size)).toArray ∧ Only g w w' := by
  cases hq : P.info? ty with
  | none => simp [hq] at hi
  | some i =>
    have hs : i.size = v.cells.size := by simpa [hq] using hi
    have hst := run_storeCells_at P g o e v.cells.toList 0 cur w hR (by simpa using hz) h1
    simp only [Nat.add_zero, Array.length_toList] at hst
    exact ⟨_, by simp [storeVar, sizeOf, typeInfo, hq, hs, hst], setRow_heap w g cur _ e _ hR, only_setRow w g _⟩
theorem run_make_rowN (t e : TypeId) (i : TypeInfo) (z : Value) (ht : P.underlying t = some (.slice e)) (hi : P.info? e = some i) (hz : i.zero = some z)
    (kl kc : IntKind) (n c : Nat) (hnc : n ≤ c) (hbytes : i.bytes * c ≤ 281474976710656) (h63 : c ≤ 9223372036854775807) (w : World) :
    (Instr.makeSlice t (.int kl (n : Int)) (.int kc (c : Int))).run P w = .ok (.slice (some ⟨w.heap.size, 0, none⟩) n c) (w.alloc (.cells (madeCells z.cells (c * i.size)) e)) := by
  have hb : (i.bytes : Int) * (c : Int) ≤ 281474976710656 := by
    have h : ((i.bytes * c : Nat) : Int) ≤ 281474976710656 := by omega
    rwa [Int.natCast_mul] at h
  have hr := run_make (P := P) w t e i z ht hi hz kl kc n c (by omega) (by omega) hb (by omega)
  simp only [Int.toNat_natCast] at hr
  exact hr
end
/-- The first k elements have been laid, of a row with room for cap. -/
def Filled {α : Type} (enc : α → List Value) (sz : Nat) (e : TypeId) (w : World) (g cap : Nat) (xs : List α) (k : Nat) : Prop :=
  ∃ cur Z, Rw w g e cur ∧ cur.toList = (xs.take k).flatMap enc ++ Z ∧ Z.length = (cap - k) * sz
section
variable {α : Type} {enc : α → List Value} {sz : Nat} {e : TypeId} {w w' : World} {g cap : Nat} {xs : List α} {k : Nat}
theorem Filled.start {z : Array Value} (h : Rw w g e (madeCells z (cap * sz))) : Filled enc sz e w g cap xs 0 := ⟨_, _, h, by simp; rfl, by simp [madeCells]⟩
theorem Filled.below (h : Filled enc sz e w g cap xs k) {B : Nat} (hb : Below B w w') (hB : w.heap.size ≤ B) : Filled enc sz e w' g cap xs k := by
  obtain ⟨c, Z, h1, h2⟩ := h; exact ⟨c, Z, h1.below hb hB, h2⟩
theorem Filled.next (henc : ∀ x, (enc x).length = sz) (hk : k < xs.length) {cur : Array Value} {Z : List Value} (h1 : cur.toList = (xs.take k).flatMap enc ++ Z) (h2 : Z.length = (cap - k) * sz) {x : α} (hx : xs[k]? = some x) {new : List Value} (hv : new = enc x)
    (hr : Rw w' g e (cur.toList.take (k * sz) ++ new ++ cur.toList.drop (k * sz + sz)).toArray) : Filled enc sz e w' g cap xs (k + 1) := by
  have hl : ((xs.take k).flatMap enc).length = k * sz := by rw [flat_len henc, List.length_take, Nat.min_eq_left (by omega)]
  refine ⟨_, Z.drop sz, hr, ?_, ?_⟩
  · rw [h1, hv]
    rw [List.take_left' hl, List.take_add_one, hx]
    rw [← hl, List.drop_append, List.drop_of_length_le (by omega)]
    simp
  · rw [List.length_drop, h2, Nat.sub_mul, Nat.sub_mul, Nat.succ_mul]; omega
theorem Filled.own (h : Filled enc sz e w g cap xs xs.length) (henc : ∀ x, (enc x).length = sz) {lo : Nat} (hg : lo ≤ g) (hc : xs.length ≤ cap) (hm : cap ≤ maxLen) : Own enc sz e w lo ⟨some ⟨g, 0, none⟩, cap, xs⟩ := by
  obtain ⟨cur, Z, h1, h2, h3⟩ := h
  rw [List.take_length] at h2
  have hl := flat_len henc xs
  refine ⟨hl, .inr ⟨g, cap, cur, rfl, hg, h1, hc, hm, ?_, ?_⟩⟩
  · rw [← Array.length_toList, h2, List.length_append, hl, h3, Nat.sub_mul]
    have := Nat.mul_le_mul_right sz hc
    omega
  · rw [h2, List.take_left' hl]
end
/-- Of what was there only the blocks bs may have turned. -/
structure Touch (bs : List Nat) (w w' : World) : Prop where
  os : w'.os = w.os
  tape : w'.tape = w.tape
  output : w'.output = w.output
  size : w.heap.size ≤ w'.heap.size
  block : ∀ k, k < w.heap.size → k ∉ bs → w'.heap[k]? = w.heap[k]?
section
variable {w w' w'' : World} {bs cs : List Nat}
theorem Touch.refl (bs : List Nat) (w : World) : Touch bs w w := ⟨rfl, rfl, rfl, Nat.le_refl _, fun _ _ _ => rfl⟩
theorem Touch.trans (h : Touch bs w w') (k : Touch bs w' w'') : Touch bs w w'' :=
  ⟨k.os.trans h.os, k.tape.trans h.tape, k.output.trans h.output, Nat.le_trans h.size k.size, fun i h1 h2 => (k.block i (Nat.lt_of_lt_of_le h1 h.size) h2).trans (h.block i h1 h2)⟩
theorem Touch.mono (h : Touch bs w w') (hs : ∀ x ∈ bs, x ∈ cs) : Touch cs w w' := ⟨h.os, h.tape, h.output, h.size, fun k h1 h2 => h.block k h1 (fun e => h2 (hs k e))⟩
theorem touch_only {g : Nat} (h : Only g w w') : Touch [g] w w' := ⟨h.os, h.tape, h.output, by rw [h.size]; exact Nat.le_refl _, fun k _ h2 => h.block k (by simpa using h2)⟩
theorem below_touch {B : Nat} {a : World} (h : Below B a w) (t : Touch bs w w') (hB : B ≤ w.heap.size) (hbs : ∀ x ∈ bs, B ≤ x) : Below B a w' :=
  h.trans ⟨t.os, t.tape, t.output, t.size, fun k hk => t.block k (by omega) (fun e => by have := hbs k e; omega)⟩
end
end Go.Proofs.YtaafnenmdombiaaGreat
