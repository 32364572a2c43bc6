/- The plain data of the program (instructions, slots, control words, exits, guests) and how a guest's value lies in memory. Plain definitions and theorems; no condition. -/
import Derived.Test.YtaafnenmdombiaaMem
namespace Go.Proofs.Ytaafnenmdombiaa
open Go.RowKit

structure Ins where
  op : Int
  x : Int
  deriving DecidableEq
structure Slot where
  page : Int
  rights : Int
  deriving DecidableEq
structure Ctl where
  traps : Int
  post : Int
  opn : Bool
  deriving DecidableEq
structure Exit where
  kind : Int
  page : Int
  write : Bool
  n : Int
  deriving DecidableEq
def Ins.cells (i : Ins) : List Value := [.int .i64 i.op, .int .i64 i.x]
def Slot.cells (s : Slot) : List Value := [.int .i64 s.page, .int .i64 s.rights]
def icell (n : Int) : List Value := [.int .i64 n]
def bcell1 (b : Bool) : List Value := [.bool b]
abbrev Ins.val (i : Ins) : Value := .agg #[.int .i64 i.op, .int .i64 i.x]
abbrev Slot.val (s : Slot) : Value := .agg #[.int .i64 s.page, .int .i64 s.rights]
abbrev Ctl.val (c : Ctl) : Value := .agg #[.int .i64 c.traps, .int .i64 c.post, .bool c.opn]
abbrev Exit.val (e : Exit) : Value := .agg #[.int .i64 e.kind, .int .i64 e.page, .bool e.write, .int .i64 e.n]
attribute [go_sem] Ins.val Slot.val Ctl.val Exit.val

/-- A guest as plain data. -/
structure MG where
  prog : List Ins
  a : Int
  pc : Int
  written : List Slot
  live : List Slot
  ctl : Ctl
  pending : Int
  exit : Exit
  halted : Bool
  seen : List Int
  deriving DecidableEq
/-- A guest as it lies in memory. -/
structure GV where
  prog : Sl Ins
  a : Int
  pc : Int
  written : Sl Slot
  live : Sl Slot
  ctl : Ctl
  pending : Int
  exit : Exit
  halted : Bool
  seen : Sl Int
abbrev GV.val (g : GV) : Value := .agg #[.slice g.prog.A g.prog.xs.length g.prog.c, .int .i64 g.a, .int .i64 g.pc, .slice g.written.A g.written.xs.length g.written.c, .slice g.live.A g.live.xs.length g.live.c,
  .int .i64 g.ctl.traps, .int .i64 g.ctl.post, .bool g.ctl.opn, .int .i64 g.pending, .int .i64 g.exit.kind, .int .i64 g.exit.page, .bool g.exit.write, .int .i64 g.exit.n, .bool g.halted, .slice g.seen.A g.seen.xs.length g.seen.c]
attribute [go_sem] GV.val
def GV.m (g : GV) : MG := ⟨g.prog.xs, g.a, g.pc, g.written.xs, g.live.xs, g.ctl, g.pending, g.exit, g.halted, g.seen.xs⟩
def GV.blks (g : GV) : List Nat := g.prog.blk.toList ++ g.written.blk.toList ++ g.live.blk.toList ++ g.seen.blk.toList

structure GRd (w : World) (g : GV) : Prop where
  prog : Rd Ins.cells 2 w g.prog
  written : Rd Slot.cells 2 w g.written
  live : Rd Slot.cells 2 w g.live
  seen : Rd icell 1 w g.seen
structure GOwn (w : World) (lo : Nat) (g : GV) : Prop where
  prog : Own Ins.cells 2 36 w lo g.prog
  written : Own Slot.cells 2 107 w lo g.written
  live : Own Slot.cells 2 107 w lo g.live
  seen : Own icell 1 3 w lo g.seen
  nd : g.blks.Nodup
theorem ins_len (x : Ins) : (Ins.cells x).length = 2 := rfl
theorem slot_len (x : Slot) : (Slot.cells x).length = 2 := rfl
theorem int_len (x : Int) : (icell x).length = 1 := rfl
section
variable {w w' : World} {lo : Nat} {g : GV}
theorem GRd.below (h : GRd w g) {B : Nat} (hb : Below B w w') (hB : w.heap.size ≤ B) : GRd w' g := ⟨h.prog.below hb hB, h.written.below hb hB, h.live.below hb hB, h.seen.below hb hB⟩
theorem GOwn.rd (h : GOwn w lo g) : GRd w g := ⟨h.prog.rd ins_len, h.written.rd slot_len, h.live.rd slot_len, h.seen.rd int_len⟩
theorem GOwn.below (h : GOwn w lo g) {B : Nat} (hb : Below B w w') (hB : w.heap.size ≤ B) : GOwn w' lo g := ⟨h.prog.below hb hB, h.written.below hb hB, h.live.below hb hB, h.seen.below hb hB, h.nd⟩
theorem GOwn.keep (h : GOwn w lo g) (hk : Keeps lo w.heap.size w w') : GOwn w' lo g := ⟨h.prog.keep hk, h.written.keep hk, h.live.keep hk, h.seen.keep hk, h.nd⟩
theorem GOwn.mono {lo' : Nat} (h : GOwn w lo g) (hl : lo' ≤ lo) : GOwn w lo' g := ⟨h.prog.mono hl, h.written.mono hl, h.live.mono hl, h.seen.mono hl, h.nd⟩
theorem GOwn.blk_lt (h : GOwn w lo g) {b : Nat} (hb : b ∈ g.blks) : lo ≤ b ∧ b < w.heap.size := by
  simp only [GV.blks, List.mem_append, Option.mem_toList] at hb
  rcases hb with ((hb | hb) | hb) | hb
  · exact h.prog.blk_lt hb
  · exact h.written.blk_lt hb
  · exact h.live.blk_lt hb
  · exact h.seen.blk_lt hb
end

/-! ### a variable of the call's own, known whole -/
def Bx (w : World) (b : Nat) (cs : Array Value) : Prop := ∃ t, w.heap[b]? = some (.cells cs t (0, 0))
section
variable {w w' : World} {b : Nat} {cs : Array Value}
theorem Bx.c (h : Bx w b cs) : ∀ o, w.cell? ⟨b, o, none⟩ = cs[o]? := fun o => by obtain ⟨t, h⟩ := h; exact cell_of_row w b o cs t (0, 0) h
theorem Bx.f (h : Bx w b cs) : ∀ o, w.frozen? ⟨b, o, none⟩ = false := fun o => by obtain ⟨t, h⟩ := h; simp [World.frozen?, h]
theorem Bx.lt (h : Bx w b cs) : b < w.heap.size := by obtain ⟨t, h⟩ := h; exact (Array.getElem?_eq_some_iff.1 h).1
theorem Bx.new (w : World) (cs : Array Value) (t : TypeId) : Bx (w.alloc (.cells cs t)) w.heap.size cs := ⟨t, heap_alloc_new w _⟩
theorem Bx.at_ (h : Bx w b cs) {b' : Nat} (e : b = b') : Bx w b' cs := e ▸ h
theorem Bx.keep (h : Bx w b cs) (hk : w'.heap[b]? = w.heap[b]?) : Bx w' b cs := by obtain ⟨t, h⟩ := h; exact ⟨t, hk.trans h⟩
theorem Bx.below (h : Bx w b cs) {B : Nat} (hb : Below B w w') (hB : b < B) : Bx w' b cs := h.keep (hb.block b hB)
theorem Bx.alloc (h : Bx w b cs) (o : Obj) : Bx (w.alloc o) b cs := h.keep (Below.heap_alloc w o b h.lt)
theorem Bx.drew (h : Bx w b cs) : Bx w.drew b cs := by obtain ⟨t, h⟩ := h; exact ⟨t, h⟩
theorem Bx.grown (h : Bx w b cs) {row : Option Nat} (hg : w.grownBy w' row) (hr : row ≠ some b) : Bx w' b cs := h.keep (hg.block b h.lt (fun e => hr e.symm))
end
/-- A guest's cells. -/
abbrev garr (g : GV) : Array Value := #[.slice g.prog.A g.prog.xs.length g.prog.c, .int .i64 g.a, .int .i64 g.pc, .slice g.written.A g.written.xs.length g.written.c, .slice g.live.A g.live.xs.length g.live.c,
  .int .i64 g.ctl.traps, .int .i64 g.ctl.post, .bool g.ctl.opn, .int .i64 g.pending, .int .i64 g.exit.kind, .int .i64 g.exit.page, .bool g.exit.write, .int .i64 g.exit.n, .bool g.halted, .slice g.seen.A g.seen.xs.length g.seen.c]
attribute [go_sem] garr
/-- The guest's zero value. -/
abbrev gzero : GV := ⟨⟨none, 0, []⟩, 0, 0, ⟨none, 0, []⟩, ⟨none, 0, []⟩, ⟨0, 0, false⟩, 0, ⟨0, 0, false, 0⟩, false, ⟨none, 0, []⟩⟩

/-! ### reading one element in a round of a walk -/
section
variable {w : World} {k : Nat}
theorem Rd.ins {s : Sl Ins} (h : Rd Ins.cells 2 w s) (hk : k < s.xs.length) : ∃ x b o, s.A = some ⟨b, o, none⟩ ∧ b < w.heap.size ∧ s.xs[k]? = some x ∧ w.cell? ⟨b, o + k * 2, none⟩ = some (.int .i64 x.op) ∧ w.cell? ⟨b, o + k * 2 + 1, none⟩ = some (.int .i64 x.x) := by
  obtain ⟨b, o, hA, hb, hc⟩ := h k _ (List.getElem?_eq_getElem hk)
  exact ⟨_, b, o, hA, hb, List.getElem?_eq_getElem hk, hc 0 _ rfl, hc 1 _ rfl⟩
theorem Rd.slot {s : Sl Slot} (h : Rd Slot.cells 2 w s) (hk : k < s.xs.length) : ∃ x b o, s.A = some ⟨b, o, none⟩ ∧ b < w.heap.size ∧ s.xs[k]? = some x ∧ w.cell? ⟨b, o + k * 2, none⟩ = some (.int .i64 x.page) ∧ w.cell? ⟨b, o + k * 2 + 1, none⟩ = some (.int .i64 x.rights) := by
  obtain ⟨b, o, hA, hb, hc⟩ := h k _ (List.getElem?_eq_getElem hk)
  exact ⟨_, b, o, hA, hb, List.getElem?_eq_getElem hk, hc 0 _ rfl, hc 1 _ rfl⟩
theorem Rd.int {s : Sl Int} (h : Rd icell 1 w s) (hk : k < s.xs.length) : ∃ x b o, s.A = some ⟨b, o, none⟩ ∧ b < w.heap.size ∧ s.xs[k]? = some x ∧ w.cell? ⟨b, o + k, none⟩ = some (.int .i64 x) := by
  obtain ⟨b, o, hA, hb, hc⟩ := h k _ (List.getElem?_eq_getElem hk)
  exact ⟨_, b, o, hA, hb, List.getElem?_eq_getElem hk, by simpa using hc 0 _ rfl⟩
theorem Rd.bool {s : Sl Bool} (h : Rd bcell1 1 w s) (hk : k < s.xs.length) : ∃ x b o, s.A = some ⟨b, o, none⟩ ∧ b < w.heap.size ∧ s.xs[k]? = some x ∧ w.cell? ⟨b, o + k, none⟩ = some (.bool x) := by
  obtain ⟨b, o, hA, hb, hc⟩ := h k _ (List.getElem?_eq_getElem hk)
  exact ⟨_, b, o, hA, hb, List.getElem?_eq_getElem hk, by simpa using hc 0 _ rfl⟩
end
end Go.Proofs.Ytaafnenmdombiaa
