/- Laws for a walk: a struct that is stored into, or read out of, a variable of the call's own. Over any program. -/
import Derived.Test.YtaafnenmdombiaaGv
import Derived.KernelRfl
namespace Go.Proofs.Ytaafnenmdombiaa
set_option linter.unusedSimpArgs false
set_option linter.unusedVariables false
open Go.RowKit

/-- Nothing but block b has turned, and no block is new. -/
structure Only (b : Nat) (w w' : World) : Prop where
  os : w'.os = w.os
  tape : w'.tape = w.tape
  output : w'.output = w.output
  size : w'.heap.size = w.heap.size
  block : ∀ k, k ≠ b → w'.heap[k]? = w.heap[k]?
theorem Keeps.only {lo hi b : Nat} {w w' w'' : World} (h : Keeps lo hi w w') (ho : Only b w' w'') (hb : b < lo ∨ hi ≤ b) : Keeps lo hi w w'' :=
  fun k h1 h2 => (ho.block k (by omega)).trans (h k h1 h2)
theorem Bx.only {w w' : World} {b b' : Nat} {cs : Array Value} (h : Bx w b cs) (ho : Only b' w w') (hb : b ≠ b') : Bx w' b cs := h.keep (ho.block b hb)
theorem only_setRow (w : World) (g : Nat) (cs : Array Value) : Only g w (w.setRow g cs) := ⟨rfl, rfl, rfl, by simp, fun k hk => setRow_other w g k _ hk⟩

section
variable {P : Program}
end
/-! ### a row of the call's own, filled in a loop -/
def Rw (w : World) (g : Nat) (e : TypeId) (cs : Array Value) : Prop := w.heap[g]? = some (.cells cs e (0, 0))
section
variable {w w' : World} {g : Nat} {e : TypeId} {cs : Array Value}
theorem Rw.new (w : World) (e : TypeId) (cs : Array Value) : Rw (w.alloc (.cells cs e)) w.heap.size e cs := heap_alloc_new w _
theorem Rw.lt (h : Rw w g e cs) : g < w.heap.size := (Array.getElem?_eq_some_iff.1 h).1
theorem Rw.keep (h : Rw w g e cs) (hk : w'.heap[g]? = w.heap[g]?) : Rw w' g e cs := hk.trans h
theorem Rw.below (h : Rw w g e cs) {B : Nat} (hb : Below B w w') (hB : w.heap.size ≤ B) : Rw w' g e cs := h.keep (hb.block g (Nat.lt_of_lt_of_le h.lt hB))
theorem Rw.alloc (h : Rw w g e cs) (o : Obj) : Rw (w.alloc o) g e cs := h.keep (Below.heap_alloc w o g h.lt)
theorem Rw.drew (h : Rw w g e cs) : Rw w.drew g e cs := h
theorem Rw.only (h : Rw w g e cs) {b : Nat} (ho : Only b w w') (hb : g ≠ b) : Rw w' g e cs := h.keep (ho.block g hb)
theorem Rw.c (h : Rw w g e cs) (o : Nat) : w.cell? ⟨g, o, none⟩ = cs[o]? := cell_of_row w g o cs e (0, 0) h
theorem Rw.f (h : Rw w g e cs) (o : Nat) : w.frozen? ⟨g, o, none⟩ = false := by unfold Rw at h; simp [World.frozen?, h]
end
section
variable {P : Program}
theorem run_storeVar_row (w : World) (g o : Nat) (e ty : TypeId) (cur : Array Value) (v : Value) (hR : Rw w g e cur) (hz : o + v.cells.size ≤ cur.size) (hi : (P.info? ty).map (·.size) = some v.cells.size) (h1 : ∀ u ∈ v.cells.toList, u.oneCell' = true) :
    ∃ w', (storeVar ty ⟨g, o, none⟩ v).run P w = .ok () w' ∧ Rw w' g e (cur.toList.take o ++ v.cells.toList ++ cur.toList.drop (o + v.cells.size)).toArray ∧ Only g w w' := by
  cases hq : P.info? ty with
  | none => simp [hq] at hi
  | some i =>
    have hs : i.size = v.cells.size := by simpa [hq] using hi
    have hst := run_storeCells_at P g o e v.cells.toList 0 cur w hR (by simpa using hz) h1
    simp only [Nat.add_zero, Array.length_toList] at hst
    exact ⟨_, by simp [storeVar, sizeOf, typeInfo, hq, hs, hst], setRow_heap w g cur _ e _ hR, only_setRow w g _⟩
theorem run_make_rowN (t e : TypeId) (i : TypeInfo) (z : Value) (ht : P.underlying t = some (.slice e)) (hi : P.info? e = some i) (hz : i.zero = some z)
    (kl kc : IntKind) (n c : Nat) (hnc : n ≤ c) (hbytes : i.bytes * c ≤ 281474976710656) (h63 : c ≤ 9223372036854775807) (w : World) :
    (Instr.makeSlice t (.int kl (n : Int)) (.int kc (c : Int))).run P w = .ok (.slice (some ⟨w.heap.size, 0, none⟩) n c) (w.alloc (.cells (madeCells z.cells (c * i.size)) e)) := by
  have hb : (i.bytes : Int) * (c : Int) ≤ 281474976710656 := by
    have h : ((i.bytes * c : Nat) : Int) ≤ 281474976710656 := by omega
    rwa [Int.natCast_mul] at h
  have hr := run_make (P := P) w t e i z ht hi hz kl kc n c (by omega) (by omega) hb (by omega)
  simp only [Int.toNat_natCast] at hr
  exact hr
end
/-- The first k elements have been laid, of a row with room for cap. -/
def Filled {α : Type} (enc : α → List Value) (sz : Nat) (e : TypeId) (w : World) (g cap : Nat) (xs : List α) (k : Nat) : Prop :=
  ∃ cur Z, Rw w g e cur ∧ cur.toList = (xs.take k).flatMap enc ++ Z ∧ Z.length = (cap - k) * sz
section
variable {α : Type} {enc : α → List Value} {sz : Nat} {e : TypeId} {w w' : World} {g cap : Nat} {xs : List α} {k : Nat}
theorem Filled.start {z : Array Value} (h : Rw w g e (madeCells z (cap * sz))) : Filled enc sz e w g cap xs 0 := ⟨_, _, h, by simp; rfl, by simp [madeCells]⟩
theorem Filled.below (h : Filled enc sz e w g cap xs k) {B : Nat} (hb : Below B w w') (hB : w.heap.size ≤ B) : Filled enc sz e w' g cap xs k := by
  obtain ⟨c, Z, h1, h2⟩ := h; exact ⟨c, Z, h1.below hb hB, h2⟩
theorem Filled.next (henc : ∀ x, (enc x).length = sz) (hk : k < xs.length) {cur : Array Value} {Z : List Value} (h1 : cur.toList = (xs.take k).flatMap enc ++ Z) (h2 : Z.length = (cap - k) * sz) {x : α} (hx : xs[k]? = some x) {new : List Value} (hv : new = enc x)
    (hr : Rw w' g e (cur.toList.take (k * sz) ++ new ++ cur.toList.drop (k * sz + sz)).toArray) : Filled enc sz e w' g cap xs (k + 1) := by
  have hl : ((xs.take k).flatMap enc).length = k * sz := by rw [flat_len henc, List.length_take, Nat.min_eq_left (by omega)]
  refine ⟨_, Z.drop sz, hr, ?_, ?_⟩
  · rw [h1, hv]
    rw [List.take_left' hl, List.take_add_one, hx]
    rw [← hl, List.drop_append, List.drop_of_length_le (by omega)]
    simp
  · rw [List.length_drop, h2, Nat.sub_mul, Nat.sub_mul, Nat.succ_mul]; omega
theorem Filled.own (h : Filled enc sz e w g cap xs xs.length) (henc : ∀ x, (enc x).length = sz) {lo : Nat} (hg : lo ≤ g) (hc : xs.length ≤ cap) (hm : cap ≤ maxLen) : Own enc sz e w lo ⟨some ⟨g, 0, none⟩, cap, xs⟩ := by
  obtain ⟨cur, Z, h1, h2, h3⟩ := h
  rw [List.take_length] at h2
  have hl := flat_len henc xs
  refine ⟨hl, .inr ⟨g, cap, cur, rfl, hg, h1, hc, hm, ?_, ?_⟩⟩
  · rw [← Array.length_toList, h2, List.length_append, hl, h3, Nat.sub_mul]
    have := Nat.mul_le_mul_right sz hc
    omega
  · rw [h2, List.take_left' hl]
end
/-- Of what was there only the blocks bs may have turned. -/
structure Touch (bs : List Nat) (w w' : World) : Prop where
  os : w'.os = w.os
  tape : w'.tape = w.tape
  output : w'.output = w.output
  size : w.heap.size ≤ w'.heap.size
  block : ∀ k, k < w.heap.size → k ∉ bs → w'.heap[k]? = w.heap[k]?
section
variable {w w' w'' : World} {bs cs : List Nat}
theorem Touch.refl (bs : List Nat) (w : World) : Touch bs w w := ⟨rfl, rfl, rfl, Nat.le_refl _, fun _ _ _ => rfl⟩
theorem Touch.trans (h : Touch bs w w') (k : Touch bs w' w'') : Touch bs w w'' :=
  ⟨k.os.trans h.os, k.tape.trans h.tape, k.output.trans h.output, Nat.le_trans h.size k.size, fun i h1 h2 => (k.block i (Nat.lt_of_lt_of_le h1 h.size) h2).trans (h.block i h1 h2)⟩
theorem Touch.mono (h : Touch bs w w') (hs : ∀ x ∈ bs, x ∈ cs) : Touch cs w w' := ⟨h.os, h.tape, h.output, h.size, fun k h1 h2 => h.block k h1 (fun e => h2 (hs k e))⟩
theorem touch_only {g : Nat} (h : Only g w w') : Touch [g] w w' := ⟨h.os, h.tape, h.output, by rw [h.size]; exact Nat.le_refl _, fun k _ h2 => h.block k (by simpa using h2)⟩
theorem below_touch {B : Nat} {a : World} (h : Below B a w) (t : Touch bs w w') (hB : B ≤ w.heap.size) (hbs : ∀ x ∈ bs, B ≤ x) : Below B a w' :=
  h.trans ⟨t.os, t.tape, t.output, t.size, fun k hk => t.block k (by omega) (fun e => by have := hbs k e; omega)⟩
end
end Go.Proofs.Ytaafnenmdombiaa
