/- Words for memory, over any program: slices that read as lists, slices that a call owns, what is kept from world to world. Plain theorems; no condition. -/
import Derived.WalkKit
import Derived.WalkLawsBesides
import Derived.Lib.Hide
import Derived.Maps.AppendAt
import Derived.Deep.AppendLies
import Derived.Laws.MakeOwn
import Derived.Laws.OwnMore
import Derived.Laws.ResultCell
import Derived.Deep.Draws
namespace Go.Proofs.YtaafnenmdombiaaGreat
open Go.RowKit

/-- A slice value with what it reads as. -/
structure Sl (α : Type) where
  A : Option Addr
  c : Nat
  xs : List α
abbrev Sl.val {α : Type} (s : Sl α) : Value := .slice s.A s.xs.length s.c
def Sl.blk {α : Type} (s : Sl α) : Option Nat := s.A.map (·.block)
abbrev Sl.nil (α : Type) : Sl α := ⟨none, 0, []⟩
attribute [go_sem] Sl.val

/-- Blocks lo .. hi-1 are in w' as in w. -/
def Keeps (lo hi : Nat) (w w' : World) : Prop := ∀ k, lo ≤ k → k < hi → w'.heap[k]? = w.heap[k]?
theorem Keeps.refl (lo hi : Nat) (w : World) : Keeps lo hi w w := fun _ _ _ => rfl
theorem Keeps.trans {lo hi : Nat} {w w' w'' : World} (h : Keeps lo hi w w') (k : Keeps lo hi w' w'') : Keeps lo hi w w'' := fun i h1 h2 => (k i h1 h2).trans (h i h1 h2)
theorem Keeps.drew {lo hi : Nat} {w w' : World} (h : Keeps lo hi w w') : Keeps lo hi w w'.drew := h
theorem Keeps.alloc {lo hi : Nat} {w w' : World} (h : Keeps lo hi w w') (hs : hi ≤ w'.heap.size) (o : Obj) : Keeps lo hi w (w'.alloc o) :=
  fun i a b => (Below.heap_alloc w' o i (by omega)).trans (h i a b)
theorem Keeps.setCell {lo hi : Nat} {w w' : World} (h : Keeps lo hi w w') {p : Addr} (hp : p.block < lo ∨ hi ≤ p.block) (u : Value) : Keeps lo hi w (w'.setCell p u) :=
  fun i a b => (Below.heap_setCell w' p u i (by omega)).trans (h i a b)
theorem Keeps.below {lo hi B : Nat} {w w' w'' : World} (h : Keeps lo hi w w') (hb : Below B w' w'') (hB : hi ≤ B) : Keeps lo hi w w'' :=
  fun i a b => (hb.block i (by omega)).trans (h i a b)
theorem Keeps.grown {lo hi : Nat} {w w' w'' : World} {row : Option Nat} (h : Keeps lo hi w w') (hg : w'.grownBy w'' row) (hs : hi ≤ w'.heap.size) (hr : ∀ g, row = some g → g < lo ∨ hi ≤ g) : Keeps lo hi w w'' :=
  fun i a b => (hg.block i (by omega) (fun e => by have := hr i e.symm; omega)).trans (h i a b)
theorem Keeps.cell {lo hi : Nat} {w w' : World} (h : Keeps lo hi w w') {b o : Nat} (h1 : lo ≤ b) (h2 : b < hi) : w'.cell? ⟨b, o, none⟩ = w.cell? ⟨b, o, none⟩ :=
  World.cell?_of_block (a := ⟨b, o, none⟩) (h b h1 h2)

section
variable {α : Type} {enc : α → List Value} {sz : Nat} {e : TypeId} {w w' : World} {lo : Nat} {s : Sl α}

/-- The slice reads as its list. -/
def Rd (enc : α → List Value) (sz : Nat) (w : World) (s : Sl α) : Prop :=
  ∀ k x, s.xs[k]? = some x → ∃ b o, s.A = some ⟨b, o, none⟩ ∧ b < w.heap.size ∧ ∀ j v, (enc x)[j]? = some v → w.cell? ⟨b, o + k * sz + j, none⟩ = some v
theorem Rd.below (h : Rd enc sz w s) {B : Nat} (hb : Below B w w') (hB : w.heap.size ≤ B) : Rd enc sz w' s := fun k x hx => by
  obtain ⟨b, o, hA, hlt, hc⟩ := h k x hx
  exact ⟨b, o, hA, Nat.lt_of_lt_of_le hlt hb.size, fun j v hv => (hb.cell (p := ⟨b, o + k * sz + j, none⟩) (by simp only; omega)).trans (hc j v hv)⟩
theorem Rd.keep (h : Rd enc sz w s) (hb : ∀ b o, s.A = some ⟨b, o, none⟩ → b < w.heap.size → w'.heap[b]? = w.heap[b]?) (hz : w.heap.size ≤ w'.heap.size) : Rd enc sz w' s := fun k x hx => by
  obtain ⟨b, o, hA, hlt, hc⟩ := h k x hx
  exact ⟨b, o, hA, Nat.lt_of_lt_of_le hlt hz, fun j v hv => (World.cell?_of_block (a := ⟨b, o + k * sz + j, none⟩) (hb b o hA hlt)).trans (hc j v hv)⟩
theorem Rd.nil (w : World) (A : Option Addr) (c : Nat) : Rd enc sz w ⟨A, c, []⟩ := fun k x hx => by simp at hx
theorem Rd.congr {t : Sl α} (h : Rd enc sz w s) (hA : t.A = s.A) (hx : t.xs = s.xs) : Rd enc sz w t := fun k x hk => by
  rw [hx] at hk; rw [hA]; exact h k x hk

/-- The slice is the call's own: it lies at the head of a block from lo on that nothing else shares. -/
def Own (enc : α → List Value) (sz : Nat) (e : TypeId) (w : World) (lo : Nat) (s : Sl α) : Prop :=
  w.ownsRow lo e sz (.slice s.A s.xs.length s.c) s.xs.length (s.xs.flatMap enc)
theorem Own.none_ (w : World) : Own enc sz e w lo ⟨none, 0, []⟩ := by unfold Own; exact World.ownsRow_nil w lo e sz
theorem Own.blk_lt (h : Own enc sz e w lo s) {g : Nat} (hg : s.blk = some g) : lo ≤ g ∧ g < w.heap.size := by
  refine World.ownsRow.lt h g ?_
  unfold Sl.blk at hg
  cases hA : s.A with
  | none => rw [hA] at hg; simp at hg
  | some a => rw [hA] at hg; simpa [Value.ownBlock] using hg
theorem Own.mono {lo' : Nat} (h : Own enc sz e w lo s) (hl : lo' ≤ lo) : Own enc sz e w lo' s := by
  obtain ⟨h1, h2⟩ := h
  refine ⟨h1, ?_⟩
  rcases h2 with h2 | ⟨g, cap, cur, hv, hg, r⟩
  · exact .inl h2
  · exact .inr ⟨g, cap, cur, hv, by omega, r⟩
theorem Own.kept (h : Own enc sz e w lo s) (hk : ∀ g, s.blk = some g → g < w.heap.size → w'.heap[g]? = w.heap[g]?) : Own enc sz e w' lo s := by
  obtain ⟨h1, h2⟩ := h
  refine ⟨h1, ?_⟩
  rcases h2 with h2 | ⟨g, cap, cur, hv, hg, hh, r⟩
  · exact .inl h2
  · have hA : s.A = some ⟨g, 0, none⟩ := by injection hv
    refine .inr ⟨g, cap, cur, hv, hg, ?_, r⟩
    rw [hk g (by simp [Sl.blk, hA]) (Array.getElem?_eq_some_iff.1 hh).1]; exact hh
theorem Own.keep (h : Own enc sz e w lo s) (hk : Keeps lo w.heap.size w w') : Own enc sz e w' lo s :=
  h.kept fun g hg hlt => hk g (h.blk_lt hg).1 hlt
theorem Own.below (h : Own enc sz e w lo s) {B : Nat} (hb : Below B w w') (hB : w.heap.size ≤ B) : Own enc sz e w' lo s :=
  h.kept fun g _ hlt => hb.block g (by omega)
theorem Own.form (h : Own enc sz e w lo s) (hA : ∃ a, s.A = some a) : ∃ g cur, s.A = some ⟨g, 0, none⟩ ∧ lo ≤ g ∧ g < w.heap.size ∧ w.heap[g]? = some (.cells cur e (0, 0)) ∧ s.xs.length ≤ s.c ∧ s.c ≤ maxLen ∧ cur.size = s.c * sz ∧ cur.toList.take (s.xs.length * sz) = s.xs.flatMap enc := by
  obtain ⟨_, h2⟩ := h
  obtain ⟨a, ha⟩ := hA
  rcases h2 with ⟨h2, _⟩ | ⟨g, cap, cur, hv, hg, hh, r⟩
  · rw [ha] at h2; injection h2 with h2; cases h2
  · injection hv with hv1 hv2 hv3
    subst hv3
    exact ⟨g, cur, hv1, hg, (Array.getElem?_eq_some_iff.1 hh).1, hh, r⟩
theorem flat_len (henc : ∀ x, (enc x).length = sz) (l : List α) : (l.flatMap enc).length = l.length * sz := by
  induction l with
  | nil => simp
  | cons x l ih => simp [List.flatMap_cons, ih, henc, Nat.succ_mul]; omega
theorem flat_get (henc : ∀ x, (enc x).length = sz) : ∀ (l : List α) (k : Nat) (x : α) (j : Nat) (v : Value), l[k]? = some x → (enc x)[j]? = some v → (l.flatMap enc)[k * sz + j]? = some v
  | [], k, x, j, v, h, _ => by simp at h
  | y :: l, 0, x, j, v, h, hj => by
    simp at h; subst h
    rw [List.flatMap_cons, List.getElem?_append_left (by have := (List.getElem?_eq_some_iff.1 hj).1; omega)]
    simpa using hj
  | y :: l, k + 1, x, j, v, h, hj => by
    have ih := flat_get henc l k x j v (by simpa using h) hj
    rw [List.flatMap_cons, List.getElem?_append_right (by rw [henc, Nat.succ_mul]; omega), henc]
    rw [← ih]; congr 1; rw [Nat.succ_mul]; omega
theorem Own.rd (h : Own enc sz e w lo s) (henc : ∀ x, (enc x).length = sz) : Rd enc sz w s := fun k x hx => by
  obtain ⟨h1, h2⟩ := h
  have hk : k < s.xs.length := (List.getElem?_eq_some_iff.1 hx).1
  rcases h2 with ⟨_, h2⟩ | ⟨g, cap, cur, hv, hg, hh, hn, hm, hs, ht⟩
  · omega
  · injection hv with hA
    refine ⟨g, 0, hA, (Array.getElem?_eq_some_iff.1 hh).1, fun j v hj => ?_⟩
    have hget := flat_get henc s.xs k x j v hx hj
    rw [← ht] at hget
    rw [cell_of_row w g _ cur e (0, 0) hh]
    rw [List.getElem?_take] at hget
    split at hget
    · rw [Nat.zero_add]; simpa using hget
    · cases hget
theorem own_new (w : World) (cs : Array Value) (c : Nat) (xs : List α) (hlo : lo ≤ w.heap.size) (hcs : cs.toList = xs.flatMap enc) (hl : cs.size = xs.length * sz) (hc : c = xs.length) (hm : xs.length ≤ maxLen) : Own enc sz e (w.alloc (.cells cs e)) lo ⟨some ⟨w.heap.size, 0, none⟩, c, xs⟩ := by
  subst hc
  have := World.ownsRow_lit (base := lo) (e := e) (size := sz) w cs xs.length hlo hm hl
  unfold Own
  rw [← hcs]; exact this
theorem own_nothing (w : World) (hlo : lo ≤ w.heap.size) : Own enc sz e (w.alloc (.cells #[] e)) lo ⟨some ⟨w.heap.size, 0, none⟩, 0, []⟩ :=
  own_new w #[] 0 [] hlo (by simp) (by simp) rfl (by simp [maxLen])
end

/-- What an append wants to know of an element type. -/
structure EInfo (P : Program) {α : Type} (enc : α → List Value) (sz bytes : Nat) (e t : TypeId) : Prop where
  ht : P.underlying t = some (.slice e)
  hi : ∃ i z, P.info? e = some i ∧ i.zero = some z ∧ i.size = sz ∧ i.bytes = bytes ∧ z.cells.size = sz
  hsz : 0 < sz
  henc : ∀ x, (enc x).length = sz
  hone : ∀ x, ∀ u ∈ enc x, u.oneCell' = true

section
variable {P : Program} (w : World) {α : Type} {enc : α → List Value} {sz bytes : Nat} {e t : TypeId}
theorem run_append_Sl (E : EInfo P enc sz bytes e t) (ty : TypeId) (lo : Nat) (d : Sl α) (hd : Own enc sz e w lo d) (src : Sl α) (hs : Rd enc sz w src)
    (h63 : d.xs.length + src.xs.length ≤ maxLen) (hbytes : (d.xs.length + src.xs.length) * bytes ≤ 140737488355328) (hlo : lo ≤ w.heap.size) :
    ∃ d' w', (Builtin.append_ #[t, t] ty #[.slice d.A d.xs.length d.c, .slice src.A src.xs.length src.c]).run P w = .ok d'.val w' ∧ d'.xs = d.xs ++ src.xs ∧ Own enc sz e w' lo d' ∧ w.grownBy w' d.blk ∧
      (d'.A = d.A ∨ d'.A = some ⟨w.heap.size, 0, none⟩) := by
  obtain ⟨i, z, hi, hz, hsize, hby, hzs⟩ := E.hi
  by_cases hn : src.xs = []
  · refine ⟨d, w, ?_, by simp [hn], hd, World.grownBy.refl w _, .inl rfl⟩
    rcases hd.2 with ⟨hv, h0⟩ | ⟨g, cap, cur, hv, hg, hh, hnc, hm, hcs, ht⟩
    · rw [Sl.val, hv]
      cases src with
      | mk A c xs =>
        simp only at hn; subst hn
        cases A <;> simp [Builtin.append_, run_underlying E.ht, sizeOf, typeInfo, hi, Builtin.lenOf, Builtin.firstCells, loadCells, loadCellsFrom]
    · rw [Sl.val, hv]
      have hr : ∀ A c, (Builtin.append_ #[t, t] ty #[.slice (some ⟨g, 0, none⟩) d.xs.length cap, .slice A 0 c]).run P w = .ok (.slice (some ⟨g, 0, none⟩) d.xs.length cap) w := by
        intro A c
        cases A <;> simp [Builtin.append_, run_underlying E.ht, sizeOf, typeInfo, hi, Builtin.lenOf, Builtin.firstCells, hnc, storeCells, loadCells, loadCellsFrom]
      cases src with
      | mk A c xs =>
        simp only at hn; subst hn
        exact hr A c
  · have hpos : 0 < src.xs.length := List.length_pos_iff.2 hn
    obtain ⟨x0, hx0⟩ : ∃ x, src.xs[0]? = some x := ⟨src.xs[0], List.getElem?_eq_getElem hpos⟩
    obtain ⟨b, o, hA, hb, _⟩ := hs 0 x0 hx0
    have hnews : ∀ j u, (src.xs.flatMap enc)[j]? = some u → w.cell? ((⟨b, o, none⟩ : Addr).add j) = some u := by
      intro j u hu
      have hj : j < src.xs.length * sz := by rw [← flat_len E.henc]; exact (List.getElem?_eq_some_iff.1 hu).1
      have hk : j / sz < src.xs.length := Nat.div_lt_of_lt_mul (by rw [Nat.mul_comm]; exact hj)
      have hkx : src.xs[j / sz]? = some src.xs[j / sz] := List.getElem?_eq_getElem hk
      have hjs : j % sz < (enc src.xs[j / sz]).length := by rw [E.henc]; exact Nat.mod_lt _ E.hsz
      have hjv : (enc src.xs[j / sz])[j % sz]? = some (enc src.xs[j / sz])[j % sz] := List.getElem?_eq_getElem hjs
      obtain ⟨b', o', hA', _, hc'⟩ := hs _ _ hkx
      rw [hA] at hA'; injection hA' with hA'; injection hA' with hb' ho'
      subst hb'; subst ho'
      have h1 := hc' _ _ hjv
      have h2 := flat_get E.henc src.xs _ _ _ _ hkx hjv
      have hdm : j / sz * sz + j % sz = j := by rw [Nat.mul_comm]; exact Nat.div_add_mod j sz
      rw [hdm] at h2
      rw [hu] at h2; injection h2 with h2
      rw [← h2] at h1
      have hadd : (⟨b, o, none⟩ : Addr).add j = ⟨b, o + j / sz * sz + j % sz, none⟩ := by
        rw [Nat.add_assoc, hdm]; unfold Addr.add; split <;> simp_all
      rw [hadd]; exact h1
    obtain ⟨v', w', hr, h2, h3, h4, h5⟩ := run_append_own_at (P := P) w lo t ty e i z sz bytes E.ht hi hz hsize hby hzs E.hsz _ d.xs.length (d.xs.flatMap enc) hd ⟨b, o, none⟩ src.xs.length src.c (src.xs.flatMap enc) (flat_len E.henc _) hnews
      (fun u hu => by obtain ⟨x, _, hux⟩ := List.mem_flatMap.1 hu; exact E.hone x u hux) h63 hbytes hlo
    obtain ⟨g, cap, rfl, hg, hgl⟩ := h2.form (by omega)
    refine ⟨⟨some ⟨g, 0, none⟩, cap, d.xs ++ src.xs⟩, w', by rw [hA, hr]; simp [Sl.val], rfl, ?_, ?_, ?_⟩
    · unfold Own; simpa using h2
    · have : d.blk = (Value.slice d.A d.xs.length d.c).ownBlock := by unfold Sl.blk; cases d.A <;> rfl
      rw [this]; exact h3
    · rcases h5 with h5 | h5
      · left
        rcases hd.2 with ⟨hv, h0⟩ | ⟨g', cap', cur, hv, hg', hh, _⟩
        · injection hv with hv1; rw [hv1] at h5; simp [Value.ownBlock] at h5
        · injection hv with hv1; rw [hv1] at h5; simp [Value.ownBlock] at h5
          rw [hv1, h5]
      · right
        simp [Value.ownBlock] at h5
        rw [h5]

theorem wp_append_Sl (E : EInfo P enc sz bytes e t) {o : Oper} {a : Act} {K : Act → World → Prop} {Q : Exit → Act → World → Prop} (s x : Operand)
    (ho : o.op = .call { callee := .builtin .append, args := #[s, x], argTypes := #[t, t] }) (lo : Nat) (d : Sl α) (hds : a.eval s = d.val) (hd : Own enc sz e w lo d) (src : Sl α) (hsx : a.eval x = src.val) (hs : Rd enc sz w src)
    (h63 : d.xs.length + src.xs.length ≤ maxLen) (hbytes : (d.xs.length + src.xs.length) * bytes ≤ 140737488355328) (hlo : lo ≤ w.heap.size)
    (h : ∀ d' w', Hid (d'.xs = d.xs ++ src.xs) → Own enc sz e w' lo d' → w.grownBy w' d.blk → (d'.A = d.A ∨ d'.A = some ⟨w.heap.size, 0, none⟩) → K (a.put o.dst (.slice d'.A d'.xs.length d'.c)) w') : o.wp P a w K Q := by
  obtain ⟨d', w', hr, h2, h3, h4, h5⟩ := run_append_Sl (P := P) w E o.type lo d hd src hs h63 hbytes hlo
  unfold Oper.wp execOp
  simp only [ho, resolve, invoke, builtin, Sem.run_bind, Sem.run_pure, Result.andThen_ok, List.map_toArray, List.map_cons, List.map_nil, hds, hsx, Sl.val, hr]
  exact h d' w' h2 h3 h4 h5

theorem wpList_append_Sl (E : EInfo P enc sz bytes e t) {ops : Array Oper} {rest : List Oper} {o : Oper} {a : Act} {Q : Exit → Act → World → Prop} (hgd : o.guard = none) (s x : Operand)
    (ho : o.op = .call { callee := .builtin .append, args := #[s, x], argTypes := #[t, t] }) (lo : Nat) (d : Sl α) (hds : a.eval s = d.val) (hd : Own enc sz e w lo d) (src : Sl α) (hsx : a.eval x = src.val) (hs : Rd enc sz w src)
    (h63 : d.xs.length + src.xs.length ≤ maxLen) (hbytes : (d.xs.length + src.xs.length) * bytes ≤ 140737488355328) (hlo : lo ≤ w.heap.size)
    (h : ∀ d' w', Hid (d'.xs = d.xs ++ src.xs) → Own enc sz e w' lo d' → w.grownBy w' d.blk → (d'.A = d.A ∨ d'.A = some ⟨w.heap.size, 0, none⟩) → wpList P ops Q rest (a.put o.dst (.slice d'.A d'.xs.length d'.c)) w') : wpList P ops Q (o :: rest) a w :=
  wpList_plain hgd fun _ hK => wp_append_Sl w E s x ho lo d hds hd src hsx hs h63 hbytes hlo fun d' w' h2 h3 h4 h5 => hK _ _ (h d' w' h2 h3 h4 h5)
end
end Go.Proofs.YtaafnenmdombiaaGreat
