/- What a call knows of the memory that it has made, in one word: a list of parts that lie apart (variables known whole, slices and guests of its own), below which nothing has turned. Over any program; plain theorems, no condition. -/
import Derived.Test.YtaafnenmdombiaaGreatWp
import Derived.Deep.QuietTactic
import Derived.BigQuiet
import Derived.Great.BuildSlice
namespace Go.Proofs.YtaafnenmdombiaaGreat
open Go.RowKit

/-- A part of memory that a call has made: its blocks, and what is known of them. -/
structure En where
  bl : List Nat
  ok : World → Prop
  loc : ∀ {w w' : World}, ok w → w.heap.size ≤ w'.heap.size → (∀ b ∈ bl, w'.heap[b]? = w.heap[b]?) → ok w'
  lt : ∀ {w : World}, ok w → ∀ b ∈ bl, b < w.heap.size
/-- The parts L lie apart, above what was there at w0, and nothing that was there has turned. -/
structure Hp (w0 w : World) (L : List En) : Prop where
  below : Below w0.heap.size w0 w
  ok : ∀ e ∈ L, e.ok w
  nd : (L.flatMap En.bl).Nodup
  ge : ∀ b ∈ L.flatMap En.bl, w0.heap.size ≤ b
inductive Take : List En → En → List En → Prop
  | head {e l} : Take (e :: l) e l
  | tail {x e l l'} : Take l e l' → Take (x :: l) e (x :: l')
theorem Take.perm {L L' : List En} {e : En} (t : Take L e L') : L.Perm (e :: L') := by
  induction t with
  | head => exact List.Perm.refl _
  | tail _ ih => exact (List.Perm.cons _ ih).trans (List.Perm.swap _ _ _)
theorem Take.mem {L L' : List En} {e : En} (t : Take L e L') : e ∈ L := t.perm.mem_iff.2 (by simp)
section
variable {w0 w w' : World} {L L' : List En} {e e' : En}
theorem Hp.start (w : World) : Hp w w [] := ⟨Below.refl _ _, by simp, by simp, by simp⟩
theorem Hp.perm (H : Hp w0 w L) (p : L.Perm L') : Hp w0 w L' :=
  ⟨H.below, fun e he => H.ok e (p.mem_iff.2 he), (p.flatMap_right _).nodup_iff.1 H.nd, fun b hb => H.ge b ((p.flatMap_right _).mem_iff.2 hb)⟩
theorem Hp.take (H : Hp w0 w L) (t : Take L e L') : Hp w0 w (e :: L') := H.perm t.perm
theorem Hp.get (H : Hp w0 w L) (t : Take L e L') : e.ok w := H.ok e t.mem
theorem Hp.drop (H : Hp w0 w (e :: L)) : Hp w0 w L := by
  have nd := H.nd
  rw [List.flatMap_cons, List.nodup_append] at nd
  exact ⟨H.below, fun x hx => H.ok x (by simp [hx]), nd.2.1, fun b hb => H.ge b (by simp only [List.flatMap_cons, List.mem_append]; exact .inr hb)⟩
theorem Hp.lt (H : Hp w0 w L) {b : Nat} (hb : b ∈ L.flatMap En.bl) : b < w.heap.size := by
  obtain ⟨e, he, hb⟩ := List.mem_flatMap.1 hb
  exact e.lt (H.ok e he) b hb
/-- The head part has turned into another, of its own blocks and of new ones. -/
theorem Hp.turn (H : Hp w0 w (e :: L)) (hT : Touch e.bl w w') (hok : e'.ok w') (hbl : ∀ b ∈ e'.bl, b ∈ e.bl ∨ w.heap.size ≤ b) (hnd : e'.bl.Nodup) : Hp w0 w' (e' :: L) := by
  have nd := H.nd
  rw [List.flatMap_cons, List.nodup_append] at nd
  have hge : ∀ b ∈ e.bl, w0.heap.size ≤ b := fun b hb => H.ge b (by simp only [List.flatMap_cons, List.mem_append]; exact .inl hb)
  refine ⟨below_touch H.below hT H.below.size hge, ?_, ?_, ?_⟩
  · intro x hx
    rcases List.mem_cons.1 hx with rfl | hx
    · exact hok
    · refine x.loc (H.ok x (by simp [hx])) hT.size fun b hb => hT.block b (x.lt (H.ok x (by simp [hx])) b hb) fun he => ?_
      exact nd.2.2 b he b (List.mem_flatMap.2 ⟨x, hx, hb⟩) rfl
  · rw [List.flatMap_cons, List.nodup_append]
    refine ⟨hnd, nd.2.1, ?_⟩
    intro b hb c hc hbc
    subst hbc
    rcases hbl b hb with h | h
    · exact nd.2.2 b h b hc rfl
    · have := H.drop.lt hc; omega
  · intro b hb
    rw [List.flatMap_cons, List.mem_append] at hb
    rcases hb with hb | hb
    · rcases hbl b hb with h | h
      · exact hge b h
      · have := H.below.size; omega
    · exact H.drop.ge b hb
/-- A new part. -/
theorem Hp.add (H : Hp w0 w L) (hb : Below w.heap.size w w') (hok : e.ok w') (hge : ∀ b ∈ e.bl, w.heap.size ≤ b) (hnd : e.bl.Nodup) : Hp w0 w' (e :: L) := by
  refine ⟨H.below.trans (hb.mono H.below.size), ?_, ?_, ?_⟩
  · intro x hx
    rcases List.mem_cons.1 hx with rfl | hx
    · exact hok
    · exact x.loc (H.ok x hx) hb.size fun b hb' => hb.block b (x.lt (H.ok x hx) b hb')
  · rw [List.flatMap_cons, List.nodup_append]
    refine ⟨hnd, H.nd, ?_⟩
    intro b hb1 c hc hbc
    subst hbc
    have := hge b hb1
    have := H.lt hc; omega
  · intro b hb1
    rw [List.flatMap_cons, List.mem_append] at hb1
    rcases hb1 with h | h
    · have := hge b h; have := H.below.size; omega
    · exact H.ge b h
theorem Hp.still (H : Hp w0 w L) (hb : Below w.heap.size w w') : Hp w0 w' L :=
  ⟨H.below.trans (hb.mono H.below.size), fun x hx => x.loc (H.ok x hx) hb.size fun b hb' => hb.block b (x.lt (H.ok x hx) b hb'), H.nd, H.ge⟩
theorem Hp.drew (H : Hp w0 w L) : Hp w0 w.drew L := H.still (Below.refl _ _).drew
end
/-- What was readable at the call's begin is readable now. -/
theorem Rd.at_ {α : Type} {enc : α → List Value} {sz : Nat} {s : Sl α} {w0 w : World} {L : List En} (h : Rd enc sz w0 s) (H : Hp w0 w L) : Rd enc sz w s := h.below H.below (Nat.le_refl _)
theorem GRd.at_ {g : GV} {w0 w : World} {L : List En} (h : GRd w0 g) (H : Hp w0 w L) : GRd w g := h.below H.below (Nat.le_refl _)

/-! ### the kinds of parts -/
/-- A variable known whole. -/
def En.box (b : Nat) (e : TypeId) (cs : List Value) : En where
  bl := [b]
  ok w := Rw w b e cs.toArray
  loc h _ hb := h.keep (hb _ (by simp))
  lt h b hb := by simp at hb; subst hb; exact h.lt
/-- A slice of the call's own. -/
def En.sl {α : Type} (enc : α → List Value) (sz : Nat) (e : TypeId) (s : Sl α) : En where
  bl := s.blk.toList
  ok w := Own enc sz e w 0 s
  loc h _ hb := h.kept fun g hg _ => hb g (by simp [hg])
  lt h _ hb := (h.blk_lt (by simpa using hb)).2
/-- A guest of the call's own. -/
def En.gst (g : GV) : En where
  bl := g.blks
  ok w := GOwn w 0 g
  loc h _ hb := by
    simp only [GV.blks, List.mem_append, Option.mem_toList] at hb
    exact ⟨h.prog.kept fun b hg _ => hb b (by simp [hg]), h.written.kept fun b hg _ => hb b (by simp [hg]), h.live.kept fun b hg _ => hb b (by simp [hg]), h.seen.kept fun b hg _ => hb b (by simp [hg]), h.nd⟩
  lt h _ hb := (h.blk_lt hb).2
abbrev En.ins (s : Sl Ins) : En := En.sl Ins.cells 2 45 s
abbrev En.slot (s : Sl Slot) : En := En.sl Slot.cells 2 56 s
abbrev En.int (s : Sl Int) : En := En.sl icell 1 3 s
theorem Own.lift {α : Type} {enc : α → List Value} {sz : Nat} {e : TypeId} {w : World} {lo : Nat} {s : Sl α} (h : Own enc sz e w 0 s) (hg : ∀ g, s.blk = some g → lo ≤ g) : Own enc sz e w lo s := by
  obtain ⟨h1, h2⟩ := h
  refine ⟨h1, ?_⟩
  rcases h2 with h2 | ⟨g, cap, cur, hv, _, r⟩
  · exact .inl h2
  · have hA : s.A = some ⟨g, 0, none⟩ := by injection hv
    exact .inr ⟨g, cap, cur, hv, hg g (by simp [Sl.blk, hA]), r⟩
section
variable {w0 w w' : World} {L : List En} {α : Type} {enc : α → List Value} {sz : Nat} {e : TypeId} {s : Sl α} {g : GV}
theorem Hp.own (H : Hp w0 w L) {L' : List En} (t : Take L (.sl enc sz e s) L') : Own enc sz e w w0.heap.size s :=
  Own.lift (H.get t) fun _ hb => H.ge _ (List.mem_flatMap.2 ⟨_, t.mem, by simp [En.sl, hb]⟩)
theorem Hp.gown (H : Hp w0 w L) {L' : List En} (t : Take L (.gst g) L') : GOwn w w0.heap.size g := by
  have h : GOwn w 0 g := H.get t
  have hg : ∀ b ∈ g.blks, w0.heap.size ≤ b := fun b hb => H.ge b (List.mem_flatMap.2 ⟨_, t.mem, hb⟩)
  simp only [GV.blks, List.mem_append, Option.mem_toList] at hg
  exact ⟨h.prog.lift fun b hb => hg b (by simp [hb]), h.written.lift fun b hb => hg b (by simp [hb]), h.live.lift fun b hb => hg b (by simp [hb]), h.seen.lift fun b hb => hg b (by simp [hb]), h.nd⟩
theorem blk_nodup (s : Sl α) : s.blk.toList.Nodup := by cases s.blk <;> simp
/-- Behind a call that hands back a slice of its own. -/
theorem Hp.add_sl (H : Hp w0 w L) (ho : Own enc sz e w' w.heap.size s) (hb : Below w.heap.size w w') : Hp w0 w' (.sl enc sz e s :: L) :=
  H.add hb (ho.mono (Nat.zero_le _)) (fun b hb => (ho.blk_lt (by simpa [En.sl] using hb)).1) (blk_nodup s)
theorem Hp.add_gst (H : Hp w0 w L) (ho : GOwn w' w.heap.size g) (hb : Below w.heap.size w w') : Hp w0 w' (.gst g :: L) :=
  H.add hb (ho.mono (Nat.zero_le _)) (fun _ hb => (ho.blk_lt hb).1) ho.nd
theorem Hp.add_box (H : Hp w0 w L) (cs : List Value) (t : TypeId) : Hp w0 (w.alloc (.cells cs.toArray t)) (.box w.heap.size t cs :: L) :=
  H.add ((Below.refl _ _).alloc (Nat.le_refl _) _) (Rw.new _ _ _) (by simp [En.box]) (by simp [En.box])
/-- Four slices are a guest. -/
theorem Hp.guest {p : Sl Ins} {wr lv : Sl Slot} {sn : Sl Int} (H : Hp w0 w (.ins p :: .slot wr :: .slot lv :: .int sn :: L)) (a pc : Int) (ctl : Ctl) (pn : Int) (x : Exit) (hd : Bool) :
    Hp w0 w (.gst ⟨p, a, pc, wr, lv, ctl, pn, x, hd, sn⟩ :: L) := by
  have nd := H.nd
  simp only [List.flatMap_cons] at nd
  rw [← List.append_assoc, ← List.append_assoc, ← List.append_assoc] at nd
  refine ⟨H.below, ?_, by simpa [En.gst, GV.blks, En.sl] using nd, fun b hb => H.ge b (by simpa [En.gst, GV.blks, En.sl] using hb)⟩
  intro y hy
  rcases List.mem_cons.1 hy with rfl | hy
  · exact ⟨H.ok (.ins p) (by simp), H.ok (.slot wr) (by simp), H.ok (.slot lv) (by simp), H.ok (.int sn) (by simp), (List.nodup_append.1 nd).1⟩
  · exact H.ok _ (by simp [hy])
/-- A guest is four slices. -/
theorem Hp.slices (H : Hp w0 w (.gst g :: L)) : Hp w0 w (.ins g.prog :: .slot g.written :: .slot g.live :: .int g.seen :: L) := by
  have h : GOwn w 0 g := H.ok (.gst g) (by simp)
  refine ⟨H.below, ?_, by simpa [En.gst, GV.blks, En.sl] using H.nd, fun b hb => H.ge b (by simpa [En.gst, GV.blks, En.sl] using hb)⟩
  intro y hy
  simp only [List.mem_cons] at hy
  rcases hy with rfl | rfl | rfl | rfl | hy
  · exact h.prog
  · exact h.written
  · exact h.live
  · exact h.seen
  · exact H.ok _ (by simp [hy])
end

/-! ### cells of a variable -/
inductive SetAt : List Value → Nat → Value → List Value → Prop
  | here {x v l} : SetAt (x :: l) 0 v (v :: l)
  | there {x v l l' n} : SetAt l n v l' → SetAt (x :: l) (n + 1) v (x :: l')
theorem SetAt.eq {l l' : List Value} {n : Nat} {v : Value} (h : SetAt l n v l') : l' = l.set n v := by induction h with | here => rfl | there _ ih => simp [ih]
inductive SetsAt : List Value → Nat → List Value → List Value → Prop
  | nil {l} : SetsAt l 0 [] l
  | here {x v l l' vs} : SetsAt l 0 vs l' → SetsAt (x :: l) 0 (v :: vs) (v :: l')
  | there {x l l' n vs} : SetsAt l n vs l' → SetsAt (x :: l) (n + 1) vs (x :: l')
theorem SetsAt.eq {l l' vs : List Value} {n : Nat} (h : SetsAt l n vs l') : l' = l.take n ++ vs ++ l.drop (n + vs.length) ∧ n + vs.length ≤ l.length := by
  induction h with
  | nil => simp
  | here _ ih => obtain ⟨h1, h2⟩ := ih; simp at h1 h2 ⊢; exact ⟨h1, h2⟩
  | @there x l l' n vs _ ih =>
    obtain ⟨h1, h2⟩ := ih
    refine ⟨?_, by simp; omega⟩
    rw [h1, show n + 1 + vs.length = (n + vs.length) + 1 by omega]; simp
inductive GetsAt : List Value → Nat → Nat → List Value → Prop
  | nil {l} : GetsAt l 0 0 []
  | here {x l n vs} : GetsAt l 0 n vs → GetsAt (x :: l) 0 (n + 1) (x :: vs)
  | there {x l i n vs} : GetsAt l i n vs → GetsAt (x :: l) (i + 1) n vs
theorem GetsAt.eq {l vs : List Value} {i n : Nat} (h : GetsAt l i n vs) : vs.length = n ∧ ∀ j v, vs[j]? = some v → l[i + j]? = some v := by
  induction h with
  | nil => exact ⟨rfl, fun j v h => by simp at h⟩
  | here _ ih =>
    refine ⟨by simp [ih.1], fun j v h => ?_⟩
    cases j with
    | zero => simpa using h
    | succ j => have := ih.2 j v (by simpa using h); simp at this ⊢; exact this
  | @there x l i n vs _ ih => exact ⟨ih.1, fun j v h => by have := ih.2 j v h; rw [show i + 1 + j = (i + j) + 1 by omega]; simpa using this⟩
inductive CellsOf : Value → List Value → Prop
  | agg {cs : List Value} : CellsOf (.agg cs.toArray) cs
  | int {k n} : CellsOf (.int k n) [.int k n]
  | bool {b} : CellsOf (.bool b) [.bool b]
  | slice {A n c} : CellsOf (.slice A n c) [.slice A n c]
  | string {b} : CellsOf (.string b) [.string b]
  | pointer {p} : CellsOf (.pointer p) [.pointer p]
  | func {f x y} : CellsOf (.func f x y) [.func f x y]
theorem CellsOf.eq {v : Value} {cs : List Value} (h : CellsOf v cs) : v.cells = cs.toArray := by
  cases h <;> rfl

/-! ### what a walk asks of a type -/
class TyN (P : Program) (ty : TypeId) (n : outParam Nat) : Prop where
  size : (P.info? ty).map (·.size) = some n
class TyS (P : Program) (ty : TypeId) : Prop where
  plain : (P.underlying ty).map (fun d => match d with | .struct _ | .array _ _ => true | _ => false) = some false
  size : (P.info? ty).map (·.size) = some 1
class TyA (P : Program) (ty : TypeId) (n : outParam Nat) : Prop where
  agg : (P.underlying ty).map (fun d => match d with | .struct _ | .array _ _ => true | _ => false) = some true
  size : (P.info? ty).map (·.size) = some n
class TyZ (P : Program) (ty : TypeId) (cs : outParam (List Value)) : Prop where
  zero : ((P.info? ty).bind (·.zero)).map (·.cells.toList) = some cs
instance tyN_S {P : Program} {ty : TypeId} [h : TyS P ty] : TyN P ty 1 := ⟨h.size⟩
instance tyN_A {P : Program} {ty : TypeId} {n : Nat} [h : TyA P ty n] : TyN P ty n := ⟨h.size⟩
theorem TyS.isAgg {P : Program} {ty : TypeId} (h : TyS P ty) (w : World) : (isAgg ty).run P w = .ok false w := by
  have hp := h.plain
  cases hu : P.underlying ty with
  | none => simp [hu] at hp
  | some d =>
    rw [hu] at hp; unfold Go.isAgg; rw [Sem.run_bind, run_underlying hu w]; cases d <;> simp_all
theorem TyA.isAgg {P : Program} {ty : TypeId} {n : Nat} (h : TyA P ty n) (w : World) : (isAgg ty).run P w = .ok true w := by
  have hp := h.agg
  cases hu : P.underlying ty with
  | none => simp [hu] at hp
  | some d =>
    rw [hu] at hp; unfold Go.isAgg; rw [Sem.run_bind, run_underlying hu w]; cases d <;> simp_all

/-! ### where in the list -/
inductive LoadAt : List En → Nat → Nat → Value → Prop
  | here {b e i cs v l} (h : cs[i]? = some v) : LoadAt (.box b e cs :: l) b i v
  | there {x b i v l} : LoadAt l b i v → LoadAt (x :: l) b i v
theorem LoadAt.eq {L : List En} {b i : Nat} {v : Value} (h : LoadAt L b i v) : ∃ e cs L', Take L (.box b e cs) L' ∧ cs[i]? = some v := by
  induction h with
  | here h => exact ⟨_, _, _, .head, h⟩
  | there _ ih => obtain ⟨e, cs, L', t, h⟩ := ih; exact ⟨e, cs, _, .tail t, h⟩
inductive LoadsAt : List En → Nat → Nat → Nat → List Value → Prop
  | here {b e i n cs vs l} (h : GetsAt cs i n vs) : LoadsAt (.box b e cs :: l) b i n vs
  | there {x b i n vs l} : LoadsAt l b i n vs → LoadsAt (x :: l) b i n vs
theorem LoadsAt.eq {L : List En} {b i n : Nat} {vs : List Value} (h : LoadsAt L b i n vs) : ∃ e cs L', Take L (.box b e cs) L' ∧ GetsAt cs i n vs := by
  induction h with
  | here h => exact ⟨_, _, _, .head, h⟩
  | there _ ih => obtain ⟨e, cs, L', t, h⟩ := ih; exact ⟨e, cs, _, .tail t, h⟩
inductive StoreAt : List En → Nat → Nat → Value → Nat → List En → Prop
  | here {b e i v n vs cs cs' l} (h0 : CellsOf v vs) (h1 : SetsAt cs i vs cs') (h2 : vs.length = n) (h3 : vs.all Value.oneCell' = true) : StoreAt (.box b e cs :: l) b i v n (.box b e cs' :: l)
  | there {x b i v n l l'} : StoreAt l b i v n l' → StoreAt (x :: l) b i v n (x :: l')
theorem StoreAt.eq {L L2 : List En} {b i n : Nat} {v : Value} (h : StoreAt L b i v n L2) : ∃ e vs cs cs' L', Take L (.box b e cs) L' ∧ Take L2 (.box b e cs') L' ∧ CellsOf v vs ∧ SetsAt cs i vs cs' ∧ vs.length = n ∧ vs.all Value.oneCell' = true := by
  induction h with
  | here h0 h1 h2 h3 => exact ⟨_, _, _, _, _, .head, .head, h0, h1, h2, h3⟩
  | there _ ih => obtain ⟨e, vs, cs, cs', L', t, t2, r⟩ := ih; exact ⟨e, vs, cs, cs', _, .tail t, .tail t2, r⟩

/-! ### slices -/
class EI (P : Program) (t : TypeId) {α : outParam Type} (enc : outParam (α → List Value)) (sz bytes e : outParam Nat) : Prop where
  info : EInfo P enc sz bytes e t
/-- Where a slice's elements lie. -/
def ablk (A : Option Addr) : Nat := match A with | some a => a.block | none => 0
def aoff (A : Option Addr) : Nat := match A with | some a => a.off | none => 0
section
variable {α : Type} {enc : α → List Value} {sz : Nat} {e : TypeId} {w0 w : World} {s : Sl α} {L L' : List En}
theorem Rd.addr (h : Rd enc sz w s) {k : Nat} (hk : k < s.xs.length) : s.A = some ⟨ablk s.A, aoff s.A, none⟩ ∧ ablk s.A < w.heap.size := by
  obtain ⟨b, o, hA, hb, _⟩ := h k _ (List.getElem?_eq_getElem hk)
  rw [hA]; exact ⟨rfl, hb⟩
theorem Rd.cell (h : Rd enc sz w s) {k j : Nat} {y : α} {v : Value} (hk : s.xs[k]? = some y) (hv : (enc y)[j]? = some v) : w.cell? ⟨ablk s.A, aoff s.A + k * sz + j, none⟩ = some v := by
  obtain ⟨b, o, hA, hb, hc⟩ := h k y hk
  have := hc j v hv
  rw [hA]; exact this
/-- What is own can be read. -/
theorem Hp.rd (H : Hp w0 w L) (t : Take L (.sl enc sz e s) L') (henc : ∀ x, (enc x).length = sz) : Rd enc sz w s := (H.own t).rd henc
theorem Hp.rdI (H : Hp w0 w L) {s : Sl Int} (t : Take L (.int s) L') : Rd icell 1 w s := (H.own t).rd int_len
theorem Hp.rdS (H : Hp w0 w L) {s : Sl Slot} (t : Take L (.slot s) L') : Rd Slot.cells 2 w s := (H.own t).rd slot_len
theorem Hp.rdP (H : Hp w0 w L) {s : Sl Ins} (t : Take L (.ins s) L') : Rd Ins.cells 2 w s := (H.own t).rd ins_len
theorem Hp.grd (H : Hp w0 w L) {p : Sl Ins} {wr lv : Sl Slot} {sn : Sl Int} {L1 L2 L3 L4 : List En} (t1 : Take L (.ins p) L1) (t2 : Take L (.slot wr) L2) (t3 : Take L (.slot lv) L3) (t4 : Take L (.int sn) L4) {a pc : Int} {ctl : Ctl} {pn : Int} {x : Exit} {hd : Bool} :
    GRd w ⟨p, a, pc, wr, lv, ctl, pn, x, hd, sn⟩ := ⟨H.rdP t1, H.rdS t2, H.rdS t3, H.rdI t4⟩
/-- Four slices of the call's own are a guest of its own. -/
theorem Hp.gret (H : Hp w0 w L) {p : Sl Ins} {wr lv : Sl Slot} {sn : Sl Int} {L1 L2 L3 L4 : List En} (t1 : Take L (.ins p) L1) (t2 : Take L1 (.slot wr) L2) (t3 : Take L2 (.slot lv) L3) (t4 : Take L3 (.int sn) L4) {a pc : Int} {ctl : Ctl} {pn : Int} {x : Exit} {hd : Bool} :
    GOwn w w0.heap.size ⟨p, a, pc, wr, lv, ctl, pn, x, hd, sn⟩ := by
  have h : L.Perm (.ins p :: .slot wr :: .slot lv :: .int sn :: L4) :=
    t1.perm.trans ((t2.perm.cons _).trans (((t3.perm.cons _).cons _).trans ((((t4.perm.cons _).cons _).cons _))))
  exact ((H.perm h).guest a pc ctl pn x hd).gown .head
theorem touch_grown {w w' : World} (hg : w.grownBy w' s.blk) : Touch s.blk.toList w w' :=
  ⟨hg.os, hg.tape, hg.output, hg.size, fun k hk hn => hg.block k hk (fun e => hn (by simp [e.symm]))⟩
end

/-! ### laws for a walk -/
section
variable {P : Program} {ops : Array Oper} {rest : List Oper} {o : Oper} {a : Act} {w0 w : World} {L L' : List En} {Q : Go.Exit → Act → World → Prop}
theorem addj (b o j : Nat) : (⟨b, o, none⟩ : Addr).add j = ⟨b, o + j, none⟩ := by unfold Addr.add; split <;> simp_all
theorem run_load_H (H : Hp w0 w L) {ty : TypeId} {b i : Nat} (hS : TyS P ty) {v : Value} (hv : LoadAt L b i v) : (Instr.loadAt ty (.pointer (some ⟨b, i, none⟩))).run P w = .ok v w := by
  obtain ⟨e, cs, L', t, hv⟩ := hv.eq
  have hB : Rw w b e cs.toArray := H.get t
  have hc : w.cell? ⟨b, i, none⟩ = some v := by rw [hB.c]; simpa using hv
  simp [Instr.loadAt, Instr.sureAddr, loadVar, hS.isAgg, hc, go_sem]
theorem run_cells {ty : TypeId} {b i n : Nat} (hS : TyA P ty n) {vs : List Value} (hn : vs.length = n) (hv : ∀ j v, vs[j]? = some v → w.cell? ⟨b, i + j, none⟩ = some v) : (Instr.loadAt ty (.pointer (some ⟨b, i, none⟩))).run P w = .ok (.agg vs.toArray) w := by
  have hi := hS.size
  have hl : (loadCells ⟨b, i, none⟩ vs.length).run P w = .ok vs.toArray w :=
    run_loadCells_list (P := P) w ⟨b, i, none⟩ vs (fun j v hj => by rw [addj]; exact hv j v hj)
  unfold loadCells at hl
  cases hq : P.info? ty with
  | none => simp [hq] at hi
  | some inf =>
    have hs : inf.size = vs.length := by rw [hn]; simpa [hq] using hi
    simp [Instr.loadAt, Instr.sureAddr, loadVar, hS.isAgg, sizeOf, typeInfo, hq, hs, hl, go_sem]
theorem run_loads_H (H : Hp w0 w L) {ty : TypeId} {b i n : Nat} (hS : TyA P ty n) {vs : List Value} (hv : LoadsAt L b i n vs) : (Instr.loadAt ty (.pointer (some ⟨b, i, none⟩))).run P w = .ok (.agg vs.toArray) w := by
  obtain ⟨e, cs, L', t, hv⟩ := hv.eq
  have hB : Rw w b e cs.toArray := H.get t
  obtain ⟨hn, hv⟩ := hv.eq
  exact run_cells hS hn fun j v hj => by rw [hB.c]; simpa using hv j v hj
/-- A cell of an element. -/
theorem run_load_rd {α : Type} {enc : α → List Value} {sz : Nat} {s : Sl α} (hs : Rd enc sz w s) {ty : TypeId} (hS : TyS P ty) {k j : Nat} {y : α} {v : Value} (hk : s.xs[k]? = some y) (hv : (enc y)[j]? = some v) :
    (Instr.loadAt ty (.pointer (some ⟨ablk s.A, aoff s.A + k * sz + j, none⟩))).run P w = .ok v w := by
  simp [Instr.loadAt, Instr.sureAddr, loadVar, hS.isAgg, hs.cell hk hv, go_sem]
theorem run_loads_rd {α : Type} {enc : α → List Value} {sz : Nat} {s : Sl α} (hs : Rd enc sz w s) {ty : TypeId} {n : Nat} (hS : TyA P ty n) {k j : Nat} {y : α} {vs : List Value} (hk : s.xs[k]? = some y) (hv : GetsAt (enc y) j n vs) :
    (Instr.loadAt ty (.pointer (some ⟨ablk s.A, aoff s.A + k * sz + j, none⟩))).run P w = .ok (.agg vs.toArray) w := by
  obtain ⟨hn, hv⟩ := hv.eq
  exact run_cells hS hn fun i v hi => by rw [Nat.add_assoc]; exact hs.cell hk (hv i v hi)
theorem wp_of_run {ty : TypeId} {x : Operand} (hgd : Region.wanted o (yielded ops a.tmps) = true) (ho : o.op = .load ty x) {v : Value} (hr : (Instr.loadAt ty (a.eval x)).run P w = .ok v w) (h : wpList P ops Q rest (a.put o.dst v) w) : wpList P ops Q (o :: rest) a w := by
  refine BigFrame.wpList_want hgd fun _ hK => ?_
  unfold Oper.wp execOp
  simp only [ho, Sem.run_bind, Sem.run_pure, Result.andThen_ok, hr]
  exact hK _ _ h
theorem quiet_of_run {C : World → Prop} {K : Act → Prop} {ty : TypeId} {x : Operand} (ho : o.op = .load ty x) {v : Value} (hr : ∀ w, C w → (Instr.loadAt ty (a.eval x)).run P w = .ok v w) (h : K (a.put o.dst v)) : o.quiet P a C K := by
  refine ⟨v, fun w hw => ?_, h⟩
  unfold Oper.quietAt execOp
  simp only [ho, Sem.run_bind, Sem.run_pure, Result.andThen_ok, hr w hw, Oper.quietUpon]
  exact ⟨trivial, trivial⟩
/-- A variable for a value. -/
theorem wpList_box_H (hgd : Region.wanted o (yielded ops a.tmps) = true) {ty : TypeId} {x : Operand} (ho : o.op = .box ty x) (H : Hp w0 w L) {v : Value} (hx : a.eval x = v) {cs : List Value} (hv : CellsOf v cs)
    (h : ∀ b w', Hp w0 w' (.box b ty cs :: L) → wpList P ops Q rest (a.put o.dst (.pointer (some ⟨b, 0, none⟩))) w') : wpList P ops Q (o :: rest) a w := by
  refine BigFrame.wpList_want hgd fun _ hK => ?_
  have hr : (Instr.box ty v).run P w = .ok (.pointer (some ⟨w.heap.size, 0, none⟩)) (w.alloc (.cells cs.toArray ty)) := by
    rw [← hv.eq]; simp [Instr.box, newVar, newRow, go_sem]
  unfold Oper.wp execOp
  simp only [ho, hx, Sem.run_bind, Sem.run_pure, Result.andThen_ok, hr]
  exact hK _ _ (h _ _ (H.add_box cs ty))
theorem wpList_alloc_H (hgd : Region.wanted o (yielded ops a.tmps) = true) {ty : TypeId} (ho : o.op = .alloc ty) (H : Hp w0 w L) {cs : List Value} [hz : TyZ P ty cs]
    (h : ∀ b w', Hp w0 w' (.box b ty cs :: L) → wpList P ops Q rest (a.put o.dst (.pointer (some ⟨b, 0, none⟩))) w') : wpList P ops Q (o :: rest) a w := by
  refine BigFrame.wpList_want hgd fun _ hK => ?_
  have hz := hz.zero
  cases hq : P.info? ty with
  | none => simp [hq] at hz
  | some i =>
    cases hq2 : i.zero with
    | none => simp [hq, hq2] at hz
    | some z =>
      have hc : z.cells.toList = cs := by simpa [hq, hq2] using hz
      have hr : (Instr.alloc ty true (.tuple #[])).run P w = .ok (.pointer (some ⟨w.heap.size, 0, none⟩)) (w.alloc (.cells cs.toArray ty)) := by
        rw [← hc]; simp [Instr.alloc, newVar, newRow, zeroValue, typeInfo, hq, hq2, go_sem]
      unfold Oper.wp execOp
      simp only [ho, Sem.run_bind, Sem.run_pure, Result.andThen_ok, hr]
      exact hK _ _ (h _ _ (H.add_box cs ty))
/-- A cell of a variable is read. -/
theorem wpList_load_H (hgd : Region.wanted o (yielded ops a.tmps) = true) {ty : TypeId} {x : Operand} (ho : o.op = .load ty x) (H : Hp w0 w L) {b i : Nat} (hx : a.eval x = .pointer (some ⟨b, i, none⟩)) [hS : TyS P ty] {v : Value} (hv : LoadAt L b i v)
    (h : wpList P ops Q rest (a.put o.dst v) w) : wpList P ops Q (o :: rest) a w :=
  wp_of_run hgd ho (by rw [hx]; exact run_load_H H hS hv) h
/-- A struct in a variable is read. -/
theorem wpList_loads_H (hgd : Region.wanted o (yielded ops a.tmps) = true) {ty : TypeId} {x : Operand} (ho : o.op = .load ty x) (H : Hp w0 w L) {b i : Nat} (hx : a.eval x = .pointer (some ⟨b, i, none⟩)) {n : Nat} [hS : TyA P ty n] {vs : List Value} (hv : LoadsAt L b i n vs)
    (h : wpList P ops Q rest (a.put o.dst (.agg vs.toArray)) w) : wpList P ops Q (o :: rest) a w :=
  wp_of_run hgd ho (by rw [hx]; exact run_loads_H H hS hv) h
theorem quiet_load_H {C : World → Prop} {K : Act → Prop} (hC : ∀ w, C w → Hp w0 w L) {ty : TypeId} {x : Operand} (ho : o.op = .load ty x) {b i : Nat} (hx : a.eval x = .pointer (some ⟨b, i, none⟩)) [hS : TyS P ty] {v : Value} (hv : LoadAt L b i v)
    (h : K (a.put o.dst v)) : o.quiet P a C K :=
  quiet_of_run ho (fun w hw => by rw [hx]; exact run_load_H (hC w hw) hS hv) h
theorem quiet_loads_H {C : World → Prop} {K : Act → Prop} (hC : ∀ w, C w → Hp w0 w L) {ty : TypeId} {x : Operand} (ho : o.op = .load ty x) {b i : Nat} (hx : a.eval x = .pointer (some ⟨b, i, none⟩)) {n : Nat} [hS : TyA P ty n] {vs : List Value} (hv : LoadsAt L b i n vs)
    (h : K (a.put o.dst (.agg vs.toArray))) : o.quiet P a C K :=
  quiet_of_run ho (fun w hw => by rw [hx]; exact run_loads_H (hC w hw) hS hv) h
/-- A region that draws its order, and only reads and calls what leaves this memory alone. -/
theorem wp_region_H {id : Nat} {l : List Oper} (hm : P.follows .mixedOrders = true) (hB : Region.lexB .any l.toArray = true) (H : Hp w0 w L)
    (h : ∀ C : World → Prop, (∀ w, C w → Hp w0 w L) → (∀ w, Hp w0 w L → C w) → wpQuiet P l.toArray C (fun a' => ∀ w', Hp w0 w' L → Q .normal a' w') l a) : (Code.region id l.toArray true).wp P Q a w := by
  refine wp_region_quiet (C := fun w' => Hp w0 w' L) hm hB ?_ ?_
  · exact H.still (Below.refl _ _).drew
  · exact h _ (fun _ h => h) (fun _ h => h)
/-- A slice without elements is made. -/
theorem wpList_nil_H (hgd : Region.wanted o (yielded ops a.tmps) = true) {t : TypeId} (ho : o.op = .buildSlice t 0 #[]) (H : Hp w0 w L) {α : Type} {enc : α → List Value} {sz bytes e : Nat} [hE : EI P t enc sz bytes e]
    (h : ∀ b w', Hp w0 w' (.sl enc sz e ⟨some ⟨b, 0, none⟩, 0, []⟩ :: L) → wpList P ops Q rest (a.put o.dst (.slice (some ⟨b, 0, none⟩) 0 0)) w') : wpList P ops Q (o :: rest) a w := by
  refine BigFrame.wpList_want hgd fun _ hK => ?_
  obtain ⟨i, z, hi, hz, hsize, hby, hzs⟩ := hE.info.hi
  have hr : (Instr.buildSlice t 0 #[]).run P w = .ok (.slice (some ⟨w.heap.size, 0, none⟩) 0 0) (w.alloc (.cells #[] e)) := by
    simp [Instr.buildSlice, run_underlying hE.info.ht, sizeOf, typeInfo, hi, Instr.fill, newRow, go_sem]
  unfold Oper.wp execOp
  simp only [ho, List.map_toArray, List.map_nil, Sem.run_bind, Sem.run_pure, Result.andThen_ok, hr]
  exact hK _ _ (h _ _ (H.add_sl (own_nothing w (Nat.le_refl _)) ((Below.refl _ _).alloc (Nat.le_refl _) _)))
/-- A slice of elements that are written out is made. -/
theorem wpList_lit_H (hgd : Region.wanted o (yielded ops a.tmps) = true) {t : TypeId} {n : Nat} {parts : Array (Nat × Operand)} (ho : o.op = .buildSlice t n parts) (H : Hp w0 w L) {α : Type} {enc : α → List Value} {sz bytes e : Nat} [hE : EI P t enc sz bytes e] {zc : List Value} [hZ : TyZ P e zc] (ys : List α)
    (hf : Instr.fill (fun i => some (i * sz, sz)) ((Array.range (n * sz)).map (zc.toArray[· % zc.toArray.size]!)) (parts.map fun (i, x) => (i, a.eval x)).toList = some (ys.flatMap enc).toArray)
    (hn : ys.length = n) (hpos : ¬ n * sz = 0) (hsm : n * sz ≤ 2 ^ 24)
    (h : ∀ b w', Hp w0 w' (.sl enc sz e ⟨some ⟨b, 0, none⟩, n, ys⟩ :: L) → wpList P ops Q rest (a.put o.dst (.slice (some ⟨b, 0, none⟩) n n)) w') : wpList P ops Q (o :: rest) a w := by
  refine BigFrame.wpList_want hgd fun _ hK => ?_
  obtain ⟨i, z, hi, hz, hsize, hby, hzs⟩ := hE.info.hi
  have hzc : z.cells = zc.toArray := by
    have h := hZ.zero
    rw [hi] at h
    simp only [Option.bind_some, hz, Option.map_some, Option.some.injEq] at h
    rw [← h]
  have hr : (Instr.buildSlice t n (parts.map fun (i, x) => (i, a.eval x))).run P w = .ok (.slice (some ⟨w.heap.size, 0, none⟩) n n) (w.alloc (.cells (ys.flatMap enc).toArray e)) := by
    rw [← hzc] at hf
    exact run_buildSlice w t e n _ _ i z hE.info.ht hi hz (by rw [hsize]; exact Nat.not_lt.2 hsm) (by rw [hsize]; exact hpos) (by rw [hsize]; exact hf)
  unfold Oper.wp execOp
  simp only [ho, Sem.run_bind, Sem.run_pure, Result.andThen_ok, hr]
  refine hK _ _ (h _ _ (H.add_sl ?_ ((Below.refl _ _).alloc (Nat.le_refl _) _)))
  exact own_new w (ys.flatMap enc).toArray n ys (Nat.le_refl _) (by simp) (by simp [flat_len hE.info.henc]) hn.symm (by unfold maxLen; have := Nat.le_mul_of_pos_right ys.length hE.info.hsz; rw [hn] at this; omega)
/-- Append to a slice of the call's own. -/
theorem wpList_append_H (hgd : Region.wanted o (yielded ops a.tmps) = true) {s x : Operand} {t : TypeId} (ho : o.op = .call { callee := .builtin .append, args := #[s, x], argTypes := #[t, t] }) (H : Hp w0 w L) {α : Type} {enc : α → List Value} {sz bytes e : Nat} [hE : EI P t enc sz bytes e] (d src : Sl α)
    (hds : a.eval s = .slice d.A d.xs.length d.c) (hsx : a.eval x = .slice src.A src.xs.length src.c) (tk : Take L (.sl enc sz e d) L') (hs : Rd enc sz w src) (h63 : d.xs.length + src.xs.length ≤ 8388608) (hbt : bytes ≤ 4096)
    (h : ∀ d' w', Hid (d'.xs = d.xs ++ src.xs) → Hp w0 w' (.sl enc sz e d' :: L') → wpList P ops Q rest (a.put o.dst (.slice d'.A d'.xs.length d'.c)) w') : wpList P ops Q (o :: rest) a w := by
  refine BigFrame.wpList_want hgd fun K hK => wp_append_Sl w hE.info s x ho 0 d hds (H.get tk) src hsx hs (by unfold maxLen; omega) ?_ (Nat.zero_le _) fun d' w' hx ho' hg hat => hK _ _ (h d' w' hx ?_)
  · exact Nat.le_trans (Nat.mul_le_mul h63 hbt) (by decide)
  · refine (H.take tk).turn (e' := .sl enc sz e d') (touch_grown hg) ho' ?_ (blk_nodup d')
    intro b hb
    rcases hat with hat | hat
    · left; simpa [En.sl, Sl.blk, hat] using hb
    · right; simp [En.sl, Sl.blk, hat] at hb; omega
/-- The address of an element. -/
theorem wpList_index_rd (hgd : Region.wanted o (yielded ops a.tmps) = true) {t : TypeId} {x ix : Operand} (ho : o.op = .indexAddr t x ix) {α : Type} {enc : α → List Value} {sz bytes e : Nat} [hE : EI P t enc sz bytes e] (s : Sl α) (hs : Rd enc sz w s) {k : Int} (hx : a.eval x = .slice s.A s.xs.length s.c) (hi : a.eval ix = .int .i64 k)
    (h0 : 0 ≤ k) (h1 : k < s.xs.length) (h : wpList P ops Q rest (a.put o.dst (.pointer (some ⟨ablk s.A, aoff s.A + k.toNat * sz, none⟩))) w) : wpList P ops Q (o :: rest) a w := by
  refine BigFrame.wpList_want hgd fun _ hK => ?_
  obtain ⟨i, z, hi', hz, hsize, hby, hzs⟩ := hE.info.hi
  obtain ⟨hA, _⟩ := hs.addr (k := k.toNat) (by omega)
  have hr : (Instr.indexAt t (.slice s.A s.xs.length s.c) (.int .i64 k)).run P w = .ok (.pointer (some ⟨ablk s.A, aoff s.A + k.toNat * sz, none⟩)) w := by
    rw [hA]
    simp [Instr.indexAt, asIntOf, run_underlying hE.info.ht, sizeOf, typeInfo, hi', hsize, h0, h1, addj, ablk, aoff, go_sem]
  unfold Oper.wp execOp
  simp only [ho, hx, hi, Sem.run_bind, Sem.run_pure, Result.andThen_ok, hr]
  exact hK _ _ h
/-- A part of a variable is written. -/
theorem wp_store_H {ty : TypeId} {x y : Operand} (ho : o.op = .store ty x y) (H : Hp w0 w L) {b i : Nat} (hx : a.eval x = .pointer (some ⟨b, i, none⟩)) {v : Value} (hy : a.eval y = v) {n : Nat} [hN : TyN P ty n] (hS : StoreAt L b i v n L')
    {K : Act → World → Prop} (h : ∀ w', Hp w0 w' L' → K (a.put o.dst undef) w') : o.wp P a w K Q := by
  obtain ⟨e, vs, cs, cs', L1, t, t2, hvs, hv, hn, h1⟩ := hS.eq
  obtain ⟨hv1, hv2⟩ := hv.eq
  have hB : Rw w b e cs.toArray := H.get t
  have hvs := hvs.eq
  have hsz : v.cells.size = vs.length := by rw [hvs]; simp
  have hi := hN.size
  obtain ⟨w', hrun, hr, hw⟩ := run_storeVar_row (P := P) w b i e ty cs.toArray v hB (by simpa [hsz] using hv2) (by rw [hsz, hn]; exact hi) (by rw [hvs]; intro u hu; exact List.all_eq_true.1 h1 u hu)
  have hr' : Rw w' b e cs'.toArray := by rw [hv1]; simpa [hvs] using hr
  unfold Oper.wp execOp
  simp only [ho, hx, hy, Instr.storeAt, Instr.sureAddr, Sem.run_bind, Sem.run_pure, Result.andThen_ok, hrun]
  refine h w' ?_
  exact ((H.take t).turn (e' := .box b e cs') (touch_only hw) hr' (by simp [En.box]) (by simp [En.box])).perm t2.perm.symm
theorem wpList_store_H (hgd : Region.wanted o (yielded ops a.tmps) = true) {ty : TypeId} {x y : Operand} (ho : o.op = .store ty x y) (H : Hp w0 w L) {b i : Nat} (hx : a.eval x = .pointer (some ⟨b, i, none⟩)) {v : Value} (hy : a.eval y = v) {n : Nat} [hN : TyN P ty n] (hS : StoreAt L b i v n L')
    (h : ∀ w', Hp w0 w' L' → wpList P ops Q rest (a.put o.dst undef) w') : wpList P ops Q (o :: rest) a w :=
  BigFrame.wpList_want hgd fun _ hK => wp_store_H ho H hx hy hS fun w' hw => hK _ _ (h w' hw)
/-- A struct result out of a variable. -/
theorem results_H {fn : Func} {p : Tmp} {ty : TypeId} (h : fn.results = #[.cell p ty]) (H : Hp w0 w L) {tmps : Array Value} {b : Nat} (hp : tmps.getD p undef = .pointer (some ⟨b, 0, none⟩)) {n : Nat} [hS : TyA P ty n] {vs : List Value} (t : LoadsAt L b 0 n vs) :
    (results fn tmps).run P w = .ok (.agg vs.toArray) w := by
  have hp' : tmps[p]?.getD undef = .pointer (some ⟨b, 0, none⟩) := by simpa using hp
  have hr := run_loads_H H hS t
  simp [Instr.loadAt, Instr.sureAddr] at hr
  simp [results, h, hp', asAddr, hr]
theorem results_H2 {fn : Func} {p q : Tmp} {ty : TypeId} (h : fn.results = #[.cell p ty, .tmp q]) (H : Hp w0 w L) {tmps : Array Value} {b : Nat} (hp : tmps.getD p undef = .pointer (some ⟨b, 0, none⟩)) {n : Nat} [hS : TyA P ty n] {vs : List Value} (t : LoadsAt L b 0 n vs) :
    (results fn tmps).run P w = .ok (.tuple #[.agg vs.toArray, tmps.getD q undef]) w := by
  have hr := run_loads_H H hS t
  simp [Instr.loadAt, Instr.sureAddr] at hr
  rw [results_cell_tmp h, hp]
  simp [asAddr, hr]
end
end Go.Proofs.YtaafnenmdombiaaGreat
