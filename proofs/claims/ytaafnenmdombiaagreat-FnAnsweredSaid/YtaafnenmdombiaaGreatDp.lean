/- Memory with depth: slices of slices and of guests, and bare machines, as parts of what a call has made. Plain definitions and theorems; no condition. -/
import Derived.Test.YtaafnenmdombiaaGreatOk
namespace Go.Proofs.YtaafnenmdombiaaGreat
open Go.RowKit

section
variable {w0 w w' : World} {L L' M : List En} {e e' : En}
/-- The same blocks, said otherwise. -/
theorem Hp.equiv (H : Hp w0 w L) (p : (L'.flatMap En.bl).Perm (L.flatMap En.bl)) (hok : (∀ e ∈ L, e.ok w) → (L.flatMap En.bl).Nodup → ∀ e ∈ L', e.ok w) : Hp w0 w L' :=
  ⟨H.below, hok H.ok H.nd, p.nodup_iff.2 H.nd, fun b hb => H.ge b (p.mem_iff.1 hb)⟩
/-- Behind a call: what it has made is added. -/
theorem Hp.add_all (H : Hp w0 w L) (K : Hp w w' M) : Hp w0 w' (M ++ L) := by
  refine ⟨H.below.trans (K.below.mono H.below.size), ?_, ?_, ?_⟩
  · intro x hx
    rcases List.mem_append.1 hx with hx | hx
    · exact K.ok x hx
    · exact x.loc (H.ok x hx) K.below.size fun b hb => K.below.block b (x.lt (H.ok x hx) b hb)
  · rw [List.flatMap_append, List.nodup_append]
    refine ⟨K.nd, H.nd, ?_⟩
    intro b hb c hc hbc
    subst hbc
    have := K.ge b hb
    have := H.lt hc; omega
  · intro b hb
    rw [List.flatMap_append, List.mem_append] at hb
    rcases hb with hb | hb
    · have := K.ge b hb; have := H.below.size; omega
    · exact H.ge b hb
theorem Hp.prefix_ (H : Hp w0 w (M ++ L)) : Hp w0 w M := by
  have nd := H.nd
  rw [List.flatMap_append, List.nodup_append] at nd
  exact ⟨H.below, fun x hx => H.ok x (by simp [hx]), nd.1, fun b hb => H.ge b (by rw [List.flatMap_append, List.mem_append]; exact .inl hb)⟩
/-- Some of the parts. -/
inductive Pick : List En → List En → Prop
  | nil {l} : Pick l []
  | cons {l e l' m} (t : Take l e l') (p : Pick l' m) : Pick l (e :: m)
theorem Pick.perm {l m : List En} (p : Pick l m) : ∃ r, l.Perm (m ++ r) := by
  induction p with
  | nil => exact ⟨_, List.Perm.refl _⟩
  | cons t _ ih => obtain ⟨r, ih⟩ := ih; exact ⟨r, t.perm.trans (ih.cons _)⟩
theorem Hp.pick (H : Hp w0 w L) (p : Pick L M) : Hp w0 w M := by
  obtain ⟨r, h⟩ := p.perm
  exact (H.perm h).prefix_
/-- Many parts of one kind. -/
def En.many {α : Type} (f : α → En) (l : List α) : En where
  bl := l.flatMap fun x => (f x).bl
  ok w := ∀ x ∈ l, (f x).ok w
  loc h hz hb x hx := (f x).loc (h x hx) hz fun b hbx => hb b (List.mem_flatMap.2 ⟨x, hx, hbx⟩)
  lt h b hb := by obtain ⟨x, hx, hb⟩ := List.mem_flatMap.1 hb; exact (f x).lt (h x hx) b hb
/-- Parts as one. -/
def En.all (l : List En) : En where
  bl := l.flatMap En.bl
  ok w := ∀ x ∈ l, x.ok w
  loc h hz hb x hx := x.loc (h x hx) hz fun b hbx => hb b (List.mem_flatMap.2 ⟨x, hx, hbx⟩)
  lt h b hb := by obtain ⟨x, hx, hb⟩ := List.mem_flatMap.1 hb; exact x.lt (h x hx) b hb
theorem Hp.open_all {l : List En} (H : Hp w0 w (.all l :: L)) : Hp w0 w (l ++ L) := by
  refine H.equiv (by simp [En.all]) fun h _ x hx => ?_
  rcases List.mem_append.1 hx with hx | hx
  · exact h (.all l) (by simp) x hx
  · exact h x (by simp [hx])
theorem Hp.close_all {l : List En} (H : Hp w0 w (l ++ L)) : Hp w0 w (.all l :: L) := by
  refine H.equiv (by simp [En.all]) fun h _ x hx => ?_
  rcases List.mem_cons.1 hx with rfl | hx
  · exact fun y hy => h y (by simp [hy])
  · exact h x (by simp [hx])
section
variable {α : Type} {f : α → En} {l l1 l2 : List α} {x : α}
theorem Hp.many_nil (f : α → En) (H : Hp w0 w L) : Hp w0 w (.many f [] :: L) :=
  H.equiv (by simp [En.many]) fun h _ y hy => by
    rcases List.mem_cons.1 hy with rfl | hy
    · exact fun x hx => by simp at hx
    · exact h y hy
theorem Hp.many_split (H : Hp w0 w (.many f (l1 ++ x :: l2) :: L)) : Hp w0 w (f x :: .many f l1 :: .many f l2 :: L) := by
  refine H.equiv ?_ fun h _ y hy => ?_
  · simp only [List.flatMap_cons, En.many, List.flatMap_append]
    rw [← List.append_assoc, ← List.append_assoc, ← List.append_assoc]
    exact (List.perm_append_comm.append_right _).append_right _
  · have h0 : ∀ z ∈ l1 ++ x :: l2, (f z).ok w := h (.many f (l1 ++ x :: l2)) (by simp)
    simp only [List.mem_cons] at hy
    rcases hy with rfl | rfl | rfl | hy
    · exact h0 x (by simp)
    · exact fun z hz => h0 z (by simp [hz])
    · exact fun z hz => h0 z (by simp [hz])
    · exact h y (by simp [hy])
theorem Hp.many_join (H : Hp w0 w (f x :: .many f l1 :: .many f l2 :: L)) : Hp w0 w (.many f (l1 ++ x :: l2) :: L) := by
  refine H.equiv ?_ fun h _ y hy => ?_
  · simp only [List.flatMap_cons, En.many, List.flatMap_append]
    rw [← List.append_assoc, ← List.append_assoc, ← List.append_assoc]
    exact (List.perm_append_comm.append_right _).append_right _
  · rcases List.mem_cons.1 hy with rfl | hy
    · intro z hz
      rcases List.mem_append.1 hz with hz | hz
      · exact h (.many f l1) (by simp) z hz
      · rcases List.mem_cons.1 hz with rfl | hz
        · exact h (f z) (by simp)
        · exact h (.many f l2) (by simp) z hz
    · exact h y (by simp [hy])
theorem Hp.many_snoc (H : Hp w0 w (f x :: .many f l :: L)) : Hp w0 w (.many f (l ++ [x]) :: L) := by
  have h : Hp w0 w (f x :: .many f l :: .many f [] :: L) := by
    refine (H.many_nil f).perm ?_
    exact (List.Perm.swap _ _ _).trans ((List.Perm.swap _ _ _).cons _)
  exact h.many_join
theorem Hp.many_mem (H : Hp w0 w L) (t : Take L (.many f l) L') (hx : x ∈ l) : (f x).ok w := by
  have h : (En.many f l).ok w := H.get t
  exact h x hx
end
/-- A part that has turned, whatever the call has made beside it. -/
theorem Hp.swap_at (H : Hp w0 w L) (t : Take L e L') (hT : Touch e.bl w w') (hok : e'.ok w') (hbl : e'.bl = e.bl) : Hp w0 w' (e' :: L') :=
  (H.take t).turn hT hok (fun b hb => .inl (by rw [← hbl]; exact hb)) (by
    rw [hbl]
    have nd := (H.take t).nd
    rw [List.flatMap_cons, List.nodup_append] at nd
    exact nd.1)
theorem Hp.of_gst {g : GV} (ho : GOwn w' w.heap.size g) (hb : Below w.heap.size w w') : Hp w w' [.gst g] := (Hp.start w).add_gst ho hb
theorem Hp.of_below (hb : Below w.heap.size w w') : Hp w w' [] := (Hp.start w).still hb
end

/-! ### data with depth -/
abbrev hcells {α : Type} (s : Sl α) : List Value := [.slice s.A s.xs.length s.c]
abbrev GV.cells (g : GV) : List Value := [.slice g.prog.A g.prog.xs.length g.prog.c, .int .i64 g.a, .int .i64 g.pc, .slice g.written.A g.written.xs.length g.written.c, .slice g.live.A g.live.xs.length g.live.c,
  .int .i64 g.ctl.traps, .int .i64 g.ctl.post, .bool g.ctl.opn, .int .i64 g.pending, .int .i64 g.exit.kind, .int .i64 g.exit.page, .bool g.exit.write, .int .i64 g.exit.n, .bool g.halted, .slice g.seen.A g.seen.xs.length g.seen.c]
theorem h_len {α : Type} (s : Sl α) : (hcells s).length = 1 := rfl
theorem g_len (g : GV) : (GV.cells g).length = 15 := rfl
theorem info_intS : (Tryz.prog.info? 26).map (fun i => (i.zero, i.size, i.bytes)) = some (some (.slice none 0 0), 1, 24) := by kernel_rfl
theorem info_guest : (Tryz.prog.info? 53).map (fun i => (i.zero, i.size, i.bytes)) = some (some (.agg #[.slice none 0 0, .int .i64 0, .int .i64 0, .slice none 0 0, .slice none 0 0, .int .i64 0, .int .i64 0, .bool false, .int .i64 0, .int .i64 0, .int .i64 0, .bool false, .int .i64 0, .bool false, .slice none 0 0]), 15, 184) := by kernel_rfl
theorem info_insS : (Tryz.prog.info? 46).map (fun i => (i.zero, i.size, i.bytes)) = some (some (.slice none 0 0), 1, 24) := by kernel_rfl
theorem g_one (g : GV) : ∀ u ∈ GV.cells g, u.oneCell' = true := by
  intro u hu
  simp only [List.mem_cons, List.not_mem_nil, or_false] at hu
  rcases hu with rfl | rfl | rfl | rfl | rfl | rfl | rfl | rfl | rfl | rfl | rfl | rfl | rfl | rfl | rfl <;> rfl
theorem h_one {α : Type} (s : Sl α) : ∀ u ∈ hcells s, u.oneCell' = true := by
  intro u hu
  simp only [List.mem_cons, List.not_mem_nil, or_false] at hu
  subst hu; rfl
instance eiRows : EI Tryz.prog 24 (hcells (α := Int)) 1 24 26 := ⟨⟨Tryz.underlying24, by obtain ⟨i, h1, h2, h3, h4⟩ := info_parts info_intS; exact ⟨i, _, h1, h2, h3, h4, rfl⟩, by decide, h_len, h_one⟩⟩
instance eiGs : EI Tryz.prog 25 GV.cells 15 184 53 := ⟨⟨Tryz.underlying25, by obtain ⟨i, h1, h2, h3, h4⟩ := info_parts info_guest; exact ⟨i, _, h1, h2, h3, h4, rfl⟩, by decide, g_len, g_one⟩⟩
instance eiPs : EI Tryz.prog 47 (hcells (α := Ins)) 1 24 46 := ⟨⟨Tryz.underlying47, by obtain ⟨i, h1, h2, h3, h4⟩ := info_parts info_insS; exact ⟨i, _, h1, h2, h3, h4, rfl⟩, by decide, h_len, h_one⟩⟩
structure MB where
  memory : List (List Int)
  guests : List MG
  outs : List Int
  pending : Int
  deriving DecidableEq
structure BV where
  mem : Sl (Sl Int)
  gs : Sl GV
  outs : Sl Int
  pend : Int
abbrev BV.val (b : BV) : Value := .agg #[.slice b.mem.A b.mem.xs.length b.mem.c, .slice b.gs.A b.gs.xs.length b.gs.c, .slice b.outs.A b.outs.xs.length b.outs.c, .int .i64 b.pend]
attribute [go_sem] BV.val
/-- A bare machine's cells. -/
abbrev barr (b : BV) : Array Value := #[.slice b.mem.A b.mem.xs.length b.mem.c, .slice b.gs.A b.gs.xs.length b.gs.c, .slice b.outs.A b.outs.xs.length b.outs.c, .int .i64 b.pend]
attribute [go_sem] barr
abbrev memOf (s : Sl (Sl Int)) : List (List Int) := s.xs.map (·.xs)
abbrev gsOf (s : Sl GV) : List MG := s.xs.map GV.m
def BV.m (b : BV) : MB := ⟨memOf b.mem, gsOf b.gs, b.outs.xs, b.pend⟩
abbrev En.rows (s : Sl (Sl Int)) : En := En.sl hcells 1 26 s
abbrev En.gsl (s : Sl GV) : En := En.sl GV.cells 15 53 s
abbrev BV.parts (b : BV) : List En := [.rows b.mem, .many En.int b.mem.xs, .gsl b.gs, .many En.gst b.gs.xs, .int b.outs]
abbrev En.mem (s : Sl (Sl Int)) : En := .all [.rows s, .many En.int s.xs]
abbrev En.bare (b : BV) : En := .all b.parts
structure BRd (w : World) (b : BV) : Prop where
  mem : Rd hcells 1 w b.mem
  memi : ∀ s ∈ b.mem.xs, Rd icell 1 w s
  gs : Rd GV.cells 15 w b.gs
  gsi : ∀ g ∈ b.gs.xs, GRd w g
  outs : Rd icell 1 w b.outs
def MG.size (g : MG) : Nat := g.prog.length + g.written.length + g.live.length + g.seen.length
def rowsSize (l : List (List Int)) : Nat := l.length + (l.map List.length).sum
def gsSize (l : List MG) : Nat := l.length + (l.map MG.size).sum
def MB.size (m : MB) : Nat := rowsSize m.memory + gsSize m.guests + m.outs.length
theorem sum_mem {α : Type} {f : α → Nat} : ∀ {l : List α} {x : α}, x ∈ l → f x ≤ (l.map f).sum
  | [], _, h => by simp at h
  | y :: l, x, h => by
    rcases List.mem_cons.1 h with rfl | h
    · simp
    · have := sum_mem (f := f) h; simp; omega
/-- All of a bare machine is no more than this. -/
def BBig (b : BV) : Prop := b.m.size ≤ 4194304
section
variable {b : BV} (h : BBig b)
include h
theorem BBig.mem : b.mem.xs.length ≤ 4194304 := by unfold BBig MB.size rowsSize at h; simp [BV.m] at h; omega
theorem BBig.memi : ∀ s ∈ b.mem.xs, s.xs.length ≤ 4194304 := fun s hs => by
  have h1 := sum_mem (f := List.length) (List.mem_map.2 ⟨s, hs, rfl⟩ : s.xs ∈ memOf b.mem)
  unfold BBig MB.size rowsSize at h; simp only [BV.m, memOf] at h; omega
theorem BBig.gs : b.gs.xs.length ≤ 4194304 := by unfold BBig MB.size gsSize at h; simp [BV.m] at h; omega
theorem BBig.gsi : ∀ g ∈ b.gs.xs, GBig g := fun g hg => by
  have h1 := sum_mem (f := MG.size) (List.mem_map.2 ⟨g, hg, rfl⟩ : g.m ∈ gsOf b.gs)
  unfold BBig MB.size gsSize at h; simp only [BV.m, gsOf] at h
  have e : g.m.size = g.prog.xs.length + g.written.xs.length + g.live.xs.length + g.seen.xs.length := rfl
  refine ⟨?_, ?_, ?_, ?_⟩ <;> (unfold big; omega)
theorem BBig.outs : b.outs.xs.length ≤ 4194304 := by unfold BBig MB.size at h; simp [BV.m] at h; omega
end
section
variable {w0 w w' : World} {L L' L1 L2 L3 L4 L5 : List En} {b : BV}
theorem BRd.below (h : BRd w b) {B : Nat} (hb : Below B w w') (hB : w.heap.size ≤ B) : BRd w' b :=
  ⟨h.mem.below hb hB, fun s hs => (h.memi s hs).below hb hB, h.gs.below hb hB, fun g hg => (h.gsi g hg).below hb hB, h.outs.below hb hB⟩
theorem BRd.at_ (h : BRd w0 b) (H : Hp w0 w L) : BRd w b := h.below H.below (Nat.le_refl _)
theorem Hp.rdrows (H : Hp w0 w L) {s : Sl (Sl Int)} (t : Take L (.rows s) L') : Rd hcells 1 w s := H.rd t h_len
theorem Hp.rdgsl (H : Hp w0 w L) {s : Sl GV} (t : Take L (.gsl s) L') : Rd GV.cells 15 w s := H.rd t g_len
theorem Hp.rdmany (H : Hp w0 w L) {l : List (Sl Int)} (t : Take L (.many En.int l) L') : ∀ s ∈ l, Rd icell 1 w s := fun _ hs => Own.rd (H.many_mem t hs) int_len
theorem Hp.grdmany (H : Hp w0 w L) {l : List GV} (t : Take L (.many En.gst l) L') : ∀ g ∈ l, GRd w g := fun g hg => by
  have h : GOwn w 0 g := H.many_mem t hg
  exact h.rd
theorem Hp.grd1 (H : Hp w0 w L) {g : GV} (t : Take L (.gst g) L') : GRd w g := (H.gown t).rd
/-- A bare machine of the call's own can be read. -/
theorem Hp.brd (H : Hp w0 w L) (t : Take L (.bare b) L') : BRd w b := by
  have h : ∀ e ∈ b.parts, e.ok w := H.get t
  have h1 : (En.rows b.mem).ok w := h _ (by simp)
  have h2 : (En.many En.int b.mem.xs).ok w := h _ (by simp)
  have h3 : (En.gsl b.gs).ok w := h _ (by simp)
  have h4 : (En.many En.gst b.gs.xs).ok w := h _ (by simp)
  have h5 : (En.int b.outs).ok w := h _ (by simp)
  refine ⟨Own.rd h1 h_len, fun s hs => Own.rd (h2 s hs) int_len, Own.rd h3 g_len, fun g hg => ?_, Own.rd h5 int_len⟩
  have h : GOwn w 0 g := h4 g hg
  exact h.rd
theorem Hp.bparts (H : Hp w0 w (.bare b :: L)) : Hp w0 w (.rows b.mem :: .many En.int b.mem.xs :: .gsl b.gs :: .many En.gst b.gs.xs :: .int b.outs :: L) := H.open_all
theorem Hp.bare (H : Hp w0 w (.rows b.mem :: .many En.int b.mem.xs :: .gsl b.gs :: .many En.gst b.gs.xs :: .int b.outs :: L)) : Hp w0 w (.bare b :: L) := Hp.close_all (l := b.parts) H
theorem Hp.bare5 (H : Hp w0 w L) {mem : Sl (Sl Int)} {ml : List (Sl Int)} {gs : Sl GV} {gl : List GV} {outs : Sl Int} {pend : Int} (p : Pick L [.rows mem, .many En.int ml, .gsl gs, .many En.gst gl, .int outs]) (e1 : ml = mem.xs) (e2 : gl = gs.xs) :
    Hp w0 w [.bare ⟨mem, gs, outs, pend⟩] := by
  subst e1; subst e2
  exact (H.pick p).bare
end

/-! ### an element of a slice of the call's own is written -/
section
variable {α : Type} {enc : α → List Value} {sz : Nat} {e : TypeId} {w0 w w' : World} {L L' : List En} {s : Sl α}
theorem flat_set {β : Type} (enc : β → List Value) {sz : Nat} (henc : ∀ x, (enc x).length = sz) : ∀ (l : List β) (k : Nat) (y : β) (y' : β) (j : Nat) (vs : List Value), l[k]? = some y → enc y' = (enc y).take j ++ vs ++ (enc y).drop (j + vs.length) → j + vs.length ≤ sz →
    (l.flatMap enc).take (k * sz + j) ++ vs ++ (l.flatMap enc).drop (k * sz + j + vs.length) = (l.set k y').flatMap enc
  | [], k, y, y', j, vs, h, _, _ => by simp at h
  | x :: l, 0, y, y', j, vs, h, he, hj => by
    simp at h; subst h
    have hx := henc x
    simp only [List.flatMap_cons, List.set_cons_zero, Nat.zero_mul, Nat.zero_add, he]
    rw [List.take_append_of_le_length (by omega), List.drop_append_of_le_length (by omega)]
    simp [List.append_assoc]
  | x :: l, k + 1, y, y', j, vs, h, he, hj => by
    have ih := flat_set enc henc l k y y' j vs (by simpa using h) he hj
    have hx := henc x
    simp only [List.flatMap_cons, List.set_cons_succ]
    rw [← ih]
    have e1 : (k + 1) * sz + j = (enc x).length + (k * sz + j) := by rw [hx, Nat.succ_mul]; omega
    have e2 : (k + 1) * sz + j + vs.length = (enc x).length + (k * sz + j + vs.length) := by rw [hx, Nat.succ_mul]; omega
    rw [e2, e1, List.take_length_add_append, List.drop_length_add_append]
    simp [List.append_assoc]
theorem own_set {P : Program} (ho : Own enc sz e w 0 s) (henc : ∀ x, (enc x).length = sz) {k j : Nat} {y y' : α} {v : Value} {ty : TypeId} (hk : s.xs[k]? = some y) (hj : j + v.cells.size ≤ sz) (hy : enc y' = (enc y).take j ++ v.cells.toList ++ (enc y).drop (j + v.cells.size))
    (hi : (P.info? ty).map (·.size) = some v.cells.size) (h1 : ∀ u ∈ v.cells.toList, u.oneCell' = true) :
    ∃ w', (storeVar ty ⟨ablk s.A, aoff s.A + k * sz + j, none⟩ v).run P w = .ok () w' ∧ Own enc sz e w' 0 { s with xs := s.xs.set k y' } ∧ Touch s.blk.toList w w' := by
  have hkl : k < s.xs.length := (List.getElem?_eq_some_iff.1 hk).1
  have hA : ∃ a, s.A = some a := by
    obtain ⟨b, o, h, _⟩ := (ho.rd henc) k y hk
    exact ⟨_, h⟩
  obtain ⟨g, cur, hA', _, hlt, hh, hlc, hcm, hcs, ht⟩ := ho.form hA
  have hks : k * sz + sz ≤ s.xs.length * sz := by rw [← Nat.succ_mul]; exact Nat.mul_le_mul_right _ hkl
  have hxs : s.xs.length * sz ≤ s.c * sz := Nat.mul_le_mul_right _ hlc
  have hB : Rw w g e cur := hh
  obtain ⟨w', hrun, hr, hw⟩ := run_storeVar_row (P := P) w g (k * sz + j) e ty cur v hB (by omega) hi h1
  refine ⟨w', ?_, ?_, ?_⟩
  · rw [hA']; simpa [ablk, aoff] using hrun
  · have hjm : k * sz + j + v.cells.size ≤ s.xs.length * sz := by omega
    have hX : (cur.toList.take (k * sz + j) ++ v.cells.toList).length = k * sz + j + v.cells.size := by simp; omega
    have key : (cur.toList.take (k * sz + j) ++ v.cells.toList ++ cur.toList.drop (k * sz + j + v.cells.size)).take (s.xs.length * sz) = (s.xs.set k y').flatMap enc := by
      rw [List.take_append, List.take_of_length_le (by rw [hX]; exact hjm), hX, ← List.drop_take]
      have h0 := flat_set enc henc s.xs k y y' j v.cells.toList hk (by simpa using hy) (by simpa using hj)
      rw [← ht] at h0
      rw [← h0, List.take_take, Nat.min_eq_left (by omega)]
      simp
    refine ⟨by simp only [List.length_set, flat_len henc], .inr ⟨g, s.c, _, by simp only [hA', List.length_set], Nat.zero_le _, hr, by simpa using hlc, hcm, ?_, by simpa using key⟩⟩
    simp; omega
  · have hb : s.blk = some g := by simp [Sl.blk, hA']
    rw [hb]; exact touch_only hw
end
section
variable {P : Program} {ops : Array Oper} {rest : List Oper} {o : Oper} {a : Act} {w0 w : World} {L L' : List En} {Q : Go.Exit → Act → World → Prop} {α : Type} {enc : α → List Value} {sz e : Nat}
theorem run_store_el (H : Hp w0 w L) {s : Sl α} (tk : Take L (.sl enc sz e s) L') (henc : ∀ x, (enc x).length = sz) {k j : Nat} {y y' : α} {v : Value} {vs : List Value} {ty : TypeId} {n : Nat} [hN : TyN P ty n] (hk : s.xs[k]? = some y) (hv : CellsOf v vs) (hS : SetsAt (enc y) j vs (enc y')) (hn : vs.length = n) (h1 : vs.all Value.oneCell' = true) :
    ∃ w', (storeVar ty ⟨ablk s.A, aoff s.A + k * sz + j, none⟩ v).run P w = .ok () w' ∧ Hp w0 w' (.sl enc sz e { s with xs := s.xs.set k y' } :: L') := by
  have hvs := hv.eq
  have hsz : v.cells.size = vs.length := by rw [hvs]; simp
  obtain ⟨hs1, hs2⟩ := hS.eq
  rw [henc] at hs2
  obtain ⟨w', hr, ho, ht⟩ := own_set (P := P) (ty := ty) (H.get tk) henc (y' := y') hk (by rw [hsz]; exact hs2) (by rw [hvs]; simpa using hs1) (by rw [hsz, hn]; exact hN.size) (by rw [hvs]; intro u hu; exact List.all_eq_true.1 h1 u hu)
  exact ⟨w', hr, H.swap_at tk ht ho rfl⟩
/-- A part of an element of a slice of the call's own is written. -/
theorem wpList_store_el (hgd : Region.wanted o (yielded ops a.tmps) = true) {ty : TypeId} {x y0 : Operand} (ho : o.op = .store ty x y0) (H : Hp w0 w L) (s : Sl α) (tk : Take L (.sl enc sz e s) L') (henc : ∀ x, (enc x).length = sz) {k j : Nat}
    {q : Nat} (hx : a.eval x = .pointer (some ⟨ablk s.A, q, none⟩)) {v : Value} (hy : a.eval y0 = v) {n : Nat} [hN : TyN P ty n] (y y' : α) (hk : s.xs[k]? = some y) {vs : List Value} (hv : CellsOf v vs) (hS : SetsAt (enc y) j vs (enc y')) (hq : q = aoff s.A + k * sz + j) (hn : vs.length = n) (h1 : vs.all Value.oneCell' = true)
    (h : ∀ w', Hp w0 w' (.sl enc sz e { s with xs := s.xs.set k y' } :: L') → wpList P ops Q rest (a.put o.dst undef) w') : wpList P ops Q (o :: rest) a w := by
  subst hq
  refine BigFrame.wpList_want hgd fun _ hK => ?_
  obtain ⟨w', hr, hH⟩ := run_store_el (P := P) (ty := ty) H tk henc hk hv hS hn h1
  unfold Oper.wp execOp
  simp only [ho, hx, hy, Instr.storeAt, Instr.sureAddr, Sem.run_bind, Sem.run_pure, Result.andThen_ok, hr]
  exact hK _ _ (h w' hH)
theorem madeCells_flat (enc : α → List Value) (sz : Nat) (henc : ∀ x, (enc x).length = sz) (zc : Array Value) (z : α) (hz : enc z = zc.toList) (hs : zc.size = sz) (n : Nat) : (madeCells zc (n * sz)).toList = (List.replicate n z).flatMap enc := by
  subst hs
  apply List.ext_getElem?
  intro i
  by_cases hi : i < n * zc.size
  · have h1 : (madeCells zc (n * zc.size)).toList[i]? = some zc[i % zc.size]! := by
      simp [madeCells, hi]
    have hpos : 0 < zc.size := by rcases Nat.eq_zero_or_pos zc.size with h0 | h0; · rw [h0] at hi; omega
                                  · exact h0
    have hlt : i % zc.size < zc.size := Nat.mod_lt _ hpos
    have h2 : (enc z)[i % zc.size]? = some zc[i % zc.size]! := by
      rw [hz]; simp [hlt]
    have hk : i / zc.size < n := Nat.div_lt_of_lt_mul (by rw [Nat.mul_comm]; exact hi)
    have h3 := flat_get henc (List.replicate n z) (i / zc.size) z (i % zc.size) _ (by simp [hk]) h2
    rw [Nat.div_add_mod'] at h3
    rw [h1, h3]
  · rw [List.getElem?_eq_none (by simp [madeCells]; omega), List.getElem?_eq_none (by rw [flat_len henc]; simp; omega)]
theorem wpList_make_H (hgd : Region.wanted o (yielded ops a.tmps) = true) {t : TypeId} {x y : Operand} (ho : o.op = .makeSlice t x y) (H : Hp w0 w L) {bytes : Nat} [hE : EI P t enc sz bytes e] {zc : List Value} [hZ : TyZ P e zc] (z : α) (hz : enc z = zc) {n : Nat} (hx : a.eval x = .int .i64 n) (hy : a.eval y = .int .i64 n) (hn : n ≤ 4194304) (hb : bytes ≤ 4096)
    (h : ∀ b w', Hp w0 w' (.sl enc sz e ⟨some ⟨b, 0, none⟩, n, List.replicate n z⟩ :: L) → wpList P ops Q rest (a.put o.dst (.slice (some ⟨b, 0, none⟩) n n)) w') : wpList P ops Q (o :: rest) a w := by
  refine BigFrame.wpList_want hgd fun _ hK => ?_
  obtain ⟨i, z', hi, hz', hsize, hby, hzs⟩ := hE.info.hi
  have hzc : z'.cells = zc.toArray := by
    have h := hZ.zero
    rw [hi] at h
    simp only [Option.bind_some, hz', Option.map_some, Option.some.injEq] at h
    rw [← h]
  have hbb : i.bytes * n ≤ 281474976710656 := by
    rw [hby]; exact Nat.le_trans (Nat.mul_le_mul hb hn) (by decide)
  have hr := run_make_rowN (P := P) t e i z' hE.info.ht hi hz' .i64 .i64 n n (Nat.le_refl _) hbb (by omega) w
  unfold Oper.wp execOp
  simp only [ho, hx, hy, Sem.run_bind, Sem.run_pure, Result.andThen_ok, hr]
  refine hK _ _ (h _ _ (H.add_sl ?_ ((Below.refl _ _).alloc (Nat.le_refl _) _)))
  have hzl : zc.toArray.size = sz := by rw [← hzc]; exact hzs
  have hf := madeCells_flat enc sz hE.info.henc zc.toArray z (by simpa using hz) hzl n
  refine own_new w _ n _ (Nat.le_refl _) ?_ ?_ (by simp) (by simp [maxLen]; omega)
  · rw [hzc, hsize]; exact hf
  · rw [hsize]; simp [madeCells]
/-- The address of an element whose number is a natural number; the length said apart. -/
theorem wpList_index_n (hgd : Region.wanted o (yielded ops a.tmps) = true) {t : TypeId} {x ix : Operand} (ho : o.op = .indexAddr t x ix) {bytes : Nat} [hE : EI P t enc sz bytes e] (s : Sl α) (hs : Rd enc sz w s) {k m : Nat} (hx : a.eval x = .slice s.A m s.c) (hi : a.eval ix = .int .i64 k)
    (hm : s.xs.length = m) (h1 : k < m) (h : wpList P ops Q rest (a.put o.dst (.pointer (some ⟨ablk s.A, aoff s.A + k * sz, none⟩))) w) : wpList P ops Q (o :: rest) a w := by
  subst hm
  exact wpList_index_nat hgd ho s hs hx hi h1 h
end
end Go.Proofs.YtaafnenmdombiaaGreat
